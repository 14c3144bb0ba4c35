/- Part 7 of a proof: Di. Words and walks that a program printed for this claim stand here without what the claim does not use. -/
import Derived.Test.YtficdonjodadlaaProg
import Derived.Below
import Derived.Laws.RangeAny
import Derived.LoopTactic
import Derived.Test.YtficdonjodadlaaDi3
import Derived.Test.YtficdonjodadlaaDi4
import Derived.Test.YtficdonjodadlaaDi6
set_option linter.unusedSimpArgs false
set_option linter.unusedVariables false
section
set_option linter.unusedVariables false
set_option linter.unusedSimpArgs false
namespace Go.Proofs.Ytficdonjodadlaa.Mk
open Go.RowKit Go.Proofs Go.Ev
attribute [local go_sem] Oper.semAt_some
def clB2 (b : IV) (e f : Nat) : Bool := !decide (e = f) && (asL (fld ((asL (fld b 1)).getD e .N) 1)).any fun x => (asL (fld ((asL (fld b 1)).getD f .N) 1)).any fun y => decide (asI y = asI x)
section
variable (w : World) (cs3 : Array Value) (vy : Value) (b : IV) (len : Nat) (Y : Nat → Bool)
def ID (W : World) (v : Bool) : Prop := (W.heap[w.heap.size]? = some (.cells cs3 29 (0, 0)) ∧ Boxed W (w.heap.size + 1) 51 vy) ∧ Boxed W (w.heap.size + 1 + 1) 4 (.bool v)
def I1 (pre : List (Fin len)) (W : World) : Prop := ID w cs3 vy W false ∧ Below w.heap.size w W ∧ pre.any (fun e => (mkS len Y).any fun f => clB2 b e.val f.val) = false
def X1 (c : Code) (pre : List (Fin len)) (W : World) : Prop := Boxed W (w.heap.size + 1 + 1) 4 (.bool true) ∧ Below w.heap.size w W ∧ (c = .ret ∧ pre.any (fun e => (mkS len Y).any fun f => clB2 b e.val f.val) = true)
def I2 (W0 W1 : World) (Bx e : Nat) (pre : List (Fin len)) (W : World) : Prop := (ID w cs3 vy W false ∧ Boxed W Bx 3 (.int .i64 (e : Int))) ∧ (Below w.heap.size W1 W ∧ KeepsFrom W0.heap.size W1 W) ∧ pre.any (fun f => clB2 b e f.val) = false
def X2 (W0 W1 : World) (e : Nat) (c : Code) (pre : List (Fin len)) (W : World) : Prop := Boxed W (w.heap.size + 1 + 1) 4 (.bool true) ∧ (Below w.heap.size W1 W ∧ KeepsFrom W0.heap.size W1 W) ∧ (c = .ret ∧ pre.any (fun f => clB2 b e f.val) = true)
variable {w cs3 vy b len Y}
theorem ID.own {β : Type} (v : Bool) (B : Nat) : OwnFrom B (fun (_ : β) W => ID w cs3 vy W v) := OwnFrom.and (OwnFrom.and (Own.from (blk_own _ _ _) _) (Own.from (boxed_own _ _ _) _)) (Own.from (boxed_own _ _ _) _)
theorem I1.own {W0 : World} (h : w.heap.size ≤ W0.heap.size) : OwnFrom W0.heap.size (I1 w cs3 vy b len Y) := OwnFrom.and (ID.own _ _) (OwnFrom.and (ownFrom_below (Nat.le_refl _) h) (ownFrom_pure _ _))
theorem X1.own {W0 : World} (h : w.heap.size ≤ W0.heap.size) (c : Code) : OwnFrom W0.heap.size (X1 w b len Y c) := OwnFrom.and (Own.from (boxed_own _ _ _) _) (OwnFrom.and (ownFrom_below (Nat.le_refl _) h) (ownFrom_pure _ _))
theorem I2.own {W0 W1 W2 : World} {Bx e : Nat} (h : w.heap.size ≤ W1.heap.size) (h2 : w.heap.size ≤ W2.heap.size) (h3 : W1.heap.size ≤ W2.heap.size) : OwnFrom W2.heap.size (I2 w cs3 vy b len W0 W1 Bx e) :=
  OwnFrom.and (OwnFrom.and (ID.own _ _) (Own.from (boxed_own _ _ _) _)) (OwnFrom.and (OwnFrom.and (ownFrom_below h h2) (ownFrom_keepsFrom h3)) (ownFrom_pure _ _))
theorem X2.own {W0 W1 W2 : World} {e : Nat} (h : w.heap.size ≤ W1.heap.size) (h2 : w.heap.size ≤ W2.heap.size) (h3 : W1.heap.size ≤ W2.heap.size) (c : Code) : OwnFrom W2.heap.size (X2 w b len W0 W1 e c) :=
  OwnFrom.and (Own.from (boxed_own _ _ _) _) (OwnFrom.and (OwnFrom.and (ownFrom_below h h2) (ownFrom_keepsFrom h3)) (ownFrom_pure _ _))
end
theorem cl_any {b : IV} {len : Nat} {X Y : Nat → Bool} (hlen : (asL (fld b 1)).length = len) : CLf b X Y = (mkS len X).any fun e => (mkS len Y).any fun f => clB2 b e.val f.val := by
  have h : (fun e : Fin len => (mkS len Y).any fun f => clB2 b e.val f.val) = fun e : Fin len => (fun i : Nat => (List.range len).any fun k => Y k && clB2 b i k) e.val := by
    funext e; exact mkS_any (q := fun k => clB2 b e.val k)
  rw [h, mkS_any (q := fun i : Nat => (List.range len).any fun k => Y k && clB2 b i k)]
  unfold CLf clB2
  rw [hlen]
  congr 1; funext i
  rw [Bool.eq_iff_iff]
  simp only [List.any_eq_true, Bool.and_eq_true]
  constructor
  · rintro ⟨k, hk, ⟨⟨h1, h2⟩, h3⟩, h4⟩; exact ⟨h2, k, hk, h3, h1, h4⟩
  · rintro ⟨h2, k, hk, h3, h1, h4⟩; exact ⟨k, hk, ⟨⟨h1, h2⟩, h3⟩, h4⟩
set_option maxRecDepth 100000 in
set_option maxHeartbeats 8000000 in
theorem clash_calls (b : IV) (v0 v1 : Value) (A1 A2 : Option Addr) (c1 c2 : Nat) (X Y : Nat → Bool) (w : World) (E0 : Nat → Prop) (hE : ∀ b, E0 b → b < w.heap.size) (hrep : Rep tab w E0 29 b [v0, v1]) (hok : Ok b) (hfd : FD b = true) (hz : (asL (fld b 1)).length ≤ 1000000)
    (hr1 : ∀ j, j < (asL (fld b 1)).length → ∃ ad, A1 = some ad ∧ w.cell? (ad.add j) = some (.bool (X j)))
    (hr2 : ∀ j, j < (asL (fld b 1)).length → ∃ ad, A2 = some ad ∧ w.cell? (ad.add j) = some (.bool (Y j))) :
    Calls Try.prog 59 #[.agg #[v0, v1], .slice A1 (asL (fld b 1)).length c1, .slice A2 (asL (fld b 1)).length c2] w fun e w' => e = .returned (.bool (CLf b X Y)) ∧ Below w.heap.size w w' := by
  obtain ⟨len, hlen⟩ : ∃ len, (asL (fld b 1)).length = len := ⟨_, rfl⟩
  rw [hlen] at hr1 hr2 hz ⊢
  have f1 : Fence.wide.fn 84 := trivial
  have HL2 := Aside.mk hr2
  clear hr2
  refine callsIn_wide.1 (callsIn_of_wp_marks (n := 20) Try.func59 rfl trivial ?_ rfl)
  simp only [Try.ntmps59, List.size_toArray, List.length_cons, List.length_nil, Nat.reduceAdd, Nat.reduceSub, Array.replicate_succ, Array.replicate_zero, List.push_toArray, List.append_toArray, List.nil_append, List.cons_append]
  gi_wp2_with (gi_at_call 84; refine (marked_in Fence.wide _ trivial rfl _ _ _ _).mono ?_; rintro e w' ⟨rfl, rfl⟩)
  have hsz : ((((w.alloc (Obj.cells #[v0, v1] 29)).alloc (Obj.cells #[.slice A2 len c2] 51)).alloc (Obj.cells #[Value.bool false] 4)).alloc (.cells #[.slice A1 len c1] 51)).heap.size = w.heap.size + 4 := by simp
  have hB0 : Below w.heap.size w ((((w.alloc (Obj.cells #[v0, v1] 29)).alloc (Obj.cells #[.slice A2 len c2] 51)).alloc (Obj.cells #[Value.bool false] 4)).alloc (.cells #[.slice A1 len c1] 51)) := ((((Below.refl _ w).alloc (Nat.le_refl _) _).alloc (by simp) _).alloc (by simp; omega) _).alloc (by simp; omega) _
  have b3 := blk_alloc (blk_alloc (blk_alloc (blk_new w (Obj.cells #[v0, v1] 29)) (Obj.cells #[.slice A2 len c2] 51)) (Obj.cells #[Value.bool false] 4)) (.cells #[.slice A1 len c1] 51)
  have b5 := ((Boxed.new (w.alloc (Obj.cells #[v0, v1] 29)) 51 (.slice A2 len c2)).alloc (Obj.cells #[Value.bool false] 4)).alloc (.cells #[.slice A1 len c1] 51)
  have b6 := (Boxed.new ((w.alloc (Obj.cells #[v0, v1] 29)).alloc (Obj.cells #[.slice A2 len c2] 51)) 4 (Value.bool false)).alloc (.cells #[.slice A1 len c1] 51)
  have b7 := Boxed.new (((w.alloc (Obj.cells #[v0, v1] 29)).alloc (Obj.cells #[.slice A2 len c2] 51)).alloc (Obj.cells #[Value.bool false] 4)) 51 (.slice A1 len c1)
  simp only [World.size_alloc] at b5 b6 b7
  obtain ⟨W0, hW0⟩ : ∃ W0, ((((w.alloc (Obj.cells #[v0, v1] 29)).alloc (Obj.cells #[.slice A2 len c2] 51)).alloc (Obj.cells #[Value.bool false] 4)).alloc (.cells #[.slice A1 len c1] 51)) = W0 := ⟨_, rfl⟩
  rw [hW0] at hsz hB0 b3 b5 b6 b7 ⊢
  clear hW0
  refine wpIn_rangeFunc_ownH rfl (by decide) (gf := 91) (lb := #[.pointer (some ⟨w.heap.size + 1 + 1 + 1, 0, none⟩)]) rfl trivial (fun args w' => enters_ Try.func91 (by kernel_rfl) rfl args w')
    (mk_stops Fence.wide _ trivial rfl (by decide) (w.heap.size + 1 + 1 + 1) w A1 c1 len X hr1 hz W0 (by omega) b7.cell hB0) belowK_t (belowK_b (by omega)) (Below.refl _ _) (fun _ => rfl)
    (I1 w #[v0, v1] (.slice A2 len c2) b len Y)
    (X1 w b len Y)
    (I1.own (by omega)) (X1.own (by omega))
    ⟨⟨⟨b3, b5⟩, b6⟩, hB0, rfl⟩
    (fun x a' W => ∃ Bx, w.heap.size + 1 + 1 < Bx ∧ Boxed W Bx 3 (.int .i64 ((x.val : Nat) : Int)) ∧ a' = { tmps := #[Value.agg #[v0, v1], Value.slice A1 len c1, Value.slice A2 len c2, Value.pointer (some { block := w.heap.size, off := 0 }), undef, Value.pointer (some { block := w.heap.size + 1, off := 0 }), Value.pointer (some { block := w.heap.size + 1 + 1, off := 0 }), .pointer (some ⟨Bx, 0, none⟩), undef, undef, undef, Value.slice A1 len c1, Value.func (Fn.func 91) #[] #[Value.pointer (some { block := w.heap.size + 1 + 1 + 1, off := 0 })], .int .i64 ((x.val : Nat) : Int), undef, undef, undef, undef, undef, undef, undef, undef, undef, undef, undef, undef, undef, undef, undef, undef, undef, undef, undef, undef, undef, undef, undef, undef, undef, undef], defers := [] })
    (fun x a' _ X Y row hs hg hr => by obtain ⟨Bx, h1, h2, h3⟩ := hs; exact ⟨Bx, h1, boxed_own Bx 3 (fun (_ : Unit) => Value.int .i64 ((x.val : Nat) : Int)) () X Y row h2 hg (fun r e => (hr r e).2), h3⟩)
    ?assign ?body ?done ?stop
  case assign =>
    rintro l pre x W K ⟨⟨⟨h3, h5⟩, h6⟩, hB1, hp⟩ hK
    gi_wp2
    exact hK _ _ ((KeepsOthers.alloc _ _).from _) ((Below.refl _ W).alloc hB1.size _) ⟨⟨⟨blk_alloc h3 _, h5.alloc _⟩, h6.alloc _⟩, hB1.alloc hB1.size _, hp⟩ ⟨W.heap.size, h6.lt, Boxed.new W 3 _, rfl⟩
  case body =>
    rintro l pre x a' W hl ⟨lr, hlr⟩ ⟨⟨⟨h3, h5⟩, h6⟩, hBW, hpre⟩ ⟨Bx, hBx, bX, rfl⟩ hlt
    have c5 := h5.cell
    have h1' : 1 ≤ 20 - 1 - 1 := by omega
    have HPRE := Aside.mk hpre
    clear hpre
    gi_wp2_with (gi_at_call 84; refine (CallsIn.inRound l (marked_in Fence.wide _ trivial rfl _ _ _ _)).mono ?_; rintro e w' ⟨rfl, rfl⟩)
    have hsW := hBW.size
    have bN := Boxed.new W 51 (.slice A2 len c2)
    have hr' : (W.alloc (.cells #[.slice A2 len c2] 51)).heap[l]? = some (.loop lr) := (Below.heap_alloc W _ l (Array.getElem?_eq_some_iff.1 hlr).1).trans hlr
    obtain ⟨W1, hW1⟩ : ∃ W1, W.alloc (.cells #[.slice A2 len c2] 51) = W1 := ⟨_, rfl⟩
    have hWW1 : Below w.heap.size W W1 := by rw [← hW1]; exact (Below.refl _ W).alloc hsW _
    have hKW1 : KeepsFrom W0.heap.size W W1 := by rw [← hW1]; exact (KeepsOthers.alloc _ _).from _
    have hs1 : W1.heap.size = W.heap.size + 1 := by rw [← hW1]; simp
    have i3 : W1.heap[w.heap.size]? = some (.cells #[v0, v1] 29 (0, 0)) := by rw [← hW1]; exact blk_alloc h3 _
    have i5 : Boxed W1 (w.heap.size + 1) 51 (.slice A2 len c2) := by rw [← hW1]; exact h5.alloc _
    have i6 : Boxed W1 (w.heap.size + 1 + 1) 4 (.bool false) := by rw [← hW1]; exact h6.alloc _
    have iX : Boxed W1 Bx 3 (.int .i64 ((x.val : Nat) : Int)) := by rw [← hW1]; exact bX.alloc _
    rw [hW1] at bN hr' ⊢
    refine wpIn_rangeFunc_ownN (F := Fence.wide.inRound l) rfl hr' h1' (gf := 91) (lb := #[.pointer (some ⟨W.heap.size, 0, none⟩)]) rfl trivial (fun args w' => enters_ Try.func91 (by kernel_rfl) rfl args w')
      ((mk_stops Fence.wide _ trivial rfl (by decide) W.heap.size w A2 c2 len Y HL2.out hz W1 (by omega) bN.cell (hBW.trans hWW1)).inRound l) belowK_t (belowK_b (by omega)) (Below.refl _ _) (fun _ => rfl)
      (I2 w #[v0, v1] (.slice A2 len c2) b len W0 W1 Bx x.val) (X2 w b len W0 W1 x.val)
      (I2.own (by omega) (by omega) (Nat.le_refl _)) (X2.own (by omega) (by omega) (Nat.le_refl _))
      ⟨⟨⟨⟨i3, i5⟩, i6⟩, iX⟩, ⟨Below.refl _ _, KeepsFrom.refl _ _⟩, rfl⟩
      (fun f a' _ => a' = { tmps := #[Value.agg #[v0, v1], Value.slice A1 len c1, Value.slice A2 len c2, Value.pointer (some { block := w.heap.size, off := 0 }), undef, Value.pointer (some { block := w.heap.size + 1, off := 0 }), Value.pointer (some { block := w.heap.size + 1 + 1, off := 0 }), Value.pointer (some { block := Bx, off := 0 }), .int .i64 ((f.val : Nat) : Int), undef, undef, Value.slice A1 len c1, Value.func (Fn.func 91) #[] #[Value.pointer (some { block := w.heap.size + 1 + 1 + 1, off := 0 })], .int .i64 ((x.val : Nat) : Int), Value.slice A2 len c2, Value.func (Fn.func 91) #[] #[Value.pointer (some { block := W.heap.size, off := 0 })], .int .i64 ((f.val : Nat) : Int), undef, undef, undef, undef, undef, undef, undef, undef, undef, undef, undef, undef, undef, undef, undef, undef, undef, undef, undef, undef, undef, undef, undef], defers := [] })
      (fun f a' s X Y row hs hg hr => hs)
      ?assign2 ?body2 ?done2 ?stop2
    case assign2 =>
      rintro l2 pre2 f W2 K hI hK
      gi_wp2
      exact hK _ _ (KeepsFrom.refl _ _) (Below.refl _ _) hI rfl
    case body2 =>
      rintro l2 pre2 f a' W2 hl2 ⟨lr2, hlr2⟩ ⟨⟨⟨⟨k3, k5⟩, k6⟩, kX⟩, ⟨hB2, hK2⟩, hp2⟩ rfl hlt2
      obtain ⟨bs, hbs⟩ : ∃ bs : List Nat, bs = [w.heap.size + 1 + 1] := ⟨_, rfl⟩
      obtain ⟨LS, hLS⟩ : ∃ LS : List (Nat × SV), LS = [(3, .v (.a (.pv 1 29 b))), (6, .v (.a (.ptr 0 [] 4))), (7, .v (.a (.pv 1 3 (.I ((x.val : Nat) : Int))))), (8, .v (.a (.int .i64 ((f.val : Nat) : Int))))] := ⟨_, rfl⟩
      have hWs : w.heap.size + 1 + 1 < W2.heap.size := (Array.getElem?_eq_some_iff.1 k6).1
      have hXs : Bx < W2.heap.size := (Array.getElem?_eq_some_iff.1 kX).1
      have hBw2 : Below w.heap.size w W2 := (hBW.trans hWW1).trans hB2
      refine round_body (B := w.heap.size) (bs := bs) (S := fun k => k < w.heap.size + 1 ∨ k = Bx) (fx := fxB) (call := callH) (k := maxLen + 2) (cur := 0) (st := ⟨envU 40 LS, [some (.box true 4 [] (.a (.bool false)))]⟩) (R := fun e s => if clB2 b x.val f.val = true then e = .ret ∧ s.row 0 = some (.box true 4 [] (.a (.bool true))) else e = .normal ∧ s.row 0 = some (.box true 4 [] (.a (.bool false)))) tabOk mixed callH_ok ?_ ?_ ?_ ?_ ?_ (by kernel_rfl) ?_ ?_ ?_ rfl ?_ ?_ ?_ ?_
      · intro k hk; subst hbs; simp only [List.mem_singleton]; rcases hk with hk | hk <;> omega
      · intro k hk; subst hbs; simp only [List.mem_singleton] at hk; subst hk; omega
      · omega
      · subst hbs; simp
      · intro k hk o ho; subst hbs; simp only [List.mem_singleton] at hk; subst hk
        have : W2.heap[w.heap.size + 1 + 1]? = some (.cells #[.bool false] 4 (0, 0)) := k6
        rw [this] at ho; cases ho; rfl
      · rintro ⟨a1, w1, h⟩; exact h
      · refine rn ?_
        have hi : x.val < len := x.isLt
        have hi2 : f.val < len := f.isLt
        have hle : Ok (fld ((asL (fld b 1)).getD x.val .N) 1) := ok_fld (ok_getD (ok_fld hok))
        have hcl : Ok (fld ((asL (fld b 1)).getD f.val .N) 1) := ok_fld (ok_getD (ok_fld hok))
        have hl2 := ok_len hle
        obtain ⟨st, hst⟩ : ∃ st : St, st = ⟨envU 40 LS, [some (.box true 4 [] (.a (.bool false)))]⟩ := ⟨_, rfl⟩
        have hn : st.env.length = 40 := by rw [hst]; exact envU_len _
        have g3 : st.get (.tmp 3) = .v (.a (.pv 1 29 b)) := by rw [hst, hLS]; rfl
        have g6 : st.get (.tmp 6) = .v (.a (.ptr 0 [] 4)) := by rw [hst, hLS]; rfl
        have g7 : st.get (.tmp 7) = .v (.a (.pv 1 3 (.I ((x.val : Nat) : Int)))) := by rw [hst, hLS]; rfl
        have g8 : st.get (.tmp 8) = .v (.a (.int .i64 ((f.val : Nat) : Int))) := by rw [hst, hLS]; rfl
        have r0 : st.row 0 = some (.box true 4 [] (.a (.bool false))) := by rw [hst]; rfl
        rw [← hst]
        clear hst
        generalize x.val = xe at *
        generalize f.val = fe at *
        unfold callH clB2
        by_cases hxf : xe = fe
        · subst hxf
          simp (maxDischargeDepth := 9) only [go_sem, Nat.reduceMul, Nat.reduceAdd, Nat.reduceLeDiff, Int.reduceSub, Int.reduceNeg, Int.reduceLT, Int.reduceLE, Int.reduceEq, *, hiB, clB]
        simp (maxDischargeDepth := 9) only [go_sem, Nat.reduceMul, Nat.reduceAdd, Nat.reduceLeDiff, Int.reduceSub, Int.reduceNeg, Int.reduceLT, Int.reduceLE, Int.reduceEq, *, hiB, clB]
        refine gen_st (fun s0 hg hr hn0 => ?_)
        have e3 := hg 3
        have e6 := hg 6
        have e8 := hg 8
        have e25 := hg 25
        have e26 := hg 26
        have e27 := hg 27
        have q0 := hr 0
        clear hg hr
        simp only [go_sem, *, hiB] at hn0 e3 e6 e8 e25 e26 e27 q0
        refine nr (runs_for (asL (fld ((asL (fld b 1)).getD xe .N) 1)) (fun (_ : Unit) y => if ((asL (fld ((asL (fld b 1)).getD fe .N) 1)).any fun z => decide (asI z = asI y)) = true then .ret true else .next ()) () 40 (fun i a => [(3, s0.get (.tmp 3)), (6, s0.get (.tmp 6)), (8, s0.get (.tmp 8)), (25, s0.get (.tmp 25)), (26, s0.get (.tmp 26)), (27, .v (.a (.int .i64 (i : Nat))))]) (fun i a => [(0, s0.row 0)]) (fun i a => True) (by omega) ?_ trivial ?_ ?_ ?_ ?_)
        · simp (maxDischargeDepth := 9) only [go_sem, Nat.reduceMul, Nat.reduceAdd, Nat.reduceLeDiff, Int.reduceSub, Int.reduceNeg, Int.reduceLT, Int.reduceLE, Int.reduceEq, *, hiB, clB]
        · intro i a; simp (maxDischargeDepth := 9) only [go_sem, Nat.reduceMul, Nat.reduceAdd, Nat.reduceLeDiff, Int.reduceSub, Int.reduceNeg, Int.reduceLT, Int.reduceLE, Int.reduceEq, *, hiB, clB]
        · intro i a; simp (maxDischargeDepth := 9) only [go_sem, Nat.reduceMul, Nat.reduceAdd, Nat.reduceLeDiff, Int.reduceSub, Int.reduceNeg, Int.reduceLT, Int.reduceLE, Int.reduceEq, *, hiB, clB]
        · intro i y a s hx hi9 hI hS
          clear hn0 e27
          simp only [go_sem] at hS
          obtain ⟨f3, f6, f8, f25, f26, f27, m0, hn⟩ := hS
          have hw := wrap_succ hi9 hl2
          have hans := has_ans (fun _ _ _ => none) (maxLen + 2) (fld ((asL (fld b 1)).getD fe .N) 1) (asI y) 1 (Nat.le_refl _) hcl
          refine rn ?_
          simp (maxDischargeDepth := 9) only [go_sem, Nat.reduceMul, Nat.reduceAdd, Nat.reduceLeDiff, Int.reduceSub, Int.reduceNeg, Int.reduceLT, Int.reduceLE, Int.reduceEq, *, hiB, clB, hans]
          repeat' (first | (with_reducible refine condLt (fun h h' => ?_) (fun h h' => ?_)) | (with_reducible refine condLe (fun h h' => ?_) (fun h h' => ?_)) | (with_reducible refine dop_val ?_) | (with_reducible refine YsLt (fun h h' => ?_) (fun h h' => ?_)) | (with_reducible refine YsLe (fun h h' => ?_) (fun h h' => ?_)) | (with_reducible refine condP (fun h => ?_) (fun h => ?_)) | (with_reducible refine condN (fun h => ?_) (fun h => ?_)) | (with_reducible refine condB (fun h => ?_) (fun h => ?_)) | (with_reducible refine condR (fun h => ?_) (fun h => ?_)) | (with_reducible refine YsB (fun h => ?_) (fun h => ?_)) | (with_reducible refine YsC (fun h => ?_) (fun h => ?_)) | (with_reducible refine Ys_ite (fun h => ?_) (fun h => ?_)) | (intro h) | (with_reducible refine draw_look (by kernel_rfl) (by kernel_rfl) ?_) | (simp (maxDischargeDepth := 9) only [go_sem, Nat.reduceMul, Nat.reduceAdd, Nat.reduceLeDiff, Int.reduceSub, Int.reduceNeg, Int.reduceLT, Int.reduceLE, Int.reduceEq, *, hiB, clB, hans]) | (exfalso; omega))
        · intro a s hI hf hS
          clear hn0 e27
          simp only [go_sem] at hS
          obtain ⟨f3, f6, f8, f25, f26, f27, m0, hn⟩ := hS
          try simp only [go_sem] at hf
          refine rn ?_
          simp (maxDischargeDepth := 9) only [go_sem, Nat.reduceMul, Nat.reduceAdd, Nat.reduceLeDiff, Int.reduceSub, Int.reduceNeg, Int.reduceLT, Int.reduceLE, Int.reduceEq, *, hiB, clB]
      · simp [envU_len]
      · intro i
        have hrepW : Rep tab W2 ((bCx Try.prog tab W2 (fun k => k < w.heap.size + 1 ∨ k = Bx) bs).E (bNm bs) 1) 29 b [v0, v1] := Rep.mono (fun k hk => Or.inl (Or.inl (by have := hE k hk; omega))) (fun k hk => hBw2.block k (hE k hk)) hrep
        show Slot _ _ _ W2 ((envU 40 LS).getD i U) _
        rcases envU_get (n := 40) (i := i) LS with h | ⟨q, hq, h1, h2⟩
        · rw [h]; exact fun hu => by cases hu
        · rw [h2]
          subst h1
          rw [hLS] at hq
          simp only [List.mem_cons, List.not_mem_nil, or_false] at hq
          rcases hq with rfl | rfl | rfl | rfl
          · refine fun _ => ⟨[.pointer (some ⟨w.heap.size, 0, none⟩)], ⟨w.heap.size, 0, [v0, v1], rfl, hrepW, Or.inl (Or.inl (by omega)), fun j u hj => ?_⟩, rfl⟩
            rw [blk_cell k3]; simpa using hj
          · exact fun _ => ⟨[.pointer (some ⟨w.heap.size + 1 + 1, 0, none⟩)], ⟨w.heap.size + 1 + 1, 0, .box 4, rfl, rfl, by rw [hbs]; rfl, rfl⟩, rfl⟩
          · refine fun _ => ⟨[.pointer (some ⟨Bx, 0, none⟩)], ⟨Bx, 0, [.int .i64 ((x.val : Nat) : Int)], rfl, Rep.int ty3, Or.inl (Or.inr rfl), fun j u hj => ?_⟩, rfl⟩
            have kX' : W2.heap[Bx]? = some (.cells #[.int .i64 ((x.val : Nat) : Int)] 3 (0, 0)) := kX
            rw [blk_cell kX']; simpa using hj
          · exact fun _ => ⟨[.int .i64 ((f.val : Nat) : Int)], rfl, rfl⟩
      · intro j r hj
        match j, hj with
        | 0, hj =>
          have : r = .box true 4 [] (.a (.bool false)) := (Option.some.inj hj).symm
          subst this
          exact ⟨w.heap.size + 1 + 1, [.bool false], by rw [hbs]; rfl, k6, ⟨rfl, fun _ => by rfl, rfl, fun u hu => by simp at hu; subst hu; rfl⟩, (by rw [show (bCx Try.prog tab W2 (fun k => k < w.heap.size + 1 ∨ k = Bx) bs).T.ty 4 = .bool from ty4]; exact fun h => (by cases h)), fun _ => rfl⟩
        | j + 1, hj => cases j <;> cases hj
      · intro j hj
        match j, hj with
        | 0, hj => rw [hbs]; exact Nat.zero_lt_one
        | j + 1, hj => cases j <;> cases hj
      · intro e st' N' a' W' hR hK hB hkeep hrel
        have hB3 : Below w.heap.size W1 W' := hB2.trans hB
        have hK3 : KeepsFrom W1.heap.size W2 W' := ⟨hK.size, fun k o hk h1 h2 => hK.same k o (by omega) h1 h2⟩
        have hK4 : KeepsFrom W0.heap.size W1 W' := hK2.trans ⟨hK.size, fun k o hk h1 h2 => hK.same k o (by omega) h1 h2⟩
        have hbox : ∀ v : Bool, st'.row 0 = some (.box true 4 [] (.a (.bool v))) → Boxed W' (w.heap.size + 1 + 1) 4 (.bool v) := by
          intro v hv
          obtain ⟨b', cs, hβ, hheap, hV, _, hx⟩ := hrel.rows 0 _ hv
          have hβ2 := hx rfl
          have hb0 : bβ bs 0 = .pointer (some ⟨w.heap.size + 1 + 1, 0, none⟩) := by rw [hbs]; rfl
          have hβ3 : (Value.pointer (some ⟨b', 0, none⟩)) = .pointer (some ⟨w.heap.size + 1 + 1, 0, none⟩) := hβ.symm.trans (hβ2.trans hb0)
          have : b' = w.heap.size + 1 + 1 := by injection hβ3 with h; injection h with h; injection h
          subst this
          have hcs : cs = [.bool v] := hV.1
          subst hcs
          exact hheap
        by_cases hh : clB2 b x.val f.val = true
        · rw [if_pos hh] at hR
          obtain ⟨rfl, hrow⟩ := hR
          exact ⟨hK3, hbox true hrow, ⟨hB3, hK4⟩, rfl, by simp [hh]⟩
        · rw [if_neg hh] at hR
          obtain ⟨rfl, hrow⟩ := hR
          have hk3 : W'.heap[w.heap.size]? = some (.cells #[v0, v1] 29 (0, 0)) := (hkeep _ (by omega) (by rw [hbs, List.mem_singleton]; omega)).trans k3
          have hk5 : Boxed W' (w.heap.size + 1) 51 (.slice A2 len c2) := (hkeep _ (by omega) (by rw [hbs, List.mem_singleton]; omega)).trans k5
          have hkX : Boxed W' Bx 3 (.int .i64 ((x.val : Nat) : Int)) := (hkeep _ (by omega) (by rw [hbs, List.mem_singleton]; omega)).trans kX
          exact ⟨hK3, hB, ⟨⟨⟨hk3, hk5⟩, hbox false hrow⟩, hkX⟩, ⟨hB3, hK4⟩, by simp [hp2, hh]⟩
    case done2 =>
      rintro zs W2 rfl ⟨⟨hID, kX⟩, ⟨hB2, hK2⟩, hp2⟩
      exact ⟨hKW1.trans hK2, hWW1.trans hB2, hID, hBW.trans (hWW1.trans hB2), by rw [List.any_append, HPRE.out]; simp [hp2]⟩
    case stop2 =>
      rintro c pre2 W2 hpre2 ⟨k6, ⟨hB2, hK2⟩, rfl, hp2⟩
      have hany : (mkS len Y).any (fun f => clB2 b x.val f.val) = true := by
        obtain ⟨t, ht⟩ := hpre2
        rw [← ht, List.any_append, hp2]; rfl
      exact wpIn_ret ⟨hKW1.trans hK2, k6, hBW.trans (hWW1.trans hB2), rfl, by rw [List.any_append]; simp [hany]⟩
  case done =>
    rintro D zs W hD rfl ⟨⟨⟨h3, h5⟩, h6⟩, hBW, hp⟩ hK
    have c6 := h6.cell
    have f6 := h6.frozen
    gi_wp2
    have hc2 : (W.setCell ⟨w.heap.size + 1 + 1, 0, none⟩ (.bool false)).cell? ⟨w.heap.size + 1 + 1, 0, none⟩ = some (.bool false) := (Boxed.set _ h6).cell
    refine ⟨by simp, .inl ⟨_, _, rfl, run_takeDeferred ((KeepsOthers.setCell W ⟨w.heap.size + 1 + 1, 0, none⟩ _).same _ _ hK rfl), ?_⟩⟩
    refine ⟨.bool false, ?_, by rw [cl_any hlen, hp], (below_set hBW (by omega)).trans (belowK_b (w := w) (Nat.le_refl _) _ D _ _ (by omega) ((KeepsOthers.setCell W ⟨w.heap.size + 1 + 1, 0, none⟩ _).same _ _ hK rfl) rfl rfl)⟩
    have hc3 : ((W.setCell ⟨w.heap.size + 1 + 1, 0, none⟩ (.bool false)).putObj D (.deferred none)).cell? ⟨w.heap.size + 1 + 1, 0, none⟩ = some (.bool false) := (blk_cell ((World.putObj_heap_other (by omega)).trans (Boxed.set (.bool false) h6)) 0).trans rfl
    simp [results, show Try.f59.results = #[.cell 6 4] from rfl, asAddr, loadVar, go_sem, hc3, Try.underlying4]
  case stop =>
    rintro D c pre W hD hpre ⟨h6, hBW, rfl, hp⟩ hK
    have c6 := h6.cell
    gi_wp2
    have hany : (mkS len X).any (fun e => (mkS len Y).any fun f => clB2 b e.val f.val) = true := by
      obtain ⟨t, ht⟩ := hpre
      rw [← ht, List.any_append, hp]; rfl
    refine ⟨by simp, .inl ⟨_, _, rfl, run_takeDeferred hK, ?_⟩⟩
    refine ⟨.bool true, ?_, by rw [cl_any hlen, hany], hBW.trans (belowK_b (w := w) (Nat.le_refl _) _ D _ _ (by omega) hK rfl rfl)⟩
    have hc3 : (W.putObj D (.deferred none)).cell? ⟨w.heap.size + 1 + 1, 0, none⟩ = some (.bool true) := (blk_cell ((World.putObj_heap_other (by omega)).trans h6) 0).trans rfl
    simp [results, show Try.f59.results = #[.cell 6 4] from rfl, asAddr, loadVar, go_sem, hc3, Try.underlying4]
end Go.Proofs.Ytficdonjodadlaa.Mk
end
section
set_option linter.unusedVariables false
set_option linter.unusedSimpArgs false
namespace Go.Proofs.Ytficdonjodadlaa.Mk
open Go.RowKit Go.Proofs Go.Ev
theorem net_Name.width (s : ByteArray) (pos : Nat) (h : pos < s.size) : 1 ≤ (Utf8.decode s pos).2 := by
  by_cases ha : (s[pos]'h).toNat < 128
  · rw [decode_ascii s pos h ha]; exact Nat.le_refl _
  · exact (decode_high s pos h (by omega)).2
theorem nmL_end (s : ByteArray) (b pos : Nat) (h : ¬ pos < s.size) : nmL s b pos = true := by
  cases b with
  | zero => rfl
  | succ b => simp [nmL, h]
theorem nm_go {w : World} {s : ByteArray} {pos b : Nat} {Z : Bool} (hp : pos < s.size) (hc : nmL s b pos = Z) (hb : s.size ≤ pos + b) (hwd : 1 ≤ (Utf8.decode s pos).2) (ok : nmOk (Utf8.decode s pos).1 pos = true) :
    ∃ pos' b', w.iter s (pos + (Utf8.decode s pos).2) = w.iter s pos' ∧ nmL s b' pos' = Z ∧ s.size ≤ pos' + b' := by
  cases b with
  | zero => omega
  | succ b => exact ⟨_, b, rfl, by rw [← hc, nmL, if_pos hp, if_pos ok], by omega⟩
theorem nm_stop {s : ByteArray} {pos b : Nat} {Z : Bool} (hp : pos < s.size) (hc : nmL s b pos = Z) (hb : s.size ≤ pos + b) (ok : nmOk (Utf8.decode s pos).1 pos = false) : Z = false := by
  cases b with
  | zero => omega
  | succ b => rw [← hc, nmL, if_pos hp, if_neg (by simp [ok])]
set_option maxRecDepth 1000000 in
set_option maxHeartbeats 4000000 in
theorem net_Name.calls (a0 : ByteArray) (r : Bool) (w : World) (h : nmB a0 = r) :
    Calls Try.prog 64 #[.string a0] w fun e w' => e = .returned (.bool r) ∧ Below w.heap.size w w' := by
  subst h
  by_cases hs : a0.size < 1 ∨ 16 < a0.size
  · have hB : nmB a0 = false := by rw [nmB, if_pos hs]
    go_enter Try.func64, Try.ntmps64
    go_wp2
    all_goals first | (go_ret; exact ⟨by first | rfl | (rw [hB]; rfl), Below.refl _ _⟩) | (exfalso; omega)
  · have hB : nmB a0 = nmL a0 a0.size 0 := by rw [nmB, if_neg hs]
    rw [hB]
    go_enter Try.func64, Try.ntmps64
    go_wp2
    go_loopw [3, 4] (fun i c w' => ∃ (pos b : Nat), w' = w.iter a0 pos ∧ nmL a0 b pos = nmL a0 a0.size 0 ∧ a0.size ≤ pos + b) (fun _ _ w' => a0.size - w'.iterPos w.heap.size)
    case atStart => exact ⟨0, a0.size, rfl, rfl, by omega⟩
    case round =>
      obtain ⟨pos, b, rfl, hc, hb⟩ := hrel
      by_cases hp : pos < a0.size
      · have hnx : ∀ ty, (Instr.next (.pointer (some ⟨w.heap.size, 0, none⟩)) true ty).run Try.prog (w.iter a0 pos) = _ := fun ty => run_next_any w a0 pos ty hp
        have hwd := net_Name.width a0 pos hp
        go_wp2
        all_goals (try simp only [beq_eq_false_iff_ne, beq_iff_eq, ne_eq] at *)
        all_goals first
          | exact ⟨nm_go hp hc hb hwd (by unfold nmOk; exact decide_eq_true (by omega)), by simp; omega⟩
          | (go_ret; refine ⟨?_, (Below.refl _ _).alloc (Nat.le_refl _) _⟩; rw [nm_stop hp hc hb (by unfold nmOk; exact decide_eq_false (by omega))]; rfl)
      · have hnx : ∀ ty, (Instr.next (.pointer (some ⟨w.heap.size, 0, none⟩)) true ty).run Try.prog (w.iter a0 pos) = _ := fun ty => run_next_end w a0 pos ty hp
        go_wp2
        go_ret
        rw [nmL_end a0 b pos hp] at hc
        exact ⟨by rw [← hc]; rfl, (Below.refl _ _).alloc (Nat.le_refl _) _⟩
end Go.Proofs.Ytficdonjodadlaa.Mk
end
section
set_option linter.unusedVariables false
set_option linter.unusedSimpArgs false
namespace Go.Proofs.Ytficdonjodadlaa.Mk
open Go.RowKit Go.Proofs Go.Ev
def bF (l : List IV) (i : Nat) : Bool := asB (l.getD i .N)
open Classical in
noncomputable def ext59 : List At → Option Bool
  | [.iv p t b, .iv q t1 (.L x), .iv r t2 (.L y)] => if t = 29 ∧ t1 = 51 ∧ t2 = 51 ∧ Ok b ∧ FD b = true ∧ (asL (fld b 1)).length ≤ 1000000 ∧ x.length = (asL (fld b 1)).length ∧ y.length = (asL (fld b 1)).length then some (CLf b (bF x) (bF y)) else none
  | _ => none
open Classical in
noncomputable def ext82 : List At → Option Bool
  | [.iv p t b, .iv q t1 (.L x), .int k c] => if t = 29 ∧ t1 = 51 ∧ k = .i64 ∧ Ok b ∧ FD b = true ∧ (asL (fld b 1)).length ≤ 1000000 ∧ x.length = (asL (fld b 1)).length then some (CNf b (bF x) c) else none
  | _ => none
def ext64 : List At → Option Bool
  | [.str s] => some (nmB s)
  | _ => none
noncomputable def extB (g : FuncId) (args : List At) : Option Bool := if g = 59 then ext59 args else if g = 82 then ext82 args else if g = 64 then ext64 args else none
noncomputable def extE : CallF := fun g args mem => (extB g args).map fun v => ([.one (.at (.bool v))], [4], mem)
section
variable {C : Cx} {N : Nm} {mem : Mem} {vs : List Value} {args : List At}
theorem elt (okC : C.Ok) (h : Rel C N ⟨args.map (fun x => .v (.a x)), mem⟩ { tmps := vs.toArray, defers := [] } C.w0) (p : Nat) : ∀ k, C.E N p k → k < C.w0.heap.size := by
  intro k hk
  rcases hk with hk | hk
  · exact (okC.lt p k hk).1
  · exact (h.frm.fz k hk).2
theorem arg_b (hT : C.T = tab) {b : IV} {v : Value} {E : Nat → Prop} {cs : List Value} (hr : Rep tab C.w0 E 29 b cs) (hv : v = mkV (Go.Ev.isAgg tab 29) cs) : ∃ v0 v1, v = .agg #[v0, v1] ∧ cs = [v0, v1] := by
  cases hr with
  | agg h hl hc h1 hr' =>
    have h2 : cs.length = 2 := hc.trans (by rfl)
    match cs, h2 with
    | [v0, v1], _ => exact ⟨v0, v1, hv, rfl⟩
  | int h => rw [ty29] at h; cases h
  | bool h => rw [ty29] at h; cases h
  | str h => rw [ty29] at h; cases h
  | slice h hb hc hl hw hr => rw [ty29] at h; cases h
  | none h hn => rw [ty29] at h; cases h
  | nil h => rw [ty29] at h; cases h
  | fn h => rw [ty29] at h; cases h
  | ptr h => rw [ty29] at h; cases h
theorem arg_bl (hT : C.T = tab) {x : List IV} {v : Value} {E : Nat → Prop} {cs : List Value} (hr : Rep tab C.w0 E 51 (.L x) cs) (hv : v = mkV (Go.Ev.isAgg tab 51) cs) : ∃ A c, v = .slice A x.length c ∧ ∀ j, j < x.length → ∃ ad, A = some ad ∧ C.w0.cell? (ad.add j) = some (.bool (bF x j)) := by
  cases hr with
  | slice h hb hc hl hw hr' =>
    rename_i e b o cap cf
    have he : e = 4 := by rw [ty51] at h; injection h with h; exact h.symm
    subst he
    refine ⟨some ⟨b, o, none⟩, cap, hv, fun j hj => ⟨_, rfl, ?_⟩⟩
    have h1 := hr' j hj
    have hb : ∃ v, x.getD j .N = .B v ∧ cf j = [.bool v] := by
      generalize hu : x.getD j .N = u at h1
      generalize hcj : cf j = cj at h1
      cases h1 with
      | bool h => exact ⟨_, rfl, rfl⟩
      | int h => rw [ty4] at h; cases h
      | str h => rw [ty4] at h; cases h
      | slice h hb hc hl hw hr => rw [ty4] at h; cases h
      | none h hn => rw [ty4] at h; cases h
      | nil h => rw [ty4] at h; cases h
      | agg h hl hc h1 hr => rw [ty4] at h; cases h
      | fn h => rw [ty4] at h; cases h
      | ptr h => rw [ty4] at h; cases h
    obtain ⟨v, h2, h3⟩ := hb
    have h4 := hw j 0 (.bool v) hj (by rw [h3]; rfl)
    rw [bF, h2]
    have h5 : C.w0.cell? ⟨b, o + j, none⟩ = some (.bool v) := by simpa [show tab.sz 4 = 1 from rfl] using h4
    show C.w0.cell? _ = some (.bool v)
    rw [← h5]
    congr 1
    cases j <;> simp [Addr.add]
  | none h hn => exact ⟨_, _, hv, fun j hj => by simp at hj⟩
end
theorem CLf_congr {b : IV} {X X' Y Y' : Nat → Bool} (hX : ∀ i, i < (asL (fld b 1)).length → X i = X' i) (hY : ∀ i, i < (asL (fld b 1)).length → Y i = Y' i) : CLf b X Y = CLf b X' Y' := by
  unfold CLf
  rw [Bool.eq_iff_iff]
  simp only [List.any_eq_true, Bool.and_eq_true, List.mem_range]
  constructor
  · rintro ⟨i, hi, k, hk, ⟨⟨h1, h2⟩, h3⟩, h4⟩; exact ⟨i, hi, k, hk, ⟨⟨h1, hX i hi ▸ h2⟩, hY k hk ▸ h3⟩, h4⟩
  · rintro ⟨i, hi, k, hk, ⟨⟨h1, h2⟩, h3⟩, h4⟩; exact ⟨i, hi, k, hk, ⟨⟨h1, (hX i hi).symm ▸ h2⟩, (hY k hk).symm ▸ h3⟩, h4⟩
theorem CNf_congr {b : IV} {X X' : Nat → Bool} {c : Int} (hX : ∀ i, i < (asL (fld b 1)).length → X i = X' i) : CNf b X c = CNf b X' c := by
  unfold CNf
  rw [Bool.eq_iff_iff]
  simp only [List.any_eq_true, Bool.and_eq_true, List.mem_range]
  constructor
  · rintro ⟨i, hi, h2, h4⟩; exact ⟨i, hi, hX i hi ▸ h2, h4⟩
  · rintro ⟨i, hi, h2, h4⟩; exact ⟨i, hi, (hX i hi).symm ▸ h2, h4⟩
theorem bF_bl {n i : Nat} {S : Nat → Bool} (h : i < n) : bF (bl n S) i = S i := by rw [bF, bl_get h]; rfl
set_option maxRecDepth 100000 in
theorem call59 : Callable Try.prog 59 := ⟨_, Try.func59, by kernel_rfl, by kernel_rfl⟩
set_option maxRecDepth 100000 in
theorem call82 : Callable Try.prog 82 := ⟨_, Try.func82, by kernel_rfl, by kernel_rfl⟩
theorem ext59_ok {args : List At} {v : Bool} (hv : ext59 args = some v) {C : Cx} {N : Nm} {vs : List Value} {mem : Mem} (hP : C.P = Try.prog) (hT : C.T = tab) (okC : C.Ok) (hrel : Rel C N ⟨args.map (fun x => .v (.a x)), mem⟩ { tmps := vs.toArray, defers := [] } C.w0) :
    Calls C.P 59 vs.toArray C.w0 (fun e w' => e = .returned (.bool v) ∧ Below C.w0.heap.size C.w0 w') := by
  unfold ext59 at hv
  split at hv
  · rename_i p t b q t1 x r t2 y
    split at hv
    · rename_i hc
      obtain ⟨rfl, rfl, rfl, hok, hfd, hz, hlx, hly⟩ := hc
      obtain rfl := Option.some.inj hv
      obtain ⟨P, T, w0, S, X, β0⟩ := C
      obtain rfl : P = Try.prog := hP
      obtain rfl : T = tab := hT
      have hl : vs.length = 3 := by have := hrel.len; simpa using this
      obtain ⟨a0, a1, a2, rfl⟩ : ∃ a0 a1 a2, vs = [a0, a1, a2] := by
        match vs, hl with
        | [a0, a1, a2], _ => exact ⟨a0, a1, a2, rfl⟩
      have s0 := arg_of hrel (i := 0) (x := .iv p 29 b) rfl rfl
      have s1 := arg_of hrel (i := 1) (x := .iv q 51 (.L x)) rfl rfl
      have s2 := arg_of hrel (i := 2) (x := .iv r 51 (.L y)) rfl rfl
      obtain ⟨cs0, h0, e0⟩ := s0
      obtain ⟨cs1, h1, e1⟩ := s1
      obtain ⟨cs2, h2, e2⟩ := s2
      obtain ⟨v0, v1, rfl, rfl⟩ := arg_b (C := ⟨Try.prog, tab, w0, S, X, β0⟩) rfl h0 e0
      obtain ⟨A1, c1, rfl, hr1⟩ := arg_bl (C := ⟨Try.prog, tab, w0, S, X, β0⟩) rfl h1 e1
      obtain ⟨A2, c2, rfl, hr2⟩ := arg_bl (C := ⟨Try.prog, tab, w0, S, X, β0⟩) rfl h2 e2
      rw [hlx] at hr1 ⊢
      rw [hly] at hr2 ⊢
      exact clash_calls b v0 v1 A1 A2 c1 c2 (bF x) (bF y) w0 _ (elt okC hrel p) h0 hok hfd hz hr1 hr2
    · cases hv
  · cases hv
theorem ext82_ok {args : List At} {v : Bool} (hv : ext82 args = some v) {C : Cx} {N : Nm} {vs : List Value} {mem : Mem} (hP : C.P = Try.prog) (hT : C.T = tab) (okC : C.Ok) (hrel : Rel C N ⟨args.map (fun x => .v (.a x)), mem⟩ { tmps := vs.toArray, defers := [] } C.w0) :
    Calls C.P 82 vs.toArray C.w0 (fun e w' => e = .returned (.bool v) ∧ Below C.w0.heap.size C.w0 w') := by
  unfold ext82 at hv
  split at hv
  · rename_i p t b q t1 x k c
    split at hv
    · rename_i hc
      obtain ⟨rfl, rfl, rfl, hok, hfd, hz, hlx⟩ := hc
      obtain rfl := Option.some.inj hv
      obtain ⟨P, T, w0, S, X, β0⟩ := C
      obtain rfl : P = Try.prog := hP
      obtain rfl : T = tab := hT
      have hl : vs.length = 3 := by have := hrel.len; simpa using this
      obtain ⟨a0, a1, a2, rfl⟩ : ∃ a0 a1 a2, vs = [a0, a1, a2] := by
        match vs, hl with
        | [a0, a1, a2], _ => exact ⟨a0, a1, a2, rfl⟩
      have s0 := arg_of hrel (i := 0) (x := .iv p 29 b) rfl rfl
      have s1 := arg_of hrel (i := 1) (x := .iv q 51 (.L x)) rfl rfl
      have s2 := arg_of hrel (i := 2) (x := .int .i64 c) rfl rfl
      obtain ⟨cs0, h0, e0⟩ := s0
      obtain ⟨cs1, h1, e1⟩ := s1
      obtain ⟨cs2, h2, e2⟩ := s2
      have h2' : cs2 = [.int .i64 c] := h2
      subst h2'
      obtain ⟨v0, v1, rfl, rfl⟩ := arg_b (C := ⟨Try.prog, tab, w0, S, X, β0⟩) rfl h0 e0
      obtain ⟨A1, c1, rfl, hr1⟩ := arg_bl (C := ⟨Try.prog, tab, w0, S, X, β0⟩) rfl h1 e1
      obtain rfl : a2 = .int .i64 c := e2
      rw [hlx] at hr1 ⊢
      exact consumed_calls b v0 v1 A1 c1 (bF x) c w0 _ (elt okC hrel p) h0 hok hfd hz hr1
    · cases hv
  · cases hv
set_option maxRecDepth 100000 in
theorem call64 : Callable Try.prog 64 := ⟨_, Try.func64, by kernel_rfl, by kernel_rfl⟩
theorem ext64_ok {args : List At} {v : Bool} (hv : ext64 args = some v) {C : Cx} {N : Nm} {vs : List Value} {mem : Mem} (hP : C.P = Try.prog) (hT : C.T = tab) (okC : C.Ok) (hrel : Rel C N ⟨args.map (fun x => .v (.a x)), mem⟩ { tmps := vs.toArray, defers := [] } C.w0) :
    Calls C.P 64 vs.toArray C.w0 (fun e w' => e = .returned (.bool v) ∧ Below C.w0.heap.size C.w0 w') := by
  unfold ext64 at hv
  split at hv
  · rename_i s
    obtain rfl := Option.some.inj hv
    have hl : vs.length = 1 := by have := hrel.len; simpa using this
    obtain ⟨a0, rfl⟩ : ∃ a0, vs = [a0] := by
      match vs, hl with
      | [a0], _ => exact ⟨a0, rfl⟩
    obtain ⟨cs0, h0, e0⟩ := arg_of hrel (i := 0) (x := .str s) rfl rfl
    have h0' : cs0 = [.string s] := h0
    subst h0'
    obtain rfl : a0 = .string s := e0
    rw [hP]
    exact net_Name.calls s _ C.w0 rfl
  · cases hv
theorem extE_ok : RunOk Try.prog tab extE := by
  intro g args mem rs ts mem' h
  unfold extE at h
  obtain ⟨v, hv, hh⟩ := Option.map_eq_some_iff.1 h
  simp only [Prod.mk.injEq] at hh
  obtain ⟨rfl, rfl, rfl⟩ := hh
  unfold extB at hv
  split at hv
  · rename_i hg
    subst hg
    exact ⟨call59, fun C N vs hP hT okC hrel => by
      have := ext_bool okC (t := 4) (by rw [hT]; exact ty4) hrel (ext59_ok hv hP hT okC hrel)
      rw [hP] at this; exact this⟩
  · split at hv
    · rename_i hg
      subst hg
      exact ⟨call82, fun C N vs hP hT okC hrel => by
        have := ext_bool okC (t := 4) (by rw [hT]; exact ty4) hrel (ext82_ok hv hP hT okC hrel)
        rw [hP] at this; exact this⟩
    · split at hv
      · rename_i hg
        subst hg
        exact ⟨call64, fun C N vs hP hT okC hrel => by
          have := ext_bool okC (t := 4) (by rw [hT]; exact ty4) hrel (ext64_ok hv hP hT okC hrel)
          rw [hP] at this; exact this⟩
      · cases hv
theorem extE_C : ExC extE := by
  intro b p q r X Y hok hfd hz
  have h : ext59 [.iv p 29 b, .iv q 51 (.L (bl (asL (fld b 1)).length X)), .iv r 51 (.L (bl (asL (fld b 1)).length Y))] = some (CLf b X Y) := by
    unfold ext59
    simp only []
    rw [if_pos ⟨rfl, rfl, rfl, hok, hfd, hz, bl_len, bl_len⟩]
    congr 1
    exact CLf_congr (fun i hi => bF_bl hi) (fun i hi => bF_bl hi)
  unfold ans extE extB
  rw [if_pos rfl, h]; rfl
theorem extE_U : ExU extE := by
  intro b p q X c hok hfd hz
  have h : ext82 [.iv p 29 b, .iv q 51 (.L (bl (asL (fld b 1)).length X)), .int .i64 c] = some (CNf b X c) := by
    unfold ext82
    simp only []
    rw [if_pos ⟨rfl, rfl, rfl, hok, hfd, hz, bl_len⟩]
    congr 1
    exact CNf_congr (fun i hi => bF_bl hi)
  unfold ans extE extB
  rw [if_neg (by decide), if_pos rfl, h]; rfl
theorem extE_N : ExN extE := by
  intro s
  unfold ans extE extB
  rw [if_neg (by decide), if_neg (by decide), if_pos rfl]; rfl
end Go.Proofs.Ytficdonjodadlaa.Mk
end
section
set_option linter.unusedVariables false
namespace Go.Proofs.Ytficdonjodadlaa
open Go.Ev Go.Proofs Go.Proofs.Ytficdonjodadlaa.Mk
theorem ex_hold (k : Nat) (hk : maxLen + (D0 + 70) ≤ k) : ans (tab.run extE k) 12 [] 2 = some ([.one (.at (.bool true))], [4]) := example_ans extE k extE_N extE_C extE_U (by omega)
theorem ans_out {call : CallF} {g : FuncId} {xs : List At} {n : Nat} {rs : List RV} {ts : List TypeId} (h : ans call g xs n = some (rs, ts)) : ∃ m, call g xs (List.replicate n none) = some (rs, ts, m) := by
  unfold ans at h
  rw [Option.map_eq_some_iff] at h
  obtain ⟨⟨a, b, m⟩, h1, h2⟩ := h
  cases h2
  exact ⟨m, h1⟩
theorem arg25 {u : IV} : argAt tab 25 u = .iv 2 25 u := (rfl)
theorem arg29 {u : IV} : argAt tab 29 u = .iv 2 29 u := (rfl)
theorem arg46 {u : IV} : argAt tab 46 u = .iv 2 46 u := (rfl)
end Go.Proofs.Ytficdonjodadlaa
end
section
set_option linter.unusedVariables false
namespace Go.Ev
def smB (n : IV) : Bool := !(decide ((26 : Int) < ((asL (fld n 1)).length : Int) ∨ (26 : Int) < ((asL (fld n 2)).length : Int) ∨ (20 : Int) < ((asS (fld n 0)).size : Int))) && !((asL (fld n 1)).any fun x => decide ((20 : Int) < ((asS (fld x 0)).size : Int))) && !((asL (fld n 2)).any fun x => decide ((20 : Int) < ((asS (fld x 0)).size : Int) ∨ (26 : Int) < ((asL (fld x 1)).length : Int) ∨ (26 : Int) < ((asL (fld x 2)).length : Int) ∨ (26 : Int) < ((asL (fld x 3)).length : Int)))
def zN : IV := .A [.S .empty, .N, .N]
def smN (n : IV) : IV := if smB n = true then n else zN
theorem smN_t {n : IV} (h : smB n = true) : smN n = n := by simp [smN, h]
theorem smN_f {n : IV} (h : smB n = false) : smN n = zN := by simp [smN, h]
end Go.Ev
end
section
set_option linter.unusedSimpArgs false
set_option linter.unusedVariables false
set_option maxRecDepth 100000
set_option maxHeartbeats 4000000
namespace Go.Proofs.Ytficdonjodadlaa
open Go.Ev Go.Proofs
theorem small_ans (ext : CallF) (k : Nat) (n : IV) (hk : maxLen + (4) ≤ k) (hnn : Ok n) : ans (tab.run ext k) 10 [.iv 2 25 n] 3 = some ([.one (.at (.iv 2 25 (smN n))), .one (.at (.bool (smB n)))], [25, 4]) := by
  obtain ⟨k, rfl⟩ : ∃ k', k = k' + 1 := ⟨k - 1, by omega⟩
  have hk1 : maxLen < k := by omega
  have hk0 : 0 < k := by omega
  refine fn_run (fx := fx10) (m := 75) 76 rfl rfl rfl rfl (fun st hn hg hr => ?_)
  have g0 : st.get (.tmp 0) = .v (.a (.iv 2 25 n)) := hg 0 (of_decide_eq_true rfl)
  have r0 := hr 0
  have r1 := hr 1
  have r2 := hr 2
  clear hg hr
  rw [co10]
  simp only [Try.f10, Option.getD_some]
  unfold smN smB zN
  have hl1 := ok_len (ok_fld (j := 1) hnn)
  have hl2 := ok_len (ok_fld (j := 2) hnn)
  by_cases h1 : (26 : Int) < ((asL (fld n 1)).length : Int)
  case pos =>
    simp (maxDischargeDepth := 9) only [go_sem, Nat.reduceMul, Nat.reduceAdd, Nat.reduceLeDiff, Int.reduceSub, Int.reduceNeg, Int.reduceLT, Int.reduceLE, Int.reduceEq, *]
  by_cases h2 : (26 : Int) < ((asL (fld n 2)).length : Int)
  case pos =>
    simp (maxDischargeDepth := 9) only [go_sem, Nat.reduceMul, Nat.reduceAdd, Nat.reduceLeDiff, Int.reduceSub, Int.reduceNeg, Int.reduceLT, Int.reduceLE, Int.reduceEq, *]
  by_cases h3 : (20 : Int) < ((asS (fld n 0)).size : Int)
  case pos =>
    simp (maxDischargeDepth := 9) only [go_sem, Nat.reduceMul, Nat.reduceAdd, Nat.reduceLeDiff, Int.reduceSub, Int.reduceNeg, Int.reduceLT, Int.reduceLE, Int.reduceEq, *]
  simp (maxDischargeDepth := 9) only [go_sem, Nat.reduceMul, Nat.reduceAdd, Nat.reduceLeDiff, Int.reduceSub, Int.reduceNeg, Int.reduceLT, Int.reduceLE, Int.reduceEq, *]
  refine gen_st (fun s0 hg hr hn0 => ?_)
  have e1 := hg 1
  have e2 := hg 2
  have e4 := hg 4
  have q0 := hr 0
  have q1 := hr 1
  clear hg hr
  simp only [go_sem, *] at hn0 e1 e2 e4 q0 q1
  refine nr (runs_for (asL (fld n 1)) (fun (_ : Unit) x => if (20 : Int) < ((asS (fld x 0)).size : Int) then .ret true else .next ()) () 76 (fun i a => [(1, s0.get (.tmp 1)), (2, s0.get (.tmp 2)), (4, .v (.a (.int .i64 (i : Nat))))]) (fun i a => [(0, s0.row 0), (1, s0.row 1)]) (fun i a => True) (by omega) ?_ (trivial) ?_ ?_ ?_ ?_)
  · simp (maxDischargeDepth := 9) only [go_sem, Nat.reduceMul, Nat.reduceAdd, Nat.reduceLeDiff, Int.reduceSub, Int.reduceNeg, Int.reduceLT, Int.reduceLE, Int.reduceEq, *]
  · intro i a; simp (maxDischargeDepth := 9) only [go_sem, Nat.reduceMul, Nat.reduceAdd, Nat.reduceLeDiff, Int.reduceSub, Int.reduceNeg, Int.reduceLT, Int.reduceLE, Int.reduceEq, *]
  · intro i a; simp (maxDischargeDepth := 9) only [go_sem, Nat.reduceMul, Nat.reduceAdd, Nat.reduceLeDiff, Int.reduceSub, Int.reduceNeg, Int.reduceLT, Int.reduceLE, Int.reduceEq, *]
  · intro i x a s hx hi hI hS
    clear hn0 e4
    simp only [go_sem] at hS
    obtain ⟨f1, f2, f4, m0, m1, hn⟩ := hS
    have hw := wrap_succ hi (hl1)
    refine rn ?_
    simp (maxDischargeDepth := 9) only [go_sem, Nat.reduceMul, Nat.reduceAdd, Nat.reduceLeDiff, Int.reduceSub, Int.reduceNeg, Int.reduceLT, Int.reduceLE, Int.reduceEq, *]
    repeat' (first | (with_reducible refine condLt (fun h h' => ?_) (fun h h' => ?_)) | (with_reducible refine condLe (fun h h' => ?_) (fun h h' => ?_)) | (with_reducible refine dop_val ?_) | (with_reducible refine YsLt (fun h h' => ?_) (fun h h' => ?_)) | (with_reducible refine YsLe (fun h h' => ?_) (fun h h' => ?_)) | (with_reducible refine condP (fun h => ?_) (fun h => ?_)) | (with_reducible refine condN (fun h => ?_) (fun h => ?_)) | (with_reducible refine condB (fun h => ?_) (fun h => ?_)) | (with_reducible refine condR (fun h => ?_) (fun h => ?_)) | (with_reducible refine YsB (fun h => ?_) (fun h => ?_)) | (with_reducible refine YsC (fun h => ?_) (fun h => ?_)) | (with_reducible refine Ys_ite (fun h => ?_) (fun h => ?_)) | (intro h) | (with_reducible refine draw_look (by kernel_rfl) (by kernel_rfl) ?_) | (simp (maxDischargeDepth := 9) only [go_sem, Nat.reduceMul, Nat.reduceAdd, Nat.reduceLeDiff, Int.reduceSub, Int.reduceNeg, Int.reduceLT, Int.reduceLE, Int.reduceEq, *]) | (exfalso; omega))
  · intro a s hI hf hS
    clear hn0 e4
    simp only [go_sem] at hS
    obtain ⟨f1, f2, f4, m0, m1, hn⟩ := hS
    try simp only [go_sem] at hf
    refine rn ?_
    simp (maxDischargeDepth := 9) only [go_sem, Nat.reduceMul, Nat.reduceAdd, Nat.reduceLeDiff, Int.reduceSub, Int.reduceNeg, Int.reduceLT, Int.reduceLE, Int.reduceEq, *]
    refine gen_st (fun s0 hg hr hn0 => ?_)
    have e1 := hg 1
    have e2 := hg 2
    have e5 := hg 5
    have q0 := hr 0
    have q1 := hr 1
    clear hg hr
    simp only [go_sem, *] at hn0 e1 e2 e5 q0 q1
    refine nr (runs_for (asL (fld n 2)) (fun (_ : Unit) x => if (20 : Int) < ((asS (fld x 0)).size : Int) ∨ (26 : Int) < ((asL (fld x 1)).length : Int) ∨ (26 : Int) < ((asL (fld x 2)).length : Int) ∨ (26 : Int) < ((asL (fld x 3)).length : Int) then .ret true else .next ()) () 76 (fun i a => [(1, s0.get (.tmp 1)), (2, s0.get (.tmp 2)), (5, .v (.a (.int .i64 (i : Nat))))]) (fun i a => [(0, s0.row 0), (1, s0.row 1)]) (fun i a => True) (by omega) ?_ (trivial) ?_ ?_ ?_ ?_)
    · simp (maxDischargeDepth := 9) only [go_sem, Nat.reduceMul, Nat.reduceAdd, Nat.reduceLeDiff, Int.reduceSub, Int.reduceNeg, Int.reduceLT, Int.reduceLE, Int.reduceEq, *]
    · intro i a; simp (maxDischargeDepth := 9) only [go_sem, Nat.reduceMul, Nat.reduceAdd, Nat.reduceLeDiff, Int.reduceSub, Int.reduceNeg, Int.reduceLT, Int.reduceLE, Int.reduceEq, *]
    · intro i a; simp (maxDischargeDepth := 9) only [go_sem, Nat.reduceMul, Nat.reduceAdd, Nat.reduceLeDiff, Int.reduceSub, Int.reduceNeg, Int.reduceLT, Int.reduceLE, Int.reduceEq, *]
    · intro i x a s hx hi hI hS
      clear hn0 e5
      simp only [go_sem] at hS
      obtain ⟨f1, f2, f5, m0, m1, hn⟩ := hS
      have hw := wrap_succ hi (hl2)
      refine rn ?_
      simp (maxDischargeDepth := 9) only [go_sem, Nat.reduceMul, Nat.reduceAdd, Nat.reduceLeDiff, Int.reduceSub, Int.reduceNeg, Int.reduceLT, Int.reduceLE, Int.reduceEq, *]
      repeat' (first | (with_reducible refine condLt (fun h h' => ?_) (fun h h' => ?_)) | (with_reducible refine condLe (fun h h' => ?_) (fun h h' => ?_)) | (with_reducible refine dop_val ?_) | (with_reducible refine YsLt (fun h h' => ?_) (fun h h' => ?_)) | (with_reducible refine YsLe (fun h h' => ?_) (fun h h' => ?_)) | (with_reducible refine condP (fun h => ?_) (fun h => ?_)) | (with_reducible refine condN (fun h => ?_) (fun h => ?_)) | (with_reducible refine condB (fun h => ?_) (fun h => ?_)) | (with_reducible refine condR (fun h => ?_) (fun h => ?_)) | (with_reducible refine YsB (fun h => ?_) (fun h => ?_)) | (with_reducible refine YsC (fun h => ?_) (fun h => ?_)) | (with_reducible refine Ys_ite (fun h => ?_) (fun h => ?_)) | (intro h) | (with_reducible refine draw_look (by kernel_rfl) (by kernel_rfl) ?_) | (simp (maxDischargeDepth := 9) only [go_sem, Nat.reduceMul, Nat.reduceAdd, Nat.reduceLeDiff, Int.reduceSub, Int.reduceNeg, Int.reduceLT, Int.reduceLE, Int.reduceEq, *]) | (exfalso; omega))
    · intro a s hI hf hS
      clear hn0 e5
      simp only [go_sem] at hS
      obtain ⟨f1, f2, f5, m0, m1, hn⟩ := hS
      try simp only [go_sem] at hf
      refine rn ?_
      simp (maxDischargeDepth := 9) only [go_sem, Nat.reduceMul, Nat.reduceAdd, Nat.reduceLeDiff, Int.reduceSub, Int.reduceNeg, Int.reduceLT, Int.reduceLE, Int.reduceEq, *]
      repeat' (first | (with_reducible refine condLt (fun h h' => ?_) (fun h h' => ?_)) | (with_reducible refine condLe (fun h h' => ?_) (fun h h' => ?_)) | (with_reducible refine dop_val ?_) | (with_reducible refine YsLt (fun h h' => ?_) (fun h h' => ?_)) | (with_reducible refine YsLe (fun h h' => ?_) (fun h h' => ?_)) | (with_reducible refine condP (fun h => ?_) (fun h => ?_)) | (with_reducible refine condN (fun h => ?_) (fun h => ?_)) | (with_reducible refine condB (fun h => ?_) (fun h => ?_)) | (with_reducible refine condR (fun h => ?_) (fun h => ?_)) | (with_reducible refine YsB (fun h => ?_) (fun h => ?_)) | (with_reducible refine YsC (fun h => ?_) (fun h => ?_)) | (with_reducible refine Ys_ite (fun h => ?_) (fun h => ?_)) | (intro h) | (with_reducible refine draw_look (by kernel_rfl) (by kernel_rfl) ?_) | (simp (maxDischargeDepth := 9) only [go_sem, Nat.reduceMul, Nat.reduceAdd, Nat.reduceLeDiff, Int.reduceSub, Int.reduceNeg, Int.reduceLT, Int.reduceLE, Int.reduceEq, *]) | (exfalso; omega))
end Go.Proofs.Ytficdonjodadlaa
end
section
set_option linter.unusedVariables false
namespace Go.Ev
theorem fold_no_next {α β ρ : Type} {step : α → β → Stp α ρ} : ∀ {l : List β} {a b : α}, foldS step a l ≠ .next b
  | [], a, b, h => by cases h
  | x :: l, a, b, h => by
    simp only [foldS] at h
    split at h
    · exact fold_no_next h
    · rename_i hne; exact hne _ h
theorem fold_ret {α β ρ : Type} {step : α → β → Stp α ρ} {P : ρ → Prop} : ∀ {l : List β} {a : α} {r : ρ}, (∀ a x r, step a x = .ret r → P r) → foldS step a l = .ret r → P r
  | [], a, r, _, h => by cases h
  | x :: l, a, r, hP, h => by
    simp only [foldS] at h
    split at h
    · exact fold_ret hP h
    · exact hP _ _ _ h
theorem fold_run {α β ρ : Type} {step : α → β → Stp α ρ} : ∀ {l : List β} {a b : α}, (∀ a x r, step a x ≠ .stop r) → foldS step a l = .stop b → ∃ st : Nat → α, st 0 = a ∧ (∀ i x, l[i]? = some x → step (st i) x = .next (st (i + 1))) ∧ st l.length = b
  | [], a, b, _, h => by cases h; exact ⟨fun _ => a, rfl, fun i x hx => by simp at hx, rfl⟩
  | y :: l, a, b, hs, h => by
    simp only [foldS] at h
    split at h
    · rename_i c hc
      obtain ⟨st, h1, h2, h3⟩ := fold_run hs h
      refine ⟨fun i => match i with | 0 => a | j + 1 => st j, rfl, fun i x hx => ?_, h3⟩
      cases i with
      | zero => rw [List.getElem?_cons_zero] at hx; cases hx; show step a y = .next (st 0); rw [h1]; exact hc
      | succ j => rw [List.getElem?_cons_succ] at hx; exact h2 j x hx
    · exact absurd h (hs _ _ _)
theorem IE_NC {n : IV} (h : IE n = 0) : (NC n).1 = 0 ∧ PN n = true ∧ ON n = true ∧ (∀ x ∈ asL (fld n 2), (asL (fld x 1)).length ≠ 0) := by
  unfold IE at h
  split at h
  · rename_i h1
    split at h
    · rename_i h2
      split at h
      · rename_i h3
        split at h
        · cases h
        · rename_i h4
          refine ⟨h1, h2, h3, fun x hx e => ?_⟩
          exact h4 (List.any_eq_true.2 ⟨x, hx, by simpa using e⟩)
      · cases h
    · cases h
  · rename_i h1; exact absurd h h1
theorem AR_ok {l : IV} {m : Int} (h : AR l m = 0) : ∀ x ∈ asL l, 0 ≤ asI (fld x 0) ∧ asI (fld x 0) < m := by
  unfold AR at h
  cases hf : foldS (arS l m) () (List.range (asL l).length) with
  | next r => exact absurd hf fold_no_next
  | ret r =>
    rw [hf] at h
    have : r ≠ 0 := fold_ret (P := fun r => r ≠ 0) (fun a x r hr => by
      unfold arS at hr
      split at hr
      · cases hr; decide
      · split at hr
        · cases hr; decide
        · split at hr
          · cases hr; decide
          · cases hr) hf
    exact absurd h this
  | stop r =>
    have hall := fold_all hf (fun x hx r => by unfold arS; split <;> (try split) <;> (try split) <;> simp)
    intro x hx
    obtain ⟨i, hi, rfl⟩ := List.getElem_of_mem hx
    have := hall i (List.mem_range.2 hi)
    unfold arS at this
    split at this
    · cases this
    · rename_i hc
      have e : (asL l).getD i .N = (asL l)[i] := by simp [List.getD, hi]
      rw [e] at hc
      omega
theorem NC_tr {n : IV} (h : (NC n).1 = 0) : ∀ i, i < (asL (fld n 2)).length → trS n i = 0 := by
  have h2 : (NC2 n).1 = 0 := by
    unfold NC at h
    split at h
    · split at h
      · cases h
      · unfold NC1 at h
        split at h
        · rename_i r hr
          have : r.1 ≠ 0 := fold_ret (P := fun r => r.1 ≠ 0) (fun a x r hr => by
            unfold ckP at hr
            split at hr
            · cases hr
            · rename_i hne; cases hr; exact hne) hr
          exact absurd h this
        · exact h
    · cases h
  unfold NC2 at h2
  cases hf : foldS (ckT n) () (List.range (asL (fld n 2)).length) with
  | next r => exact absurd hf fold_no_next
  | ret r =>
    rw [hf] at h2
    have : r.1 ≠ 0 := fold_ret (P := fun r => r.1 ≠ 0) (fun a x r hr => by
      unfold ckT at hr
      split at hr
      · cases hr
      · rename_i hne; cases hr; exact hne) hf
    exact absurd h2 this
  | stop r =>
    have hall := fold_all hf (fun x hx r => by unfold ckT; split <;> simp)
    intro i hi
    have := hall i (List.mem_range.2 hi)
    unfold ckT at this
    split at this
    · assumption
    · cases this
theorem ng_of {n : IV} (hs : smB n = true) (hi : IE n = 0) : NG n := by
  obtain ⟨h1, _, _, _⟩ := IE_NC hi
  simp only [smB, Bool.and_eq_true, Bool.not_eq_true', decide_eq_false_iff_not, not_or, List.any_eq_false, decide_eq_true_eq] at hs
  obtain ⟨⟨⟨q1, q2, q3⟩, q4⟩, q5⟩ := hs
  refine ⟨by simpa [VN] using h1, fun t ht => ?_, by omega, by omega, fun t ht x hx => ?_⟩
  · have := q5 t ht; omega
  · obtain ⟨i, hi2, rfl⟩ := List.getElem_of_mem ht
    have := NC_tr h1 i hi2
    unfold trS at this
    have e : (asL (fld n 2)).getD i .N = (asL (fld n 2))[i] := by simp [List.getD, hi2]
    rw [e] at this
    split at this
    · unfold TR at this
      split at this
      · cases this
      · split at this
        · rename_i ha; exact AR_ok ha x hx
        · rename_i ha; exact absurd this ha
    · rename_i ha; exact absurd this ha
end Go.Ev
end
section
set_option linter.unusedVariables false
namespace Go.Ev
theorem ck_run {n b : IV} (h : (CK n b).1 = 0) : IE n = 0 ∧ nEv b ≤ 2000 ∧ (fcs n).length ≤ nCo b ∧
    (∀ c, c < (fcs n).length → asI (fld ((asL (fld b 0)).getD c .N) 0) = asI (fld ((fcs n).getD c .N) 0) ∧ asI (fld ((asL (fld b 0)).getD c .N) 1) = asI (fld ((fcs n).getD c .N) 1)) ∧
    ∃ nx : Nat → Nat, nx 0 = (fcs n).length ∧ (∀ i, i < nEv b → CE n b (i : Int) (nx i : Int) = 0 ∧ nx (i + 1) = nx i + (asL (fld ((asL (fld b 1)).getD i .N) 2)).length) ∧ nCo b ≤ nx (nEv b) := by
  unfold CK at h
  split at h
  · rename_i h1
    split at h
    · cases h
    · rename_i h2
      split at h
      · cases h
      · rename_i h3
        unfold CK1 at h
        split at h
        · cases h
        · rename_i h4
          refine ⟨h1, by unfold nEv; omega, by unfold nCo; omega, fun c hc => ?_, ?_⟩
          · have h5 := List.any_eq_false.1 (Bool.eq_false_iff.2 h4) c (List.mem_range.2 hc)
            simpa using h5
          · unfold CK2 at h
            split at h
            · rename_i r hr
              have : r.1 ≠ 0 := fold_ret (P := fun r => r.1 ≠ 0) (fun a x r hr => by
                unfold ckE at hr
                split at hr
                · cases hr
                · rename_i hne; cases hr; exact hne) hr
              exact absurd h this
            · rename_i m hm
              obtain ⟨nx, k1, k2, k3⟩ := fold_run (fun a x r => by unfold ckE; split <;> simp) hm
              split at h
              · cases h
              · rename_i h6
                refine ⟨nx, k1, fun i hi => ?_, ?_⟩
                · have := k2 i i (by rw [List.getElem?_range]; exact hi)
                  unfold ckE at this
                  split at this
                  · rename_i h7; injection this with this; exact ⟨h7, this.symm⟩
                  · cases this
                · rw [List.length_range] at k3
                  unfold nEv nCo; omega
            · rename_i hm; exact absurd hm fold_no_next
  · rename_i h1; exact absurd h h1
theorem fcs_from {n : IV} {c : Nat} (hc : c < (fcs n).length) : asI (fld ((fcs n).getD c .N) 1) = -1 := by
  have := memD hc
  generalize (fcs n).getD c .N = x at this
  simp only [fcs, ics, List.mem_map] at this
  obtain ⟨k, _, rfl⟩ := this
  rfl
theorem CE_cp {n b : IV} {i m : Int} (h : CE n b i m = 0) : (0 ≤ asI (fld (el (asL (fld b 1)) i) 0) ∧ asI (fld (el (asL (fld b 1)) i) 0) < ((asL (fld n 2)).length : Int)) ∧ CP n (cutB b i m) (el (asL (fld b 1)) i) = 0 ∧ PO n b i m = 0 := by
  unfold CE at h
  split at h
  · cases h
  · rename_i h1
    split at h
    · rename_i h2; exact ⟨by omega, h2, h⟩
    · rename_i h2; exact absurd h h2
theorem CP_ok {n b e : IV} (h : CP n b e = 0) : (asL (fld e 1)).length = (insL n e).length ∧ RZ (fld e 1) = false ∧ (∀ x ∈ asL (fld e 1), 0 ≤ asI x ∧ asI x < ((asL (fld b 0)).length : Int)) ∧ CS b (fld e 1) = true ∧ KN b (asI (fld e 0)) (fld e 1) = false := by
  unfold CP at h
  split at h
  · rename_i h1
    split at h
    · cases h
    · rename_i h2
      split at h
      · cases h
      · rename_i h3
        unfold CP2 at h
        split at h
        · cases h
        · split at h
          · rename_i h4
            split at h
            · cases h
            · rename_i h5
              refine ⟨h1, by simpa using h2, fun x hx => ?_, h4, by simpa using h5⟩
              have := List.any_eq_false.1 (Bool.eq_false_iff.2 h3) x hx
              simp only [decide_eq_true_eq] at this
              omega
          · cases h
  · cases h
theorem PO_ok {n b : IV} {i m : Int} (h : PO n b i m = 0) : (asL (fld (el (asL (fld b 1)) i) 2)).length = (outs n b i).length ∧ ∀ k, k < (asL (fld (el (asL (fld b 1)) i) 2)).length →
    asI ((asL (fld (el (asL (fld b 1)) i) 2)).getD k .N) = m + (k : Int) ∧ m + (k : Int) < ((asL (fld b 0)).length : Int) ∧ asI (fld (el (asL (fld b 0)) (m + (k : Int))) 0) = asI ((outs n b i).getD k .N) ∧ frm b (m + (k : Int)) = i := by
  unfold PO at h
  split at h
  · rename_i h1
    refine ⟨h1, ?_⟩
    cases hf : foldS (poS n b i m) () (List.range (asL (fld (el (asL (fld b 1)) i) 2)).length) with
    | next r => exact absurd hf fold_no_next
    | ret r => rw [hf] at h; cases h
    | stop r =>
      have hall := fold_all hf (fun x hx r => by unfold poS; split <;> (try split) <;> (try split) <;> simp)
      intro k hk
      have := hall k (List.mem_range.2 hk)
      unfold poS at this
      split at this
      · rename_i e1
        split at this
        · cases this
        · rename_i e2
          split at this
          · rename_i e3
            simp only [Bool.and_eq_true, decide_eq_true_eq] at e3
            rw [e1] at e2 e3
            exact ⟨e1, by omega, e3.1, e3.2⟩
          · cases this
      · cases this
  · cases h
structure PF (n b : IV) (nx : Nat → Nat) : Prop where
  ev : nEv b ≤ 2000
  le : (fcs n).length ≤ nCo b
  fc : ∀ c, c < (fcs n).length → asI (fld ((asL (fld b 0)).getD c .N) 0) = asI (fld ((fcs n).getD c .N) 0) ∧ frm b (c : Int) = -1
  z : nx 0 = (fcs n).length
  s : ∀ i, i < nEv b → CE n b (i : Int) (nx i : Int) = 0 ∧ nx (i + 1) = nx i + (asL (fld ((asL (fld b 1)).getD i .N) 2)).length
  t : nCo b ≤ nx (nEv b)
theorem pf_of {n b : IV} (h : (CK n b).1 = 0) : ∃ nx, PF n b nx := by
  obtain ⟨h1, h2, h3, h4, nx, h5, h6, h7⟩ := ck_run h
  exact ⟨nx, h2, h3, fun c hc => ⟨(h4 c hc).1, by rw [frm, el_nat, (h4 c hc).2]; exact fcs_from hc⟩, h5, h6, h7⟩
section
variable {n b : IV} {nx : Nat → Nat}
theorem PF.own (h : PF n b nx) : ∀ i, i ≤ nEv b → nx i ≤ nCo b ∧ ∀ c : Nat, c < nx i → -1 ≤ frm b (c : Int) ∧ frm b (c : Int) < (i : Int)
  | 0, _ => by
    rw [h.z]
    exact ⟨h.le, fun c hc => by rw [(h.fc c hc).2]; omega⟩
  | i + 1, hi => by
    obtain ⟨h1, h2⟩ := h.own i (by omega)
    obtain ⟨h3, h4⟩ := h.s i (by omega)
    have h5 := CE_ok h3 h1
    obtain ⟨_, h6⟩ := PO_ok (CE_cp h3).2.2
    rw [el_nat] at h6
    rw [h4]
    refine ⟨h5, fun c hc => ?_⟩
    by_cases hlt : c < nx i
    · have := h2 c hlt; omega
    · have := (h6 (c - nx i) (by omega)).2.2.2
      rw [show ((nx i : Nat) : Int) + ((c - nx i : Nat) : Int) = (c : Int) by omega] at this
      rw [this]; omega
theorem FD_of (h1 : ∀ c : Nat, c < nCo b → -1 ≤ frm b (c : Int) ∧ frm b (c : Int) < (nEv b : Int)) (h2 : ∀ i, i < nEv b → ∀ x ∈ pre b i, 0 ≤ asI x ∧ asI x < (nCo b : Int) ∧ frm b (asI x) < (i : Int)) : FD b = true := by
  simp only [FD, Bool.and_eq_true, Bool.not_eq_true', List.any_eq_false, decide_eq_true_eq, List.any_eq_true, not_exists, not_and, not_or]
  constructor
  · intro x hx
    obtain ⟨i, hi, rfl⟩ := List.getElem_of_mem hx
    have := h1 i hi
    rw [frm, el_nat] at this
    have e : (asL (fld b 0)).getD i .N = (asL (fld b 0))[i] := by simp [List.getD, hi]
    rw [e] at this
    unfold nEv at this
    omega
  · intro i hi x hx
    have := h2 i (List.mem_range.1 hi) x hx
    simp only [nCo, frm] at this
    omega
theorem PF.pre (h : PF n b nx) {i : Nat} (hi : i < nEv b) : (∀ x ∈ Go.Ev.pre b i, 0 ≤ asI x ∧ asI x < (nx i : Int)) ∧ CS (cutB b (i : Int) (nx i : Int)) (fld ((asL (fld b 1)).getD i .N) 1) = true := by
  obtain ⟨h1, h2⟩ := h.own i (by omega)
  obtain ⟨h3, h4⟩ := h.s i hi
  obtain ⟨_, h5, _⟩ := CE_cp h3
  obtain ⟨_, _, h6, h7, _⟩ := CP_ok h5
  rw [el_nat] at h6 h7
  refine ⟨fun x hx => ?_, h7⟩
  have := h6 x hx
  have e : (asL (fld (cutB b (i : Int) (nx i : Int)) 0)).length = nx i := by
    show ((asL (fld b 0)).take (nx i : Int).toNat).length = nx i
    rw [List.length_take, Int.toNat_natCast]; unfold nCo at h1; omega
  rw [e] at this
  exact this
theorem PF.fd (h : PF n b nx) : FD b = true := by
  refine FD_of (fun c hc => ?_) (fun i hi x hx => ?_)
  · have := h.t
    obtain ⟨_, h2⟩ := h.own (nEv b) (Nat.le_refl _)
    exact h2 c (by omega)
  · obtain ⟨h1, h2⟩ := h.own i (by omega)
    have h3 := (h.pre hi).1 x hx
    have h4 := h2 (asI x).toNat (by omega)
    rw [show (((asI x).toNat : Nat) : Int) = asI x by omega] at h4
    omega
theorem pre_cut {i m h : Nat} (hh : h < i) : Go.Ev.pre (cutB b (i : Int) (m : Int)) h = Go.Ev.pre b h := by
  unfold Go.Ev.pre
  rw [cutB_1, Int.toNat_natCast, take_get hh]
theorem frm_cut {i m : Nat} {c : Int} (h0 : 0 ≤ c) (h1 : c < (m : Int)) : frm (cutB b (i : Int) (m : Int)) c = frm b c := by
  unfold frm
  show asI (fld (el ((asL (fld b 0)).take (m : Int).toNat) c) 1) = _
  unfold el
  rw [Int.toNat_natCast, take_get (by omega)]
theorem PF.rch (h : PF n b nx) {i e g : Nat} (hi : i < nEv b) (he : e < i) (hr : Rch b e g) : Rch (cutB b (i : Int) (nx i : Int)) e g := by
  have hfd := h.fd
  have hmono : ∀ j, j ≤ i → nx j ≤ nx i := by
    intro j hj
    induction i with
    | zero => obtain rfl : j = 0 := by omega
              exact Nat.le_refl _
    | succ i ih =>
      rcases Nat.eq_or_lt_of_le hj with rfl | hj
      · exact Nat.le_refl _
      · have h1 := (h.s i (by omega)).2
        have : nx j ≤ nx i := by
          clear ih hr he
          have : ∀ a c, a ≤ c → c ≤ nEv b → nx a ≤ nx c := by
            intro a c hac hc
            induction c with
            | zero => obtain rfl : a = 0 := by omega
                      exact Nat.le_refl _
            | succ c ihc =>
              rcases Nat.eq_or_lt_of_le hac with rfl | hac
              · exact Nat.le_refl _
              · have h1 := (h.s c (by omega)).2
                have := ihc (by omega) (by omega)
                omega
          exact this j i (by omega) (by omega)
        omega
  induction hr with
  | refl => exact .refl
  | step hr hx ih =>
    rename_i h' g'
    have hle := rch_le hfd (by omega) hr
    refine .step ih ?_
    obtain ⟨x, hx, e1⟩ := hx
    have hp := (h.pre (i := h') (by omega)).1 x hx
    have := hmono h' (by omega)
    exact ⟨x, by rw [pre_cut (by omega)]; exact hx, by rw [frm_cut hp.1 (by omega)]; exact e1⟩
theorem CS_pair {b l : IV} (h : CS b l = true) {x y : IV} (hx : x ∈ asL l) (hy : y ∈ asL l) (hne : asI x ≠ asI y) : TG b (asI x) (asI y) = true := by
  simp only [CS, Bool.and_eq_true, Bool.not_eq_true', List.any_eq_false, List.any_eq_true, not_exists, not_and, List.mem_range, Bool.not_eq_true] at h
  obtain ⟨i, hi, rfl⟩ := List.getElem_of_mem hx
  obtain ⟨k, hk, rfl⟩ := List.getElem_of_mem hy
  have ei : (asL l).getD i .N = (asL l)[i] := by simp [List.getD, hi]
  have ek : (asL l).getD k .N = (asL l)[k] := by simp [List.getD, hk]
  rcases Nat.lt_trichotomy i k with hik | hik | hik
  · have := h.2 k hk i hik
    rw [ei, ek] at this
    rw [TG_symm]; simpa using this
  · subst hik; exact absurd rfl hne
  · have := h.2 i hi k hik
    rw [ei, ek] at this
    simpa using this
end
end Go.Ev
end
section
set_option linter.unusedVariables false
namespace Go.Ev
section
variable {n b : IV} {nx : Nat → Nat}
theorem PF.tg (h : PF n b nx) {i : Nat} (hi : i < nEv b) {x c : IV} (hx : x ∈ Go.Ev.pre b i) (hc : c ∈ Go.Ev.pre b i) (hne : asI x ≠ asI c) : TG (cutB b (i : Int) (nx i : Int)) (asI x) (asI c) = true :=
  CS_pair (h.pre hi).2 hx hc hne
theorem cut_ev {i m : Nat} (hi : i ≤ nEv b) : (asL (fld (cutB b (i : Int) (m : Int)) 1)).length = i := by
  rw [cutB_1, Int.toNat_natCast, List.length_take]; unfold nEv at hi; omega
theorem PF.hist (h : PF n b nx) {i e g : Nat} (hi : i < nEv b) {c : IV} (hc : c ∈ Go.Ev.pre b i) (he : frm b (asI c) = (e : Int)) (hr : Rch b e g) : Go.Ev.hist (cutB b (i : Int) (nx i : Int)) (frm (cutB b (i : Int) (nx i : Int)) (asI c)) g = true ∧ g < i := by
  have hp := (h.pre hi).1 c hc
  have hf := FD_pre h.fd hi hc
  have hle := rch_le h.fd (by omega) hr
  refine ⟨?_, by omega⟩
  rw [frm_cut hp.1 hp.2, he, hist_nat]
  exact decide_eq_true (h.rch hi (by omega) hr)
theorem PF.cn (h : PF n b nx) {i e g : Nat} (hi : i < nEv b) {x c : IV} (hx : x ∈ Go.Ev.pre b i) (hc : c ∈ Go.Ev.pre b i) (hne : asI x ≠ asI c) (he : frm b (asI c) = (e : Int)) (hr : Rch b e g) : ∀ y ∈ Go.Ev.pre b g, asI y ≠ asI x := by
  have tg := h.tg hi hc hx (fun e => hne e.symm)
  obtain ⟨hh, hg⟩ := h.hist hi hc he hr
  unfold TG at tg
  simp only [Bool.and_eq_true, Bool.not_eq_true'] at tg
  have t2 := tg.1.1.2
  unfold CNf at t2
  have t3 := List.any_eq_false.1 t2 g (List.mem_range.2 (by rw [cut_ev (by omega)]; exact hg))
  intro y hy e1
  apply t3
  rw [hh, Bool.true_and]
  have hy2 : y ∈ Go.Ev.pre (cutB b (i : Int) (nx i : Int)) g := by rw [pre_cut hg]; exact hy
  exact List.any_eq_true.2 ⟨y, hy2, decide_eq_true e1⟩
theorem PF.cl (h : PF n b nx) {i e f g k : Nat} (hi : i < nEv b) {x c : IV} (hx : x ∈ Go.Ev.pre b i) (hc : c ∈ Go.Ev.pre b i) (hne : asI x ≠ asI c) (he : frm b (asI x) = (e : Int)) (hf : frm b (asI c) = (f : Int)) (hr : Rch b e g) (hk : Rch b f k) (hgk : g ≠ k) : ∀ y ∈ Go.Ev.pre b g, ∀ z ∈ Go.Ev.pre b k, asI y ≠ asI z := by
  have tg := h.tg hi hx hc hne
  obtain ⟨h1, hg⟩ := h.hist hi hx he hr
  obtain ⟨h2, hki⟩ := h.hist hi hc hf hk
  unfold TG at tg
  simp only [Bool.and_eq_true, Bool.not_eq_true'] at tg
  have t2 := tg.2
  intro y hy z hz e1
  have hy2 : y ∈ Go.Ev.pre (cutB b (i : Int) (nx i : Int)) g := by rw [pre_cut hg]; exact hy
  have hz2 : z ∈ Go.Ev.pre (cutB b (i : Int) (nx i : Int)) k := by rw [pre_cut hki]; exact hz
  have : CLf (cutB b (i : Int) (nx i : Int)) (Go.Ev.hist (cutB b (i : Int) (nx i : Int)) (frm (cutB b (i : Int) (nx i : Int)) (asI x))) (Go.Ev.hist (cutB b (i : Int) (nx i : Int)) (frm (cutB b (i : Int) (nx i : Int)) (asI c))) = true := by
    simp only [CLf, List.any_eq_true, Bool.and_eq_true, Bool.not_eq_true', decide_eq_false_iff_not, decide_eq_true_eq, List.mem_range]
    refine ⟨g, by rw [cut_ev (by omega)]; exact hg, k, by rw [cut_ev (by omega)]; exact hki, ⟨⟨hgk, h1⟩, h2⟩, y, hy2, z, hz2, ?_⟩
    first | exact e1 | exact e1.symm
  rw [this] at t2; cases t2
theorem PF.self (h : PF n b nx) : ∀ e, e < nEv b → ∀ g k, Rch b e g → Rch b e k → g ≠ k → ∀ y ∈ Go.Ev.pre b g, ∀ z ∈ Go.Ev.pre b k, asI y ≠ asI z := by
  intro e
  induction e using Nat.strongRecOn with
  | _ e ih =>
    intro he g k hg hk hgk y hy z hz e1
    have one : ∀ {k : Nat}, Rch b e k → k ≠ e → ∃ c ∈ Go.Ev.pre b e, ∃ f : Nat, frm b (asI c) = (f : Int) ∧ f < e ∧ Rch b f k := by
      intro k hk hke
      rcases rch_head.1 hk with h1 | ⟨f, ⟨c, hc, h1⟩, h2⟩
      · exact absurd h1 hke
      · have := FD_pre h.fd he hc
        exact ⟨c, hc, f, h1, by omega, h2⟩
    have own : ∀ {k : Nat}, Rch b e k → k ≠ e → ∀ y ∈ Go.Ev.pre b e, ∀ z ∈ Go.Ev.pre b k, asI y ≠ asI z := by
      intro k hk hke y hy z hz e1
      obtain ⟨c, hc, f, h1, h2, h3⟩ := one hk hke
      by_cases hyc : asI y = asI c
      · have hle := rch_le h.fd (by omega) h3
        have := FD_pre h.fd (i := k) (by omega) hz
        rw [← e1, hyc, h1] at this
        omega
      · exact h.cn he hy hc hyc h1 h3 z hz e1.symm
    by_cases hge : g = e
    · subst hge
      exact own hk (fun e => hgk e.symm) y hy z hz e1
    · by_cases hke : k = e
      · subst hke
        exact own hg hge z hz y hy e1.symm
      · obtain ⟨c, hc, f, h1, h2, h3⟩ := one hg hge
        obtain ⟨d, hd, f2, h4, h5, h6⟩ := one hk hke
        by_cases hcd : asI c = asI d
        · have : f = f2 := by rw [hcd, h4] at h1; omega
          subst this
          exact ih f h2 (by omega) g k h3 h6 hgk y hy z hz e1
        · exact h.cl he hc hd hcd h1 h4 h3 h6 hgk y hy z hz e1
structure LW (b : IV) : Prop where
  fd : FD b = true
  self : ∀ e, e < nEv b → CLf b (hist b (e : Int)) (hist b (e : Int)) = false
  back : ∀ e f, e < nEv b → f < nEv b → f < e → hist b (f : Int) e = false
  one : ∀ e f, e < nEv b → hist b (e : Int) f = true → CLf b (hist b (e : Int)) (hist b (f : Int)) = false
end
end Go.Ev
end
section
set_option linter.unusedVariables false
namespace Go.Ev
noncomputable def oc (b : IV) (l : List IV) (i : Nat) (g : Nat) : Bool := (List.range i).any fun k => hist b (frm b (asI (l.getD k .N))) g
theorem oc_zero {b : IV} {l : List IV} : oc b l 0 = fun _ => false := by funext g; simp [oc]
theorem oc_succ {b : IV} {l : List IV} {i : Nat} : oc b l (i + 1) = fun g => oc b l i g || hist b (frm b (asI (l.getD i .N))) g := by funext g; simp [oc, List.range_succ]
theorem oc_all {b : IV} {l : List IV} {g : Nat} : oc b l l.length g = true ↔ ∃ x ∈ l, hist b (frm b (asI x)) g = true := by
  simp only [oc, List.any_eq_true, List.mem_range]
  constructor
  · rintro ⟨k, hk, h⟩; exact ⟨l.getD k .N, memD hk, h⟩
  · rintro ⟨x, hx, h⟩
    obtain ⟨k, hk, rfl⟩ := List.getElem_of_mem hx
    exact ⟨k, hk, by rw [show l.getD k .N = l[k] by simp [List.getD, hk]]; exact h⟩
def hitL (P : List IV) (c : Nat) : Bool := P.any fun x => decide (c = (asI x).toNat)
def posL (b : IV) (e : Nat) : List IV := asL (fld ((asL (fld b 1)).getD e .N) 2)
def mkE (b : IV) (O M : Nat → Bool) (e : Nat) : Nat → Bool := if O e = true then fun c => (M c && !hitL (pre b e) c) || hitL (posL b e) c else M
theorem mkE_f {b : IV} {O M : Nat → Bool} {e : Nat} (h : O e = false) : mkE b O M e = M := by simp [mkE, h]
theorem mkE_t {b : IV} {O M : Nat → Bool} {e : Nat} (h : O e = true) : mkE b O M e = fun c => (M c && !hitL (pre b e) c) || hitL (posL b e) c := by simp [mkE, h]
def Mk (b : IV) (O : Nat → Bool) (i : Nat) (M : Nat → Bool) : Prop := ∀ c : Nat, c < nCo b → (frm b (c : Int) < 0 ∨ ∃ f : Nat, f < i ∧ O f = true ∧ frm b (c : Int) = (f : Int)) → (∀ g, g < i → O g = true → ∀ x ∈ pre b g, asI x ≠ (c : Int)) → M c = true
theorem Mk_zero {b : IV} {O : Nat → Bool} : Mk b O 0 fun c => decide (frm b (c : Int) < 0) := by
  intro c hc h1 h2
  rcases h1 with h1 | ⟨f, hf, _⟩
  · exact decide_eq_true h1
  · exact absurd hf (by omega)
section
variable {n b : IV} {nx : Nat → Nat}
theorem PF.mono (h : PF n b nx) : ∀ {a c : Nat}, a ≤ c → c ≤ nEv b → nx a ≤ nx c := by
  intro a c hac hc
  induction c with
  | zero => obtain rfl : a = 0 := by omega
            exact Nat.le_refl _
  | succ c ihc =>
    rcases Nat.eq_or_lt_of_le hac with rfl | hac
    · exact Nat.le_refl _
    · have h1 := (h.s c (by omega)).2
      have := ihc (by omega) (by omega)
      omega
theorem PF.post (h : PF n b nx) {e : Nat} (he : e < nEv b) : ∀ k, k < (posL b e).length → asI ((posL b e).getD k .N) = ((nx e + k : Nat) : Int) ∧ nx e + k < nCo b ∧ frm b ((nx e + k : Nat) : Int) = (e : Int) := by
  obtain ⟨h3, h4⟩ := h.s e he
  obtain ⟨_, h6⟩ := PO_ok (CE_cp h3).2.2
  rw [el_nat] at h6
  intro k hk
  obtain ⟨h7, h8, _, h9⟩ := h6 k hk
  rw [show ((nx e : Nat) : Int) + (k : Int) = ((nx e + k : Nat) : Int) by omega] at h7 h8 h9
  exact ⟨h7, by unfold nCo; omega, h9⟩
theorem PF.from_ (h : PF n b nx) {c e : Nat} (hc : c < nCo b) (hf : frm b (c : Int) = (e : Int)) : e < nEv b ∧ hitL (posL b e) c = true := by
  have hlt := (h.own (nEv b) (Nat.le_refl _)).2 c (by have := h.t; omega)
  have he : e < nEv b := by omega
  refine ⟨he, ?_⟩
  have h1 : nx e ≤ c := by
    apply Nat.le_of_not_lt
    intro hlt
    have := (h.own e (by omega)).2 c hlt
    omega
  have h2 : c < nx (e + 1) := by
    apply Nat.lt_of_not_le
    intro hle
    have key : ∀ j, e + 1 ≤ j → j ≤ nEv b → nx j ≤ c := by
      intro j hj hjn
      induction j with
      | zero => omega
      | succ j ih =>
        by_cases hje : j = e
        · subst hje; exact hle
        · have hj2 := ih (by omega) (by omega)
          apply Nat.le_of_not_lt
          intro hlt
          have h4 := (h.s j (by omega)).2
          have h5 := h.post (e := j) (by omega) (c - nx j) (by unfold posL; omega)
          rw [show nx j + (c - nx j) = c by omega] at h5
          omega
    have := key (nEv b) (by omega) (Nat.le_refl _)
    have := h.t
    omega
  have h4 := (h.s e he).2
  have hk : c - nx e < (posL b e).length := by unfold posL; omega
  refine List.any_eq_true.2 ⟨(posL b e).getD (c - nx e) .N, memD hk, ?_⟩
  have := (h.post he (c - nx e) hk).1
  rw [this]
  simp; omega
theorem Mk_step (h : PF n b nx) {O M : Nat → Bool} {i : Nat} (hi : i < nEv b) (hM : Mk b O i M) : Mk b O (i + 1) (mkE b O M i) := by
  intro c hc h1 h2
  cases hO : O i with
  | false =>
    rw [mkE_f hO]
    refine hM c hc ?_ (fun g hg => h2 g (by omega))
    rcases h1 with h1 | ⟨f, hf, hf2, h1⟩
    · exact .inl h1
    · refine .inr ⟨f, ?_, hf2, h1⟩
      have : f ≠ i := fun e => by rw [e, hO] at hf2; cases hf2
      omega
  | true =>
    rw [mkE_t hO]
    simp only [Bool.or_eq_true, Bool.and_eq_true, Bool.not_eq_true']
    by_cases hfi : frm b (c : Int) = (i : Int)
    · exact .inr (h.from_ hc hfi).2
    · left
      refine ⟨hM c hc ?_ (fun g hg => h2 g (by omega)), ?_⟩
      · rcases h1 with h1 | ⟨f, hf, hf2, h1⟩
        · exact .inl h1
        · refine .inr ⟨f, ?_, hf2, h1⟩
          have : f ≠ i := fun e => hfi (by rw [h1, e])
          omega
      · cases hh : hitL (pre b i) c with
        | false => rfl
        | true =>
          exfalso
          obtain ⟨x, hx, hx2⟩ := List.any_eq_true.1 hh
          have hx3 : c = (asI x).toNat := of_decide_eq_true hx2
          have := (h.pre hi).1 x hx
          exact h2 i (by omega) hO x hx (by omega)
structure OC (b : IV) (l : List IV) (O : Nat → Bool) : Prop where
  cl : ∀ e, O e = true → e < nEv b → ∀ x ∈ pre b e, frm b (asI x) < 0 ∨ ∃ f : Nat, f < e ∧ O f = true ∧ frm b (asI x) = (f : Int)
  dj : ∀ g k, O g = true → O k = true → g ≠ k → ∀ y ∈ pre b g, ∀ z ∈ pre b k, asI y ≠ asI z
  st : ∀ x ∈ l, frm b (asI x) < 0 ∨ ∃ f : Nat, f < nEv b ∧ O f = true ∧ frm b (asI x) = (f : Int)
  ne : ∀ x ∈ l, ∀ g, O g = true → ∀ y ∈ pre b g, asI y ≠ asI x
theorem CS_in {b l : IV} (h : CS b l = true) : FD b = true ∧ ∀ x ∈ asL l, 0 ≤ asI x ∧ asI x < (nCo b : Int) := by
  simp only [CS, Bool.and_eq_true, Bool.not_eq_true', List.any_eq_false, decide_eq_true_eq] at h
  refine ⟨h.1.1, fun x hx => ?_⟩
  have := h.1.2 x hx
  unfold nCo; omega
theorem hist_iff {b : IV} {e : Int} {g : Nat} : hist b e g = true ↔ ∃ f : Nat, e = (f : Int) ∧ Rch b f g := by
  simp only [hist, Bool.and_eq_true, decide_eq_true_eq]
  constructor
  · rintro ⟨h1, h2⟩; exact ⟨e.toNat, by omega, h2⟩
  · rintro ⟨f, rfl, h⟩; exact ⟨by omega, by simpa using h⟩
theorem oc_ok (h : PF n b nx) {l : IV} (hc : CS b l = true) : OC b (asL l) (oc b (asL l) (asL l).length) := by
  obtain ⟨hfd, hin⟩ := CS_in hc
  refine ⟨fun e he hen x hx => ?_, fun g k hg hk hne y hy z hz => ?_, fun x hx => ?_, fun x hx g hg y hy => ?_⟩
  · have hp := FD_pre hfd hen hx
    by_cases h0 : frm b (asI x) < 0
    · exact .inl h0
    · obtain ⟨c, hc1, hc2⟩ := oc_all.1 he
      obtain ⟨f, hf, hr⟩ := hist_iff.1 hc2
      refine .inr ⟨(frm b (asI x)).toNat, by omega, oc_all.2 ⟨c, hc1, hist_iff.2 ⟨f, hf, .step hr ⟨x, hx, by omega⟩⟩⟩, by omega⟩
  · obtain ⟨c, hc1, hc2⟩ := oc_all.1 hg
    obtain ⟨d, hd1, hd2⟩ := oc_all.1 hk
    obtain ⟨f, hf, hr⟩ := hist_iff.1 hc2
    obtain ⟨f2, hf2, hr2⟩ := hist_iff.1 hd2
    have hcn := hin c hc1
    have hfn := FD_frm hfd hcn.1 hcn.2
    by_cases hcd : asI c = asI d
    · have : f = f2 := by rw [hcd, hf2] at hf; omega
      subst this
      exact h.self f (by omega) g k hr hr2 hne y hy z hz
    · have tg := CS_pair hc hc1 hd1 hcd
      unfold TG at tg
      simp only [Bool.and_eq_true, Bool.not_eq_true'] at tg
      have t2 := tg.2
      have hdn := hin d hd1
      have hfn2 := FD_frm hfd hdn.1 hdn.2
      have hge := rch_le hfd (by omega) hr
      have hke := rch_le hfd (by omega) hr2
      intro e1
      have : CLf b (hist b (frm b (asI c))) (hist b (frm b (asI d))) = true := by
        simp only [CLf, List.any_eq_true, Bool.and_eq_true, Bool.not_eq_true', decide_eq_false_iff_not, decide_eq_true_eq, List.mem_range]
        refine ⟨g, by unfold nEv at hfn; omega, k, by unfold nEv at hfn2; omega, ⟨⟨hne, hc2⟩, hd2⟩, y, hy, z, hz, ?_⟩
        first | exact e1 | exact e1.symm
      rw [this] at t2; cases t2
  · have hxn := hin x hx
    have hfn := FD_frm hfd hxn.1 hxn.2
    by_cases h0 : frm b (asI x) < 0
    · exact .inl h0
    · exact .inr ⟨(frm b (asI x)).toNat, by omega, oc_all.2 ⟨x, hx, hist_iff.2 ⟨(frm b (asI x)).toNat, by omega, .refl⟩⟩, by omega⟩
  · obtain ⟨d, hd1, hd2⟩ := oc_all.1 hg
    obtain ⟨f, hf, hr⟩ := hist_iff.1 hd2
    have hdn := hin d hd1
    have hfn := FD_frm hfd hdn.1 hdn.2
    have hge := rch_le hfd (by omega) hr
    intro e1
    by_cases hxd : asI d = asI x
    · have := FD_pre hfd (i := g) (by omega) hy
      rw [e1, ← hxd, hf] at this
      omega
    · have tg := CS_pair hc hd1 hx hxd
      unfold TG at tg
      simp only [Bool.and_eq_true, Bool.not_eq_true'] at tg
      have t2 := tg.1.1.2
      unfold CNf at t2
      have t3 := List.any_eq_false.1 t2 g (List.mem_range.2 (by unfold nEv at hfn; omega))
      apply t3
      rw [hd2, Bool.true_and]
      exact List.any_eq_true.2 ⟨y, hy, decide_eq_true e1⟩
theorem Mk_pre {O M : Nat → Bool} {l : List IV} (hfd : FD b = true) (ho : OC b l O) {i : Nat} (hi : i < nEv b) (hO : O i = true) (hM : Mk b O i M) : ∀ x ∈ pre b i, M (asI x).toNat = true := by
  intro x hx
  have hp := FD_pre hfd hi hx
  have e : (((asI x).toNat : Nat) : Int) = asI x := by omega
  refine hM (asI x).toNat (by omega) ?_ (fun g hg hOg y hy => ?_)
  · rw [e]; exact ho.cl i hO hi x hx
  · rw [e]; exact ho.dj g i hOg hO (by omega) y hy x hx
theorem Mk_end {O M : Nat → Bool} {l : IV} (ho : OC b (asL l) O) (hc : CS b l = true) (hM : Mk b O (nEv b) M) : ∀ x ∈ asL l, M (asI x).toNat = true := by
  intro x hx
  have hp := (CS_in hc).2 x hx
  have e : (((asI x).toNat : Nat) : Int) = asI x := by omega
  refine hM (asI x).toNat (by omega) ?_ (fun g hg hOg y hy => ?_)
  · rw [e]; exact ho.st x hx
  · rw [e]; exact ho.ne x hx g hOg y hy
theorem RZ_rise {v : IV} (h : RZ v = false) : ∀ j k, j < k → k < (asL v).length → asI ((asL v).getD j .N) < asI ((asL v).getD k .N) := by
  intro j k hjk hk
  have one : ∀ i, i + 1 < (asL v).length → asI ((asL v).getD i .N) < asI ((asL v).getD (i + 1) .N) := by
    intro i hi
    have := List.any_eq_false.1 h i (List.mem_range.2 (by omega))
    simp only [decide_eq_true_eq] at this
    omega
  induction k with
  | zero => omega
  | succ k ih =>
    by_cases hj : j = k
    · subst hj; exact one j hk
    · have := ih (by omega) (by omega)
      have := one k hk
      omega
theorem PF.rise (h : PF n b nx) {i : Nat} (hi : i < nEv b) : ∀ j k, j < k → k < (Go.Ev.pre b i).length → asI ((Go.Ev.pre b i).getD j .N) < asI ((Go.Ev.pre b i).getD k .N) := by
  obtain ⟨h3, _⟩ := h.s i hi
  obtain ⟨_, h5, _⟩ := CE_cp h3
  obtain ⟨_, h6, _⟩ := CP_ok h5
  rw [el_nat] at h6
  exact RZ_rise h6
end
end Go.Ev
end
section
set_option linter.unusedVariables false
namespace Go.Ev
theorem LG_co {b : IV} (h : LG b = false) : (asL (fld b 0)).length ≤ 1000 := by
  simp only [LG, Bool.or_eq_false_iff, decide_eq_false_iff_not] at h
  omega
theorem sm_pl {n : IV} (hs : smB n = true) : (asL (fld n 1)).length ≤ 1000 := by
  simp only [smB, Bool.and_eq_true, Bool.not_eq_true', decide_eq_false_iff_not, not_or] at hs
  omega
end Go.Ev
end
section
set_option linter.unusedVariables false
namespace Go.Ev
theorem bl_ext {n : Nat} {S R : Nat → Bool} (h : ∀ c, c < n → S c = R c) : bl n S = bl n R := by
  unfold bl
  apply List.map_congr_left
  intro c hc
  rw [h c (List.mem_range.1 hc)]
theorem bl_setv {n i : Nat} {S : Nat → Bool} {v : Bool} : (bl n S).set i (.B v) = bl n fun g => if g = i then v else S g := by
  apply List.ext_getElem?
  intro j
  simp only [bl, List.getElem?_set, List.getElem?_map, List.length_map, List.length_range]
  by_cases hij : i = j
  · subst hij
    by_cases hi : i < n
    · simp [hi]
    · simp [hi]
  · by_cases hj : j < n
    · simp [hij, hj, Ne.symm hij]
    · simp [hij, hj]
theorem bl_clr {n i : Nat} {S : Nat → Bool} : (bl n S).set i (.B false) = bl n fun g => S g && !decide (g = i) := by
  rw [bl_setv]
  apply bl_ext
  intro c _
  by_cases h : c = i <;> simp [h]
theorem foldl_and {q : IV → Nat} : ∀ {l : List IV} {S : Nat → Bool}, l.foldl (fun S x => fun c => S c && !decide (c = q x)) S = fun c => S c && !(l.any fun x => decide (c = q x))
  | [], S => by simp
  | x :: l, S => by rw [List.foldl_cons, foldl_and]; funext g; simp [Bool.and_assoc]
def mk0 (b : IV) (i : Nat) : List IV := bl (asL (fld b 0)).length fun c => decide (c < i) && decide (asI (fld ((asL (fld b 0)).getD c .N) 1) < 0)
theorem mk0_len {b : IV} {i : Nat} : (mk0 b i).length = (asL (fld b 0)).length := bl_len
theorem mk0_zero {b : IV} : mk0 b 0 = bl (asL (fld b 0)).length fun _ => false := by unfold mk0; apply bl_ext; intro c _; simp
theorem mk0_set {b : IV} {i : Nat} : (mk0 b i).set i (.B (decide (asI (fld ((asL (fld b 0)).getD i .N) 1) < 0))) = mk0 b (i + 1) := by
  unfold mk0
  rw [bl_setv]
  apply bl_ext
  intro c _
  by_cases h : c = i
  · subst h; simp
  · rw [if_neg h]
    congr 1
    rw [decide_eq_decide]; omega
theorem mk0_end {b : IV} : mk0 b (asL (fld b 0)).length = bl (asL (fld b 0)).length fun c => decide (frm b (c : Int) < 0) := by
  unfold mk0
  apply bl_ext
  intro c hc
  rw [frm, el_nat]
  simp [hc]
theorem cau_ok {b : IV} {e : Int} {X : List IV} (hfd : FD b = true) (he : e < ((asL (fld b 1)).length : Int)) (hX : X = if IN b e = true then mks (asL (fld b 1)).length (hist b e) else []) :
    X.length ≤ (asL (fld b 1)).length ∧ (∀ x ∈ X, 0 ≤ asI x ∧ asI x < ((asL (fld b 1)).length : Int)) ∧ ∀ g, (X.any fun x => decide (g = (asI x).toNat)) = hist b e g := by
  subst hX
  by_cases h0 : 0 ≤ e
  · have hin : IN b e = true := by simp only [IN, hfd, Bool.true_and, Bool.and_eq_true, decide_eq_true_eq]; omega
    rw [if_pos hin]
    refine ⟨mks_len, fun x hx => ?_, fun g => ?_⟩
    · simp only [mks, List.mem_map, List.mem_filter, List.mem_range] at hx
      obtain ⟨i, ⟨hi, _⟩, rfl⟩ := hx
      exact ⟨by simp [asI], by simp [asI]; omega⟩
    · rw [Bool.eq_iff_iff, List.any_eq_true]
      constructor
      · rintro ⟨x, hx, hg⟩
        simp only [mks, List.mem_map, List.mem_filter, List.mem_range] at hx
        obtain ⟨i, ⟨hi, hs⟩, rfl⟩ := hx
        have h2 : decide (g = ((i : Int)).toNat) = true := hg
        have h3 := of_decide_eq_true h2
        have : g = i := by omega
        subst this; exact hs
      · intro hs
        obtain ⟨f, hf, hr⟩ := hist_iff.1 hs
        have hge := rch_le hfd (by unfold nEv; omega) hr
        exact ⟨.I (g : Int), by simp only [mks, List.mem_map, List.mem_filter, List.mem_range]; exact ⟨g, ⟨by omega, hs⟩, rfl⟩, by simp [asI]⟩
  · have hin : ¬IN b e = true := by simp only [IN, hfd, Bool.true_and, Bool.and_eq_true, decide_eq_true_eq]; omega
    rw [if_neg hin]
    refine ⟨Nat.zero_le _, (fun x hx => by cases hx), fun g => ?_⟩
    rw [hist_neg (by omega)]; rfl
theorem post_in {n b : IV} {nx : Nat → Nat} (h : PF n b nx) {i : Nat} (hi : i < nEv b) : ∀ x ∈ posL b i, 0 ≤ asI x ∧ asI x < ((asL (fld b 0)).length : Int) := by
  intro x hx
  obtain ⟨k, hk, rfl⟩ := List.getElem_of_mem hx
  have := h.post hi k hk
  rw [show (posL b i).getD k .N = (posL b i)[k] by simp [List.getD, hk]] at this
  unfold nCo at this
  omega
end Go.Ev
end
section
set_option linter.unusedSimpArgs false
set_option linter.unusedVariables false
set_option maxRecDepth 100000
set_option maxHeartbeats 4000000
namespace Go.Proofs.Ytficdonjodadlaa
open Go.Ev Go.Proofs
theorem marks_ans (ext : CallF) (k : Nat) (hN : ExN ext) (hE : ExC ext) (hU : ExU ext) (n b l : IV) (hk : maxLen + (D0 + 80) ≤ k) (hnn : Ok n) (hb : Ok b) (hv : Ok l) (hX : ∀ k, maxLen + (D0 + 70) ≤ k → ans (tab.run ext k) 12 [] 2 = some ([.one (.at (.bool true))], [4])) : ans (tab.run ext k) 8 [.iv 2 25 n, .iv 2 29 b, .iv 2 46 l] 7 = some ([.one (.at (.bool true))], [4]) := by
  obtain ⟨k, rfl⟩ : ∃ k', k = k' + 1 := ⟨k - 1, by omega⟩
  have hk1 : maxLen < k := by omega
  have hk0 : 0 < k := by omega
  have hk_0 : maxLen + (2) ≤ k := by omega
  have hk_1 : maxLen + (4) ≤ k := by omega
  have hk_2 : maxLen + (D0 + 20) ≤ k := by omega
  have hk_3 : maxLen + (D0 + 24) ≤ k := by omega
  refine fn_run (fx := fx8) (m := 179) 182 rfl rfl rfl rfl (fun st hn hg hr => ?_)
  have g0 : st.get (.tmp 0) = .v (.a (.iv 2 25 n)) := hg 0 (of_decide_eq_true rfl)
  have g1 : st.get (.tmp 1) = .v (.a (.iv 2 29 b)) := hg 1 (of_decide_eq_true rfl)
  have g2 : st.get (.tmp 2) = .v (.a (.iv 2 46 l)) := hg 2 (of_decide_eq_true rfl)
  have r0 := hr 0
  have r1 := hr 1
  have r2 := hr 2
  have r3 := hr 3
  have r4 := hr 4
  have r5 := hr 5
  have r6 := hr 6
  clear hg hr
  rw [co8]
  simp only [Try.f8, Option.getD_some]
  have hX12 := hX k (by omega)
  by_cases hs : smB n = true
  case neg =>
    have hsf : smB n = false := by simpa using hs
    have hsn := smN_f hsf
    simp (maxDischargeDepth := 9) only [go_sem, Nat.reduceMul, Nat.reduceAdd, Nat.reduceLeDiff, Int.reduceSub, Int.reduceNeg, Int.reduceLT, Int.reduceLE, Int.reduceEq, *, small_ans, large_ans, coset_ans, causes_ans, hX12, bl_clr, mk0_len, mk0_zero, mk0_set, mk0_end, oc_zero]
    repeat' (first | (with_reducible refine condLt (fun h h' => ?_) (fun h h' => ?_)) | (with_reducible refine condLe (fun h h' => ?_) (fun h h' => ?_)) | (with_reducible refine dop_val ?_) | (with_reducible refine YsLt (fun h h' => ?_) (fun h h' => ?_)) | (with_reducible refine YsLe (fun h h' => ?_) (fun h h' => ?_)) | (with_reducible refine condP (fun h => ?_) (fun h => ?_)) | (with_reducible refine condN (fun h => ?_) (fun h => ?_)) | (with_reducible refine condB (fun h => ?_) (fun h => ?_)) | (with_reducible refine condR (fun h => ?_) (fun h => ?_)) | (with_reducible refine YsB (fun h => ?_) (fun h => ?_)) | (with_reducible refine YsC (fun h => ?_) (fun h => ?_)) | (with_reducible refine Ys_ite (fun h => ?_) (fun h => ?_)) | (intro h) | (with_reducible refine draw_look (by kernel_rfl) (by kernel_rfl) ?_) | (simp (maxDischargeDepth := 9) only [go_sem, Nat.reduceMul, Nat.reduceAdd, Nat.reduceLeDiff, Int.reduceSub, Int.reduceNeg, Int.reduceLT, Int.reduceLE, Int.reduceEq, *, small_ans, large_ans, coset_ans, causes_ans, hX12, bl_clr, mk0_len, mk0_zero, mk0_set, mk0_end, oc_zero]) | (exfalso; omega))
  have hsn := smN_t hs
  by_cases hL : LG b = true
  case pos =>
    simp (maxDischargeDepth := 9) only [go_sem, Nat.reduceMul, Nat.reduceAdd, Nat.reduceLeDiff, Int.reduceSub, Int.reduceNeg, Int.reduceLT, Int.reduceLE, Int.reduceEq, *, small_ans, large_ans, coset_ans, causes_ans, hX12, bl_clr, mk0_len, mk0_zero, mk0_set, mk0_end, oc_zero]
    repeat' (first | (with_reducible refine condLt (fun h h' => ?_) (fun h h' => ?_)) | (with_reducible refine condLe (fun h h' => ?_) (fun h h' => ?_)) | (with_reducible refine dop_val ?_) | (with_reducible refine YsLt (fun h h' => ?_) (fun h h' => ?_)) | (with_reducible refine YsLe (fun h h' => ?_) (fun h h' => ?_)) | (with_reducible refine condP (fun h => ?_) (fun h => ?_)) | (with_reducible refine condN (fun h => ?_) (fun h => ?_)) | (with_reducible refine condB (fun h => ?_) (fun h => ?_)) | (with_reducible refine condR (fun h => ?_) (fun h => ?_)) | (with_reducible refine YsB (fun h => ?_) (fun h => ?_)) | (with_reducible refine YsC (fun h => ?_) (fun h => ?_)) | (with_reducible refine Ys_ite (fun h => ?_) (fun h => ?_)) | (intro h) | (with_reducible refine draw_look (by kernel_rfl) (by kernel_rfl) ?_) | (simp (maxDischargeDepth := 9) only [go_sem, Nat.reduceMul, Nat.reduceAdd, Nat.reduceLeDiff, Int.reduceSub, Int.reduceNeg, Int.reduceLT, Int.reduceLE, Int.reduceEq, *, small_ans, large_ans, coset_ans, causes_ans, hX12, bl_clr, mk0_len, mk0_zero, mk0_set, mk0_end, oc_zero]) | (exfalso; omega))
  have hLn : LG b = false := by simpa using hL
  have hz := LG_ev hLn
  have hzc := LG_co hLn
  have hl0 := ok_len (ok_fld (j := 0) hb)
  have hl1 := ok_len (ok_fld (j := 1) hb)
  have hll := ok_len hv
  have hzc6 : (asL (fld b 0)).length ≤ 1000000 := by omega
  have hck := check_ans ext k hN hE hU n b 2 2 (by omega) hnn hb (by decide) hz (by omega) (sm_pl hs) (ng_of hs)
  by_cases hc : (CK n b).1 = 0
  case neg =>
    simp (maxDischargeDepth := 9) only [go_sem, Nat.reduceMul, Nat.reduceAdd, Nat.reduceLeDiff, Int.reduceSub, Int.reduceNeg, Int.reduceLT, Int.reduceLE, Int.reduceEq, *, small_ans, large_ans, coset_ans, causes_ans, hX12, bl_clr, mk0_len, mk0_zero, mk0_set, mk0_end, oc_zero]
    repeat' (first | (with_reducible refine condLt (fun h h' => ?_) (fun h h' => ?_)) | (with_reducible refine condLe (fun h h' => ?_) (fun h h' => ?_)) | (with_reducible refine dop_val ?_) | (with_reducible refine YsLt (fun h h' => ?_) (fun h h' => ?_)) | (with_reducible refine YsLe (fun h h' => ?_) (fun h h' => ?_)) | (with_reducible refine condP (fun h => ?_) (fun h => ?_)) | (with_reducible refine condN (fun h => ?_) (fun h => ?_)) | (with_reducible refine condB (fun h => ?_) (fun h => ?_)) | (with_reducible refine condR (fun h => ?_) (fun h => ?_)) | (with_reducible refine YsB (fun h => ?_) (fun h => ?_)) | (with_reducible refine YsC (fun h => ?_) (fun h => ?_)) | (with_reducible refine Ys_ite (fun h => ?_) (fun h => ?_)) | (intro h) | (with_reducible refine draw_look (by kernel_rfl) (by kernel_rfl) ?_) | (simp (maxDischargeDepth := 9) only [go_sem, Nat.reduceMul, Nat.reduceAdd, Nat.reduceLeDiff, Int.reduceSub, Int.reduceNeg, Int.reduceLT, Int.reduceLE, Int.reduceEq, *, small_ans, large_ans, coset_ans, causes_ans, hX12, bl_clr, mk0_len, mk0_zero, mk0_set, mk0_end, oc_zero]) | (exfalso; omega))
  by_cases hcs : CS b l = true
  case neg =>
    have hcf : CS b l = false := by simpa using hcs
    simp (maxDischargeDepth := 9) only [go_sem, Nat.reduceMul, Nat.reduceAdd, Nat.reduceLeDiff, Int.reduceSub, Int.reduceNeg, Int.reduceLT, Int.reduceLE, Int.reduceEq, *, small_ans, large_ans, coset_ans, causes_ans, hX12, bl_clr, mk0_len, mk0_zero, mk0_set, mk0_end, oc_zero]
    repeat' (first | (with_reducible refine condLt (fun h h' => ?_) (fun h h' => ?_)) | (with_reducible refine condLe (fun h h' => ?_) (fun h h' => ?_)) | (with_reducible refine dop_val ?_) | (with_reducible refine YsLt (fun h h' => ?_) (fun h h' => ?_)) | (with_reducible refine YsLe (fun h h' => ?_) (fun h h' => ?_)) | (with_reducible refine condP (fun h => ?_) (fun h => ?_)) | (with_reducible refine condN (fun h => ?_) (fun h => ?_)) | (with_reducible refine condB (fun h => ?_) (fun h => ?_)) | (with_reducible refine condR (fun h => ?_) (fun h => ?_)) | (with_reducible refine YsB (fun h => ?_) (fun h => ?_)) | (with_reducible refine YsC (fun h => ?_) (fun h => ?_)) | (with_reducible refine Ys_ite (fun h => ?_) (fun h => ?_)) | (intro h) | (with_reducible refine draw_look (by kernel_rfl) (by kernel_rfl) ?_) | (simp (maxDischargeDepth := 9) only [go_sem, Nat.reduceMul, Nat.reduceAdd, Nat.reduceLeDiff, Int.reduceSub, Int.reduceNeg, Int.reduceLT, Int.reduceLE, Int.reduceEq, *, small_ans, large_ans, coset_ans, causes_ans, hX12, bl_clr, mk0_len, mk0_zero, mk0_set, mk0_end, oc_zero]) | (exfalso; omega))
  obtain ⟨nx, hpf⟩ := pf_of hc
  have hfd := hpf.fd
  have hcin := (CS_in hcs).2
  have hoc := oc_ok hpf hcs
  simp (maxDischargeDepth := 9) only [go_sem, Nat.reduceMul, Nat.reduceAdd, Nat.reduceLeDiff, Int.reduceSub, Int.reduceNeg, Int.reduceLT, Int.reduceLE, Int.reduceEq, *, small_ans, large_ans, coset_ans, causes_ans, hX12, bl_clr, mk0_len, mk0_zero, mk0_set, mk0_end, oc_zero]
  refine gen_st (fun s0 hg hr hn0 => ?_)
  have e2 := hg 2
  have e4 := hg 4
  have e6 := hg 6
  have e9 := hg 9
  have e10 := hg 10
  have q0 := hr 0
  have q1 := hr 1
  have q2 := hr 2
  have q3 := hr 3
  have q4 := hr 4
  clear hg hr
  simp only [go_sem, *] at hn0 e2 e4 e6 e9 e10 q0 q1 q2 q3 q4
  refine nr (runs_forN (asL l).length (fun (_ : Unit) _ => Stp.next (ρ := Unit) ()) () 182 (fun i a => [(2, s0.get (.tmp 2)), (4, s0.get (.tmp 4)), (6, s0.get (.tmp 6)), (9, s0.get (.tmp 9)), (10, .v (.a (.int .i64 (i : Nat))))]) (fun i a => [(0, s0.row 0), (1, s0.row 1), (2, s0.row 2), (3, s0.row 3), (4, some (.arr 2 4 (bl (asL (fld b 1)).length (oc b (asL l) i))))]) (fun i a => True) (by omega) ?_ (trivial) ?_ ?_ ?_ ?_)
  · simp (maxDischargeDepth := 9) only [go_sem, Nat.reduceMul, Nat.reduceAdd, Nat.reduceLeDiff, Int.reduceSub, Int.reduceNeg, Int.reduceLT, Int.reduceLE, Int.reduceEq, *, small_ans, large_ans, coset_ans, causes_ans, hX12, bl_clr, mk0_len, mk0_zero, mk0_set, mk0_end, oc_zero]
  · intro i a; simp (maxDischargeDepth := 9) only [go_sem, Nat.reduceMul, Nat.reduceAdd, Nat.reduceLeDiff, Int.reduceSub, Int.reduceNeg, Int.reduceLT, Int.reduceLE, Int.reduceEq, *, small_ans, large_ans, coset_ans, causes_ans, hX12, bl_clr, mk0_len, mk0_zero, mk0_set, mk0_end, oc_zero]
  · intro i a; simp (maxDischargeDepth := 9) only [go_sem, Nat.reduceMul, Nat.reduceAdd, Nat.reduceLeDiff, Int.reduceSub, Int.reduceNeg, Int.reduceLT, Int.reduceLE, Int.reduceEq, *, small_ans, large_ans, coset_ans, causes_ans, hX12, bl_clr, mk0_len, mk0_zero, mk0_set, mk0_end, oc_zero]
  · intro i a s hi hI hS
    clear hn0 e10 q4
    simp only [go_sem] at hS
    obtain ⟨f2, f4, f6, f9, f10, m0, m1, m2, m3, m4, hn⟩ := hS
    have hw := wrap_succ hi (hll)
    have hg0 : 0 ≤ asI ((asL l).getD i .N) := (hcin _ (memD hi)).1
    have hg1 : asI ((asL l).getD i .N) < ((asL (fld b 0)).length : Int) := (hcin _ (memD hi)).2
    have hfn := FD_frm hfd hg0 hg1
    have hca := causes_ans ext k b (asI (fld (el (asL (fld b 0)) (asI ((asL l).getD i .N))) 1)) 2 (by omega) hb (by decide) hz
    obtain ⟨X, hXe⟩ : ∃ X, X = (if IN b (asI (fld (el (asL (fld b 0)) (asI ((asL l).getD i .N))) 1)) = true then mks (asL (fld b 1)).length (hist b (asI (fld (el (asL (fld b 0)) (asI ((asL l).getD i .N))) 1))) else []) := ⟨_, rfl⟩
    rw [← hXe] at hca
    obtain ⟨hXl, hXm, hXh⟩ := cau_ok hfd hfn.2 hXe
    clear hXe
    refine rn ?_
    simp (maxDischargeDepth := 9) only [go_sem, Nat.reduceMul, Nat.reduceAdd, Nat.reduceLeDiff, Int.reduceSub, Int.reduceNeg, Int.reduceLT, Int.reduceLE, Int.reduceEq, *, small_ans, large_ans, coset_ans, causes_ans, hX12, bl_clr, mk0_len, mk0_zero, mk0_set, mk0_end, oc_zero]
    with_reducible refine draw_look (by kernel_rfl) (by kernel_rfl) ?_
    simp (maxDischargeDepth := 9) only [go_sem, Nat.reduceMul, Nat.reduceAdd, Nat.reduceLeDiff, Int.reduceSub, Int.reduceNeg, Int.reduceLT, Int.reduceLE, Int.reduceEq, *, small_ans, large_ans, coset_ans, causes_ans, hX12, bl_clr, mk0_len, mk0_zero, mk0_set, mk0_end, oc_zero]
    with_reducible refine dop_val ?_
    simp (maxDischargeDepth := 9) only [go_sem, Nat.reduceMul, Nat.reduceAdd, Nat.reduceLeDiff, Int.reduceSub, Int.reduceNeg, Int.reduceLT, Int.reduceLE, Int.reduceEq, *, small_ans, large_ans, coset_ans, causes_ans, hX12, bl_clr, mk0_len, mk0_zero, mk0_set, mk0_end, oc_zero]
    with_reducible refine dop_val ?_
    simp (maxDischargeDepth := 9) only [go_sem, Nat.reduceMul, Nat.reduceAdd, Nat.reduceLeDiff, Int.reduceSub, Int.reduceNeg, Int.reduceLT, Int.reduceLE, Int.reduceEq, *, small_ans, large_ans, coset_ans, causes_ans, hX12, bl_clr, mk0_len, mk0_zero, mk0_set, mk0_end, oc_zero]
    with_reducible refine dop_val ?_
    simp (maxDischargeDepth := 9) only [go_sem, Nat.reduceMul, Nat.reduceAdd, Nat.reduceLeDiff, Int.reduceSub, Int.reduceNeg, Int.reduceLT, Int.reduceLE, Int.reduceEq, *, small_ans, large_ans, coset_ans, causes_ans, hX12, bl_clr, mk0_len, mk0_zero, mk0_set, mk0_end, oc_zero]
    with_reducible refine dop_val ?_
    simp (maxDischargeDepth := 9) only [go_sem, Nat.reduceMul, Nat.reduceAdd, Nat.reduceLeDiff, Int.reduceSub, Int.reduceNeg, Int.reduceLT, Int.reduceLE, Int.reduceEq, *, small_ans, large_ans, coset_ans, causes_ans, hX12, bl_clr, mk0_len, mk0_zero, mk0_set, mk0_end, oc_zero]
    with_reducible refine dop_val ?_
    simp (maxDischargeDepth := 9) only [go_sem, Nat.reduceMul, Nat.reduceAdd, Nat.reduceLeDiff, Int.reduceSub, Int.reduceNeg, Int.reduceLT, Int.reduceLE, Int.reduceEq, *, small_ans, large_ans, coset_ans, causes_ans, hX12, bl_clr, mk0_len, mk0_zero, mk0_set, mk0_end, oc_zero]
    with_reducible refine dop_val ?_
    simp (maxDischargeDepth := 9) only [go_sem, Nat.reduceMul, Nat.reduceAdd, Nat.reduceLeDiff, Int.reduceSub, Int.reduceNeg, Int.reduceLT, Int.reduceLE, Int.reduceEq, *, small_ans, large_ans, coset_ans, causes_ans, hX12, bl_clr, mk0_len, mk0_zero, mk0_set, mk0_end, oc_zero]
    with_reducible refine dop_val ?_
    simp (maxDischargeDepth := 9) only [go_sem, Nat.reduceMul, Nat.reduceAdd, Nat.reduceLeDiff, Int.reduceSub, Int.reduceNeg, Int.reduceLT, Int.reduceLE, Int.reduceEq, *, small_ans, large_ans, coset_ans, causes_ans, hX12, bl_clr, mk0_len, mk0_zero, mk0_set, mk0_end, oc_zero]
    with_reducible refine dop_val ?_
    simp (maxDischargeDepth := 9) only [go_sem, Nat.reduceMul, Nat.reduceAdd, Nat.reduceLeDiff, Int.reduceSub, Int.reduceNeg, Int.reduceLT, Int.reduceLE, Int.reduceEq, *, small_ans, large_ans, coset_ans, causes_ans, hX12, bl_clr, mk0_len, mk0_zero, mk0_set, mk0_end, oc_zero]
    with_reducible refine dop_val ?_
    simp (maxDischargeDepth := 9) only [go_sem, Nat.reduceMul, Nat.reduceAdd, Nat.reduceLeDiff, Int.reduceSub, Int.reduceNeg, Int.reduceLT, Int.reduceLE, Int.reduceEq, *, small_ans, large_ans, coset_ans, causes_ans, hX12, bl_clr, mk0_len, mk0_zero, mk0_set, mk0_end, oc_zero]
    with_reducible refine dop_val ?_
    simp (maxDischargeDepth := 9) only [go_sem, Nat.reduceMul, Nat.reduceAdd, Nat.reduceLeDiff, Int.reduceSub, Int.reduceNeg, Int.reduceLT, Int.reduceLE, Int.reduceEq, *, small_ans, large_ans, coset_ans, causes_ans, hX12, bl_clr, mk0_len, mk0_zero, mk0_set, mk0_end, oc_zero]
    with_reducible refine dop_val ?_
    simp (maxDischargeDepth := 9) only [go_sem, Nat.reduceMul, Nat.reduceAdd, Nat.reduceLeDiff, Int.reduceSub, Int.reduceNeg, Int.reduceLT, Int.reduceLE, Int.reduceEq, *, small_ans, large_ans, coset_ans, causes_ans, hX12, bl_clr, mk0_len, mk0_zero, mk0_set, mk0_end, oc_zero]
    with_reducible refine dop_loud (by kernel_rfl) ?_
    simp (maxDischargeDepth := 9) only [go_sem, Nat.reduceMul, Nat.reduceAdd, Nat.reduceLeDiff, Int.reduceSub, Int.reduceNeg, Int.reduceLT, Int.reduceLE, Int.reduceEq, *, small_ans, large_ans, coset_ans, causes_ans, hX12, bl_clr, mk0_len, mk0_zero, mk0_set, mk0_end, oc_zero]
    refine gen_st (fun s0 hg hr hn0 => ?_)
    have e2 := hg 2
    have e4 := hg 4
    have e6 := hg 6
    have e9 := hg 9
    have e10 := hg 10
    have e11 := hg 11
    have e48 := hg 48
    have e49 := hg 49
    have e50 := hg 50
    have e51 := hg 51
    have e54 := hg 54
    have e55 := hg 55
    have e56 := hg 56
    have e57 := hg 57
    have e58 := hg 58
    have e59 := hg 59
    have e60 := hg 60
    have e61 := hg 61
    have e62 := hg 62
    have e63 := hg 63
    have e64 := hg 64
    have e12 := hg 12
    have q0 := hr 0
    have q1 := hr 1
    have q2 := hr 2
    have q3 := hr 3
    have q4 := hr 4
    clear hg hr
    simp only [go_sem, *] at hn0 e2 e4 e6 e9 e10 e11 e48 e49 e50 e51 e54 e55 e56 e57 e58 e59 e60 e61 e62 e63 e64 e12 q0 q1 q2 q3 q4
    refine nr (runs_for X (fun (S2 : Nat → Bool) x => Stp.next (ρ := Unit) (fun g => S2 g || decide (g = (asI x).toNat))) (oc b (asL l) i) 182 (fun j S2 => [(2, s0.get (.tmp 2)), (4, s0.get (.tmp 4)), (6, s0.get (.tmp 6)), (9, s0.get (.tmp 9)), (10, s0.get (.tmp 10)), (11, s0.get (.tmp 11)), (48, s0.get (.tmp 48)), (49, s0.get (.tmp 49)), (50, s0.get (.tmp 50)), (51, s0.get (.tmp 51)), (54, s0.get (.tmp 54)), (55, s0.get (.tmp 55)), (56, s0.get (.tmp 56)), (57, s0.get (.tmp 57)), (58, s0.get (.tmp 58)), (59, s0.get (.tmp 59)), (60, s0.get (.tmp 60)), (61, s0.get (.tmp 61)), (62, s0.get (.tmp 62)), (63, s0.get (.tmp 63)), (64, s0.get (.tmp 64)), (12, .v (.a (.int .i64 (j : Nat))))]) (fun j S2 => [(0, s0.row 0), (1, s0.row 1), (2, s0.row 2), (3, s0.row 3), (4, some (.arr 2 4 (bl (asL (fld b 1)).length S2)))]) (fun j S2 => True) (by omega) ?_ (trivial) ?_ ?_ ?_ ?_)
    · simp (maxDischargeDepth := 9) only [go_sem, Nat.reduceMul, Nat.reduceAdd, Nat.reduceLeDiff, Int.reduceSub, Int.reduceNeg, Int.reduceLT, Int.reduceLE, Int.reduceEq, *, small_ans, large_ans, coset_ans, causes_ans, hX12, bl_clr, mk0_len, mk0_zero, mk0_set, mk0_end, oc_zero]
    · intro i a; simp (maxDischargeDepth := 9) only [go_sem, Nat.reduceMul, Nat.reduceAdd, Nat.reduceLeDiff, Int.reduceSub, Int.reduceNeg, Int.reduceLT, Int.reduceLE, Int.reduceEq, *, small_ans, large_ans, coset_ans, causes_ans, hX12, bl_clr, mk0_len, mk0_zero, mk0_set, mk0_end, oc_zero]
    · intro i a; simp (maxDischargeDepth := 9) only [go_sem, Nat.reduceMul, Nat.reduceAdd, Nat.reduceLeDiff, Int.reduceSub, Int.reduceNeg, Int.reduceLT, Int.reduceLE, Int.reduceEq, *, small_ans, large_ans, coset_ans, causes_ans, hX12, bl_clr, mk0_len, mk0_zero, mk0_set, mk0_end, oc_zero]
    · intro j x S2 s hx hi hI hS
      clear hn0 e12 q4
      simp only [go_sem] at hS
      obtain ⟨f2, f4, f6, f9, f10, f11, f48, f49, f50, f51, f54, f55, f56, f57, f58, f59, f60, f61, f62, f63, f64, f12, m0, m1, m2, m3, m4, hn⟩ := hS
      have hw := wrap_succ hi ((Nat.le_trans hXl hl1))
      obtain ⟨hx0, hx1⟩ := hXm x (List.mem_of_getElem? hx)
      refine rn ?_
      simp (maxDischargeDepth := 9) only [go_sem, Nat.reduceMul, Nat.reduceAdd, Nat.reduceLeDiff, Int.reduceSub, Int.reduceNeg, Int.reduceLT, Int.reduceLE, Int.reduceEq, *, small_ans, large_ans, coset_ans, causes_ans, hX12, bl_clr, mk0_len, mk0_zero, mk0_set, mk0_end, oc_zero]
      repeat' (first | (with_reducible refine condLt (fun h h' => ?_) (fun h h' => ?_)) | (with_reducible refine condLe (fun h h' => ?_) (fun h h' => ?_)) | (with_reducible refine dop_val ?_) | (with_reducible refine YsLt (fun h h' => ?_) (fun h h' => ?_)) | (with_reducible refine YsLe (fun h h' => ?_) (fun h h' => ?_)) | (with_reducible refine condP (fun h => ?_) (fun h => ?_)) | (with_reducible refine condN (fun h => ?_) (fun h => ?_)) | (with_reducible refine condB (fun h => ?_) (fun h => ?_)) | (with_reducible refine condR (fun h => ?_) (fun h => ?_)) | (with_reducible refine YsB (fun h => ?_) (fun h => ?_)) | (with_reducible refine YsC (fun h => ?_) (fun h => ?_)) | (with_reducible refine Ys_ite (fun h => ?_) (fun h => ?_)) | (intro h) | (with_reducible refine draw_look (by kernel_rfl) (by kernel_rfl) ?_) | (simp (maxDischargeDepth := 9) only [go_sem, Nat.reduceMul, Nat.reduceAdd, Nat.reduceLeDiff, Int.reduceSub, Int.reduceNeg, Int.reduceLT, Int.reduceLE, Int.reduceEq, *, small_ans, large_ans, coset_ans, causes_ans, hX12, bl_clr, mk0_len, mk0_zero, mk0_set, mk0_end, oc_zero]) | (exfalso; omega))
    · intro S2 s hI hf hS
      clear hn0 e12 q4
      simp only [go_sem] at hS
      obtain ⟨f2, f4, f6, f9, f10, f11, f48, f49, f50, f51, f54, f55, f56, f57, f58, f59, f60, f61, f62, f63, f64, f12, m0, m1, m2, m3, m4, hn⟩ := hS
      try simp only [go_sem] at hf
      have hS2 : S2 = oc b (asL l) (i + 1) := by
        rw [← hf, foldl_or, oc_succ]; funext g; rw [hXh]
      subst hS2
      refine rn ?_
      simp (maxDischargeDepth := 9) only [go_sem, Nat.reduceMul, Nat.reduceAdd, Nat.reduceLeDiff, Int.reduceSub, Int.reduceNeg, Int.reduceLT, Int.reduceLE, Int.reduceEq, *, small_ans, large_ans, coset_ans, causes_ans, hX12, bl_clr, mk0_len, mk0_zero, mk0_set, mk0_end, oc_zero]
      repeat' (first | (with_reducible refine condLt (fun h h' => ?_) (fun h h' => ?_)) | (with_reducible refine condLe (fun h h' => ?_) (fun h h' => ?_)) | (with_reducible refine dop_val ?_) | (with_reducible refine YsLt (fun h h' => ?_) (fun h h' => ?_)) | (with_reducible refine YsLe (fun h h' => ?_) (fun h h' => ?_)) | (with_reducible refine condP (fun h => ?_) (fun h => ?_)) | (with_reducible refine condN (fun h => ?_) (fun h => ?_)) | (with_reducible refine condB (fun h => ?_) (fun h => ?_)) | (with_reducible refine condR (fun h => ?_) (fun h => ?_)) | (with_reducible refine YsB (fun h => ?_) (fun h => ?_)) | (with_reducible refine YsC (fun h => ?_) (fun h => ?_)) | (with_reducible refine Ys_ite (fun h => ?_) (fun h => ?_)) | (intro h) | (with_reducible refine draw_look (by kernel_rfl) (by kernel_rfl) ?_) | (simp (maxDischargeDepth := 9) only [go_sem, Nat.reduceMul, Nat.reduceAdd, Nat.reduceLeDiff, Int.reduceSub, Int.reduceNeg, Int.reduceLT, Int.reduceLE, Int.reduceEq, *, small_ans, large_ans, coset_ans, causes_ans, hX12, bl_clr, mk0_len, mk0_zero, mk0_set, mk0_end, oc_zero]) | (exfalso; omega))
  · intro a s hI hf hS
    clear hn0 e10 q4
    simp only [go_sem] at hS
    obtain ⟨f2, f4, f6, f9, f10, m0, m1, m2, m3, m4, hn⟩ := hS
    try simp only [go_sem] at hf
    refine rn ?_
    simp (maxDischargeDepth := 9) only [go_sem, Nat.reduceMul, Nat.reduceAdd, Nat.reduceLeDiff, Int.reduceSub, Int.reduceNeg, Int.reduceLT, Int.reduceLE, Int.reduceEq, *, small_ans, large_ans, coset_ans, causes_ans, hX12, bl_clr, mk0_len, mk0_zero, mk0_set, mk0_end, oc_zero]
    refine gen_st (fun s0 hg hr hn0 => ?_)
    have e2 := hg 2
    have e4 := hg 4
    have e6 := hg 6
    have e9 := hg 9
    have e13 := hg 13
    have e14 := hg 14
    have q0 := hr 0
    have q1 := hr 1
    have q2 := hr 2
    have q3 := hr 3
    have q4 := hr 4
    have q5 := hr 5
    have q6 := hr 6
    clear hg hr
    simp only [go_sem, *] at hn0 e2 e4 e6 e9 e13 e14 q0 q1 q2 q3 q4 q5 q6
    refine nr (runs_forN (asL (fld b 0)).length (fun (_ : Unit) _ => Stp.next (ρ := Unit) ()) () 182 (fun i a => [(2, s0.get (.tmp 2)), (4, s0.get (.tmp 4)), (6, s0.get (.tmp 6)), (9, s0.get (.tmp 9)), (13, s0.get (.tmp 13)), (14, .v (.a (.int .i64 (i : Nat))))]) (fun i a => [(0, s0.row 0), (1, s0.row 1), (2, s0.row 2), (3, s0.row 3), (4, s0.row 4), (5, s0.row 5), (6, some (.arr 2 4 (mk0 b i)))]) (fun i a => True) (by omega) ?_ (trivial) ?_ ?_ ?_ ?_)
    · simp (maxDischargeDepth := 9) only [go_sem, Nat.reduceMul, Nat.reduceAdd, Nat.reduceLeDiff, Int.reduceSub, Int.reduceNeg, Int.reduceLT, Int.reduceLE, Int.reduceEq, *, small_ans, large_ans, coset_ans, causes_ans, hX12, bl_clr, mk0_len, mk0_zero, mk0_set, mk0_end, oc_zero]
    · intro i a; simp (maxDischargeDepth := 9) only [go_sem, Nat.reduceMul, Nat.reduceAdd, Nat.reduceLeDiff, Int.reduceSub, Int.reduceNeg, Int.reduceLT, Int.reduceLE, Int.reduceEq, *, small_ans, large_ans, coset_ans, causes_ans, hX12, bl_clr, mk0_len, mk0_zero, mk0_set, mk0_end, oc_zero]
    · intro i a; simp (maxDischargeDepth := 9) only [go_sem, Nat.reduceMul, Nat.reduceAdd, Nat.reduceLeDiff, Int.reduceSub, Int.reduceNeg, Int.reduceLT, Int.reduceLE, Int.reduceEq, *, small_ans, large_ans, coset_ans, causes_ans, hX12, bl_clr, mk0_len, mk0_zero, mk0_set, mk0_end, oc_zero]
    · intro i a s hi hI hS
      clear hn0 e14 q6
      simp only [go_sem] at hS
      obtain ⟨f2, f4, f6, f9, f13, f14, m0, m1, m2, m3, m4, m5, m6, hn⟩ := hS
      have hw := wrap_succ hi (hl0)
      refine rn ?_
      simp (maxDischargeDepth := 9) only [go_sem, Nat.reduceMul, Nat.reduceAdd, Nat.reduceLeDiff, Int.reduceSub, Int.reduceNeg, Int.reduceLT, Int.reduceLE, Int.reduceEq, *, small_ans, large_ans, coset_ans, causes_ans, hX12, bl_clr, mk0_len, mk0_zero, mk0_set, mk0_end, oc_zero]
      repeat' (first | (with_reducible refine condLt (fun h h' => ?_) (fun h h' => ?_)) | (with_reducible refine condLe (fun h h' => ?_) (fun h h' => ?_)) | (with_reducible refine dop_val ?_) | (with_reducible refine YsLt (fun h h' => ?_) (fun h h' => ?_)) | (with_reducible refine YsLe (fun h h' => ?_) (fun h h' => ?_)) | (with_reducible refine condP (fun h => ?_) (fun h => ?_)) | (with_reducible refine condN (fun h => ?_) (fun h => ?_)) | (with_reducible refine condB (fun h => ?_) (fun h => ?_)) | (with_reducible refine condR (fun h => ?_) (fun h => ?_)) | (with_reducible refine YsB (fun h => ?_) (fun h => ?_)) | (with_reducible refine YsC (fun h => ?_) (fun h => ?_)) | (with_reducible refine Ys_ite (fun h => ?_) (fun h => ?_)) | (intro h) | (with_reducible refine draw_look (by kernel_rfl) (by kernel_rfl) ?_) | (simp (maxDischargeDepth := 9) only [go_sem, Nat.reduceMul, Nat.reduceAdd, Nat.reduceLeDiff, Int.reduceSub, Int.reduceNeg, Int.reduceLT, Int.reduceLE, Int.reduceEq, *, small_ans, large_ans, coset_ans, causes_ans, hX12, bl_clr, mk0_len, mk0_zero, mk0_set, mk0_end, oc_zero]) | (exfalso; omega))
    · intro a s hI hf hS
      clear hn0 e14 q6
      simp only [go_sem] at hS
      obtain ⟨f2, f4, f6, f9, f13, f14, m0, m1, m2, m3, m4, m5, m6, hn⟩ := hS
      try simp only [go_sem] at hf
      refine rn ?_
      simp (maxDischargeDepth := 9) only [go_sem, Nat.reduceMul, Nat.reduceAdd, Nat.reduceLeDiff, Int.reduceSub, Int.reduceNeg, Int.reduceLT, Int.reduceLE, Int.reduceEq, *, small_ans, large_ans, coset_ans, causes_ans, hX12, bl_clr, mk0_len, mk0_zero, mk0_set, mk0_end, oc_zero]
      refine gen_st (fun s0 hg hr hn0 => ?_)
      have e2 := hg 2
      have e4 := hg 4
      have e9 := hg 9
      have e13 := hg 13
      have e15 := hg 15
      have q0 := hr 0
      have q1 := hr 1
      have q2 := hr 2
      have q3 := hr 3
      have q4 := hr 4
      have q5 := hr 5
      have q6 := hr 6
      clear hg hr
      simp only [go_sem, *] at hn0 e2 e4 e9 e13 e15 q0 q1 q2 q3 q4 q5 q6
      refine nr (runs_forN (asL (fld b 1)).length (fun (M : Nat → Bool) i => Stp.next (ρ := Unit) (mkE b (oc b (asL l) (asL l).length) M i)) (fun c => decide (frm b (c : Int) < 0)) 182 (fun i M => [(2, s0.get (.tmp 2)), (4, s0.get (.tmp 4)), (9, s0.get (.tmp 9)), (13, s0.get (.tmp 13)), (15, .v (.a (.int .i64 (i : Nat))))]) (fun i M => [(0, s0.row 0), (1, s0.row 1), (2, s0.row 2), (3, s0.row 3), (4, s0.row 4), (5, s0.row 5), (6, some (.arr 2 4 (bl (asL (fld b 0)).length M)))]) (fun i M => Mk b (oc b (asL l) (asL l).length) i M) (by omega) ?_ (Mk_zero) ?_ ?_ ?_ ?_)
      · simp (maxDischargeDepth := 9) only [go_sem, Nat.reduceMul, Nat.reduceAdd, Nat.reduceLeDiff, Int.reduceSub, Int.reduceNeg, Int.reduceLT, Int.reduceLE, Int.reduceEq, *, small_ans, large_ans, coset_ans, causes_ans, hX12, bl_clr, mk0_len, mk0_zero, mk0_set, mk0_end, oc_zero]
      · intro i a; simp (maxDischargeDepth := 9) only [go_sem, Nat.reduceMul, Nat.reduceAdd, Nat.reduceLeDiff, Int.reduceSub, Int.reduceNeg, Int.reduceLT, Int.reduceLE, Int.reduceEq, *, small_ans, large_ans, coset_ans, causes_ans, hX12, bl_clr, mk0_len, mk0_zero, mk0_set, mk0_end, oc_zero]
      · intro i a; simp (maxDischargeDepth := 9) only [go_sem, Nat.reduceMul, Nat.reduceAdd, Nat.reduceLeDiff, Int.reduceSub, Int.reduceNeg, Int.reduceLT, Int.reduceLE, Int.reduceEq, *, small_ans, large_ans, coset_ans, causes_ans, hX12, bl_clr, mk0_len, mk0_zero, mk0_set, mk0_end, oc_zero]
      · intro i M s hi hI hS
        clear hn0 e15 q6
        simp only [go_sem] at hS
        obtain ⟨f2, f4, f9, f13, f15, m0, m1, m2, m3, m4, m5, m6, hn⟩ := hS
        have hw := wrap_succ hi (hl1)
        have hio := hi
        have hMs := Mk_step hpf hi hI
        have hlp : (asL (fld ((asL (fld b 1)).getD i .N) 1)).length ≤ maxLen := ok_len (ok_fld (ok_getD (ok_fld hb)))
        have hlq : (asL (fld ((asL (fld b 1)).getD i .N) 2)).length ≤ maxLen := ok_len (ok_fld (ok_getD (ok_fld hb)))
        have hpr : ∀ x ∈ (asL (fld ((asL (fld b 1)).getD i .N) 1)), 0 ≤ asI x ∧ asI x < ((asL (fld b 0)).length : Int) := fun x hx => ⟨(FD_pre hfd hi hx).1, (FD_pre hfd hi hx).2.1⟩
        have hri : ∀ j k, j < k → k < (asL (fld ((asL (fld b 1)).getD i .N) 1)).length → asI ((asL (fld ((asL (fld b 1)).getD i .N) 1)).getD j .N) < asI ((asL (fld ((asL (fld b 1)).getD i .N) 1)).getD k .N) := hpf.rise hi
        have hqr : ∀ x ∈ (asL (fld ((asL (fld b 1)).getD i .N) 2)), 0 ≤ asI x ∧ asI x < ((asL (fld b 0)).length : Int) := post_in hpf hi
        refine rn ?_
        simp (maxDischargeDepth := 9) only [go_sem, Nat.reduceMul, Nat.reduceAdd, Nat.reduceLeDiff, Int.reduceSub, Int.reduceNeg, Int.reduceLT, Int.reduceLE, Int.reduceEq, *, small_ans, large_ans, coset_ans, causes_ans, hX12, bl_clr, mk0_len, mk0_zero, mk0_set, mk0_end, oc_zero]
        by_cases hO : (oc b (asL l) (asL l).length) i = true
        case neg =>
          have hOf : (oc b (asL l) (asL l).length) i = false := by simpa using hO
          have hmf := mkE_f (b := b) (M := M) hOf
          rw [hmf] at hMs
          simp (maxDischargeDepth := 9) only [go_sem, Nat.reduceMul, Nat.reduceAdd, Nat.reduceLeDiff, Int.reduceSub, Int.reduceNeg, Int.reduceLT, Int.reduceLE, Int.reduceEq, *, small_ans, large_ans, coset_ans, causes_ans, hX12, bl_clr, mk0_len, mk0_zero, mk0_set, mk0_end, oc_zero]
        simp (maxDischargeDepth := 9) only [go_sem, Nat.reduceMul, Nat.reduceAdd, Nat.reduceLeDiff, Int.reduceSub, Int.reduceNeg, Int.reduceLT, Int.reduceLE, Int.reduceEq, *, small_ans, large_ans, coset_ans, causes_ans, hX12, bl_clr, mk0_len, mk0_zero, mk0_set, mk0_end, oc_zero]
        refine gen_st (fun s0 hg hr hn0 => ?_)
        have e2 := hg 2
        have e4 := hg 4
        have e9 := hg 9
        have e13 := hg 13
        have e15 := hg 15
        have e98 := hg 98
        have e99 := hg 99
        have e100 := hg 100
        have e101 := hg 101
        have e102 := hg 102
        have e105 := hg 105
        have e106 := hg 106
        have e107 := hg 107
        have e108 := hg 108
        have e109 := hg 109
        have e16 := hg 16
        have q0 := hr 0
        have q1 := hr 1
        have q2 := hr 2
        have q3 := hr 3
        have q4 := hr 4
        have q5 := hr 5
        have q6 := hr 6
        clear hg hr
        simp only [go_sem, *] at hn0 e2 e4 e9 e13 e15 e98 e99 e100 e101 e102 e105 e106 e107 e108 e109 e16 q0 q1 q2 q3 q4 q5 q6
        refine nr (runs_for (asL (fld ((asL (fld b 1)).getD i .N) 1)) (fun (A : Nat → Bool) x => Stp.next (ρ := Unit) (fun c => A c && !decide (c = (asI x).toNat))) M 182 (fun j A => [(2, s0.get (.tmp 2)), (4, s0.get (.tmp 4)), (9, s0.get (.tmp 9)), (13, s0.get (.tmp 13)), (15, s0.get (.tmp 15)), (98, s0.get (.tmp 98)), (99, s0.get (.tmp 99)), (100, s0.get (.tmp 100)), (101, s0.get (.tmp 101)), (102, s0.get (.tmp 102)), (105, s0.get (.tmp 105)), (106, s0.get (.tmp 106)), (107, s0.get (.tmp 107)), (108, s0.get (.tmp 108)), (109, s0.get (.tmp 109)), (16, .v (.a (.int .i64 (j : Nat))))]) (fun j A => [(0, s0.row 0), (1, s0.row 1), (2, s0.row 2), (3, s0.row 3), (4, s0.row 4), (5, s0.row 5), (6, some (.arr 2 4 (bl (asL (fld b 0)).length A)))]) (fun j A => (∀ k2, j ≤ k2 → k2 < (asL (fld ((asL (fld b 1)).getD i .N) 1)).length → A (asI ((asL (fld ((asL (fld b 1)).getD i .N) 1)).getD k2 .N)).toNat = true)) (by omega) ?_ ((fun k2 _ hk2 => Mk_pre hfd hoc hio hO hI _ (memD hk2))) ?_ ?_ ?_ ?_)
        · simp (maxDischargeDepth := 9) only [go_sem, Nat.reduceMul, Nat.reduceAdd, Nat.reduceLeDiff, Int.reduceSub, Int.reduceNeg, Int.reduceLT, Int.reduceLE, Int.reduceEq, *, small_ans, large_ans, coset_ans, causes_ans, hX12, bl_clr, mk0_len, mk0_zero, mk0_set, mk0_end, oc_zero]
        · intro i a; simp (maxDischargeDepth := 9) only [go_sem, Nat.reduceMul, Nat.reduceAdd, Nat.reduceLeDiff, Int.reduceSub, Int.reduceNeg, Int.reduceLT, Int.reduceLE, Int.reduceEq, *, small_ans, large_ans, coset_ans, causes_ans, hX12, bl_clr, mk0_len, mk0_zero, mk0_set, mk0_end, oc_zero]
        · intro i a; simp (maxDischargeDepth := 9) only [go_sem, Nat.reduceMul, Nat.reduceAdd, Nat.reduceLeDiff, Int.reduceSub, Int.reduceNeg, Int.reduceLT, Int.reduceLE, Int.reduceEq, *, small_ans, large_ans, coset_ans, causes_ans, hX12, bl_clr, mk0_len, mk0_zero, mk0_set, mk0_end, oc_zero]
        · intro j x A s hx hi hI hS
          clear hn0 e16 q6
          simp only [go_sem] at hS
          obtain ⟨f2, f4, f9, f13, f15, f98, f99, f100, f101, f102, f105, f106, f107, f108, f109, f16, m0, m1, m2, m3, m4, m5, m6, hn⟩ := hS
          have hw := wrap_succ hi (hlp)
          obtain ⟨hx0, hx1⟩ := hpr x (List.mem_of_getElem? hx)
          have hxe : (asL (fld ((asL (fld b 1)).getD i .N) 1)).getD j .N = x := by rw [List.getD_eq_getElem?_getD, hx]; rfl
          have hA : A (asI x).toNat = true := by have := hI j (Nat.le_refl _) hi; rwa [hxe] at this
          have hnx : ∀ k2, j + 1 ≤ k2 → k2 < (asL (fld ((asL (fld b 1)).getD i .N) 1)).length → (A (asI ((asL (fld ((asL (fld b 1)).getD i .N) 1)).getD k2 .N)).toNat && !decide ((asI ((asL (fld ((asL (fld b 1)).getD i .N) 1)).getD k2 .N)).toNat = (asI x).toNat)) = true := by
            intro k2 h1 h2
            have h3 := hI k2 (by omega) h2
            have h4 := hri j k2 (by omega) h2
            have h5 := hpr _ (memD h2)
            rw [hxe] at h4
            rw [h3, Bool.true_and, Bool.not_eq_true', decide_eq_false_iff_not]
            omega
          refine rn ?_
          simp (maxDischargeDepth := 9) only [go_sem, Nat.reduceMul, Nat.reduceAdd, Nat.reduceLeDiff, Int.reduceSub, Int.reduceNeg, Int.reduceLT, Int.reduceLE, Int.reduceEq, *, small_ans, large_ans, coset_ans, causes_ans, hX12, bl_clr, mk0_len, mk0_zero, mk0_set, mk0_end, oc_zero]
          repeat' (first | (with_reducible refine condLt (fun h h' => ?_) (fun h h' => ?_)) | (with_reducible refine condLe (fun h h' => ?_) (fun h h' => ?_)) | (with_reducible refine dop_val ?_) | (with_reducible refine YsLt (fun h h' => ?_) (fun h h' => ?_)) | (with_reducible refine YsLe (fun h h' => ?_) (fun h h' => ?_)) | (with_reducible refine condP (fun h => ?_) (fun h => ?_)) | (with_reducible refine condN (fun h => ?_) (fun h => ?_)) | (with_reducible refine condB (fun h => ?_) (fun h => ?_)) | (with_reducible refine condR (fun h => ?_) (fun h => ?_)) | (with_reducible refine YsB (fun h => ?_) (fun h => ?_)) | (with_reducible refine YsC (fun h => ?_) (fun h => ?_)) | (with_reducible refine Ys_ite (fun h => ?_) (fun h => ?_)) | (intro h) | (with_reducible refine draw_look (by kernel_rfl) (by kernel_rfl) ?_) | (simp (maxDischargeDepth := 9) only [go_sem, Nat.reduceMul, Nat.reduceAdd, Nat.reduceLeDiff, Int.reduceSub, Int.reduceNeg, Int.reduceLT, Int.reduceLE, Int.reduceEq, *, small_ans, large_ans, coset_ans, causes_ans, hX12, bl_clr, mk0_len, mk0_zero, mk0_set, mk0_end, oc_zero]) | (exfalso; omega))
        · intro A s hI hf hS
          clear hn0 e16 q6
          simp only [go_sem] at hS
          obtain ⟨f2, f4, f9, f13, f15, f98, f99, f100, f101, f102, f105, f106, f107, f108, f109, f16, m0, m1, m2, m3, m4, m5, m6, hn⟩ := hS
          try simp only [go_sem] at hf
          have hAe : A = fun c => M c && !hitL (pre b i) c := by rw [← hf, foldl_and]; rfl
          subst hAe
          refine rn ?_
          simp (maxDischargeDepth := 9) only [go_sem, Nat.reduceMul, Nat.reduceAdd, Nat.reduceLeDiff, Int.reduceSub, Int.reduceNeg, Int.reduceLT, Int.reduceLE, Int.reduceEq, *, small_ans, large_ans, coset_ans, causes_ans, hX12, bl_clr, mk0_len, mk0_zero, mk0_set, mk0_end, oc_zero]
          refine gen_st (fun s0 hg hr hn0 => ?_)
          have e2 := hg 2
          have e4 := hg 4
          have e9 := hg 9
          have e13 := hg 13
          have e15 := hg 15
          have e98 := hg 98
          have e99 := hg 99
          have e100 := hg 100
          have e101 := hg 101
          have e102 := hg 102
          have e105 := hg 105
          have e106 := hg 106
          have e107 := hg 107
          have e108 := hg 108
          have e109 := hg 109
          have e17 := hg 17
          have q0 := hr 0
          have q1 := hr 1
          have q2 := hr 2
          have q3 := hr 3
          have q4 := hr 4
          have q5 := hr 5
          have q6 := hr 6
          clear hg hr
          simp only [go_sem, *] at hn0 e2 e4 e9 e13 e15 e98 e99 e100 e101 e102 e105 e106 e107 e108 e109 e17 q0 q1 q2 q3 q4 q5 q6
          refine nr (runs_for (asL (fld ((asL (fld b 1)).getD i .N) 2)) (fun (A2 : Nat → Bool) x => Stp.next (ρ := Unit) (fun c => A2 c || decide (c = (asI x).toNat))) (fun c => M c && !hitL (pre b i) c) 182 (fun j2 A2 => [(2, s0.get (.tmp 2)), (4, s0.get (.tmp 4)), (9, s0.get (.tmp 9)), (13, s0.get (.tmp 13)), (15, s0.get (.tmp 15)), (98, s0.get (.tmp 98)), (99, s0.get (.tmp 99)), (100, s0.get (.tmp 100)), (101, s0.get (.tmp 101)), (102, s0.get (.tmp 102)), (105, s0.get (.tmp 105)), (106, s0.get (.tmp 106)), (107, s0.get (.tmp 107)), (108, s0.get (.tmp 108)), (109, s0.get (.tmp 109)), (17, .v (.a (.int .i64 (j2 : Nat))))]) (fun j2 A2 => [(0, s0.row 0), (1, s0.row 1), (2, s0.row 2), (3, s0.row 3), (4, s0.row 4), (5, s0.row 5), (6, some (.arr 2 4 (bl (asL (fld b 0)).length A2)))]) (fun j2 A2 => True) (by omega) ?_ (trivial) ?_ ?_ ?_ ?_)
          · simp (maxDischargeDepth := 9) only [go_sem, Nat.reduceMul, Nat.reduceAdd, Nat.reduceLeDiff, Int.reduceSub, Int.reduceNeg, Int.reduceLT, Int.reduceLE, Int.reduceEq, *, small_ans, large_ans, coset_ans, causes_ans, hX12, bl_clr, mk0_len, mk0_zero, mk0_set, mk0_end, oc_zero]
          · intro i a; simp (maxDischargeDepth := 9) only [go_sem, Nat.reduceMul, Nat.reduceAdd, Nat.reduceLeDiff, Int.reduceSub, Int.reduceNeg, Int.reduceLT, Int.reduceLE, Int.reduceEq, *, small_ans, large_ans, coset_ans, causes_ans, hX12, bl_clr, mk0_len, mk0_zero, mk0_set, mk0_end, oc_zero]
          · intro i a; simp (maxDischargeDepth := 9) only [go_sem, Nat.reduceMul, Nat.reduceAdd, Nat.reduceLeDiff, Int.reduceSub, Int.reduceNeg, Int.reduceLT, Int.reduceLE, Int.reduceEq, *, small_ans, large_ans, coset_ans, causes_ans, hX12, bl_clr, mk0_len, mk0_zero, mk0_set, mk0_end, oc_zero]
          · intro j2 x A2 s hx hi hI hS
            clear hn0 e17 q6
            simp only [go_sem] at hS
            obtain ⟨f2, f4, f9, f13, f15, f98, f99, f100, f101, f102, f105, f106, f107, f108, f109, f17, m0, m1, m2, m3, m4, m5, m6, hn⟩ := hS
            have hw := wrap_succ hi (hlq)
            obtain ⟨hx0, hx1⟩ := hqr x (List.mem_of_getElem? hx)
            refine rn ?_
            simp (maxDischargeDepth := 9) only [go_sem, Nat.reduceMul, Nat.reduceAdd, Nat.reduceLeDiff, Int.reduceSub, Int.reduceNeg, Int.reduceLT, Int.reduceLE, Int.reduceEq, *, small_ans, large_ans, coset_ans, causes_ans, hX12, bl_clr, mk0_len, mk0_zero, mk0_set, mk0_end, oc_zero]
            repeat' (first | (with_reducible refine condLt (fun h h' => ?_) (fun h h' => ?_)) | (with_reducible refine condLe (fun h h' => ?_) (fun h h' => ?_)) | (with_reducible refine dop_val ?_) | (with_reducible refine YsLt (fun h h' => ?_) (fun h h' => ?_)) | (with_reducible refine YsLe (fun h h' => ?_) (fun h h' => ?_)) | (with_reducible refine condP (fun h => ?_) (fun h => ?_)) | (with_reducible refine condN (fun h => ?_) (fun h => ?_)) | (with_reducible refine condB (fun h => ?_) (fun h => ?_)) | (with_reducible refine condR (fun h => ?_) (fun h => ?_)) | (with_reducible refine YsB (fun h => ?_) (fun h => ?_)) | (with_reducible refine YsC (fun h => ?_) (fun h => ?_)) | (with_reducible refine Ys_ite (fun h => ?_) (fun h => ?_)) | (intro h) | (with_reducible refine draw_look (by kernel_rfl) (by kernel_rfl) ?_) | (simp (maxDischargeDepth := 9) only [go_sem, Nat.reduceMul, Nat.reduceAdd, Nat.reduceLeDiff, Int.reduceSub, Int.reduceNeg, Int.reduceLT, Int.reduceLE, Int.reduceEq, *, small_ans, large_ans, coset_ans, causes_ans, hX12, bl_clr, mk0_len, mk0_zero, mk0_set, mk0_end, oc_zero]) | (exfalso; omega))
          · intro A2 s hI hf hS
            clear hn0 e17 q6
            simp only [go_sem] at hS
            obtain ⟨f2, f4, f9, f13, f15, f98, f99, f100, f101, f102, f105, f106, f107, f108, f109, f17, m0, m1, m2, m3, m4, m5, m6, hn⟩ := hS
            try simp only [go_sem] at hf
            have hA2 : A2 = mkE b (oc b (asL l) (asL l).length) M i := by rw [← hf, foldl_or, mkE_t hO]; rfl
            subst hA2
            refine rn ?_
            simp (maxDischargeDepth := 9) only [go_sem, Nat.reduceMul, Nat.reduceAdd, Nat.reduceLeDiff, Int.reduceSub, Int.reduceNeg, Int.reduceLT, Int.reduceLE, Int.reduceEq, *, small_ans, large_ans, coset_ans, causes_ans, hX12, bl_clr, mk0_len, mk0_zero, mk0_set, mk0_end, oc_zero]
            repeat' (first | (with_reducible refine condLt (fun h h' => ?_) (fun h h' => ?_)) | (with_reducible refine condLe (fun h h' => ?_) (fun h h' => ?_)) | (with_reducible refine dop_val ?_) | (with_reducible refine YsLt (fun h h' => ?_) (fun h h' => ?_)) | (with_reducible refine YsLe (fun h h' => ?_) (fun h h' => ?_)) | (with_reducible refine condP (fun h => ?_) (fun h => ?_)) | (with_reducible refine condN (fun h => ?_) (fun h => ?_)) | (with_reducible refine condB (fun h => ?_) (fun h => ?_)) | (with_reducible refine condR (fun h => ?_) (fun h => ?_)) | (with_reducible refine YsB (fun h => ?_) (fun h => ?_)) | (with_reducible refine YsC (fun h => ?_) (fun h => ?_)) | (with_reducible refine Ys_ite (fun h => ?_) (fun h => ?_)) | (intro h) | (with_reducible refine draw_look (by kernel_rfl) (by kernel_rfl) ?_) | (simp (maxDischargeDepth := 9) only [go_sem, Nat.reduceMul, Nat.reduceAdd, Nat.reduceLeDiff, Int.reduceSub, Int.reduceNeg, Int.reduceLT, Int.reduceLE, Int.reduceEq, *, small_ans, large_ans, coset_ans, causes_ans, hX12, bl_clr, mk0_len, mk0_zero, mk0_set, mk0_end, oc_zero]) | (exfalso; omega))
      · intro M s hI hf hS
        clear hn0 e15 q6
        simp only [go_sem] at hS
        obtain ⟨f2, f4, f9, f13, f15, m0, m1, m2, m3, m4, m5, m6, hn⟩ := hS
        try simp only [go_sem] at hf
        have hMe := Mk_end hoc hcs hI
        refine rn ?_
        simp (maxDischargeDepth := 9) only [go_sem, Nat.reduceMul, Nat.reduceAdd, Nat.reduceLeDiff, Int.reduceSub, Int.reduceNeg, Int.reduceLT, Int.reduceLE, Int.reduceEq, *, small_ans, large_ans, coset_ans, causes_ans, hX12, bl_clr, mk0_len, mk0_zero, mk0_set, mk0_end, oc_zero]
        refine gen_st (fun s0 hg hr hn0 => ?_)
        have e2 := hg 2
        have e13 := hg 13
        have e18 := hg 18
        have q0 := hr 0
        have q1 := hr 1
        have q2 := hr 2
        have q3 := hr 3
        have q4 := hr 4
        have q5 := hr 5
        have q6 := hr 6
        clear hg hr
        simp only [go_sem, *] at hn0 e2 e13 e18 q0 q1 q2 q3 q4 q5 q6
        refine nr (runs_forN (asL l).length (fun (_ : Unit) _ => Stp.next (ρ := Unit) ()) () 182 (fun i a => [(2, s0.get (.tmp 2)), (13, s0.get (.tmp 13)), (18, .v (.a (.int .i64 (i : Nat))))]) (fun i a => [(0, s0.row 0), (1, s0.row 1), (2, s0.row 2), (3, s0.row 3), (4, s0.row 4), (5, s0.row 5), (6, s0.row 6)]) (fun i a => True) (by omega) ?_ (trivial) ?_ ?_ ?_ ?_)
        · simp (maxDischargeDepth := 9) only [go_sem, Nat.reduceMul, Nat.reduceAdd, Nat.reduceLeDiff, Int.reduceSub, Int.reduceNeg, Int.reduceLT, Int.reduceLE, Int.reduceEq, *, small_ans, large_ans, coset_ans, causes_ans, hX12, bl_clr, mk0_len, mk0_zero, mk0_set, mk0_end, oc_zero]
        · intro i a; simp (maxDischargeDepth := 9) only [go_sem, Nat.reduceMul, Nat.reduceAdd, Nat.reduceLeDiff, Int.reduceSub, Int.reduceNeg, Int.reduceLT, Int.reduceLE, Int.reduceEq, *, small_ans, large_ans, coset_ans, causes_ans, hX12, bl_clr, mk0_len, mk0_zero, mk0_set, mk0_end, oc_zero]
        · intro i a; simp (maxDischargeDepth := 9) only [go_sem, Nat.reduceMul, Nat.reduceAdd, Nat.reduceLeDiff, Int.reduceSub, Int.reduceNeg, Int.reduceLT, Int.reduceLE, Int.reduceEq, *, small_ans, large_ans, coset_ans, causes_ans, hX12, bl_clr, mk0_len, mk0_zero, mk0_set, mk0_end, oc_zero]
        · intro i a s hi hI hS
          clear hn0 e18
          simp only [go_sem] at hS
          obtain ⟨f2, f13, f18, m0, m1, m2, m3, m4, m5, m6, hn⟩ := hS
          have hw := wrap_succ hi (hll)
          have hg0 : 0 ≤ asI ((asL l).getD i .N) := (hcin _ (memD hi)).1
          have hg1 : asI ((asL l).getD i .N) < ((asL (fld b 0)).length : Int) := (hcin _ (memD hi)).2
          have hMi : M (asI ((asL l).getD i .N)).toNat = true := hMe _ (memD hi)
          refine rn ?_
          simp (maxDischargeDepth := 9) only [go_sem, Nat.reduceMul, Nat.reduceAdd, Nat.reduceLeDiff, Int.reduceSub, Int.reduceNeg, Int.reduceLT, Int.reduceLE, Int.reduceEq, *, small_ans, large_ans, coset_ans, causes_ans, hX12, bl_clr, mk0_len, mk0_zero, mk0_set, mk0_end, oc_zero]
          repeat' (first | (with_reducible refine condLt (fun h h' => ?_) (fun h h' => ?_)) | (with_reducible refine condLe (fun h h' => ?_) (fun h h' => ?_)) | (with_reducible refine dop_val ?_) | (with_reducible refine YsLt (fun h h' => ?_) (fun h h' => ?_)) | (with_reducible refine YsLe (fun h h' => ?_) (fun h h' => ?_)) | (with_reducible refine condP (fun h => ?_) (fun h => ?_)) | (with_reducible refine condN (fun h => ?_) (fun h => ?_)) | (with_reducible refine condB (fun h => ?_) (fun h => ?_)) | (with_reducible refine condR (fun h => ?_) (fun h => ?_)) | (with_reducible refine YsB (fun h => ?_) (fun h => ?_)) | (with_reducible refine YsC (fun h => ?_) (fun h => ?_)) | (with_reducible refine Ys_ite (fun h => ?_) (fun h => ?_)) | (intro h) | (with_reducible refine draw_look (by kernel_rfl) (by kernel_rfl) ?_) | (simp (maxDischargeDepth := 9) only [go_sem, Nat.reduceMul, Nat.reduceAdd, Nat.reduceLeDiff, Int.reduceSub, Int.reduceNeg, Int.reduceLT, Int.reduceLE, Int.reduceEq, *, small_ans, large_ans, coset_ans, causes_ans, hX12, bl_clr, mk0_len, mk0_zero, mk0_set, mk0_end, oc_zero]) | (exfalso; omega))
        · intro a s hI hf hS
          clear hn0 e18
          simp only [go_sem] at hS
          obtain ⟨f2, f13, f18, m0, m1, m2, m3, m4, m5, m6, hn⟩ := hS
          try simp only [go_sem] at hf
          refine rn ?_
          simp (maxDischargeDepth := 9) only [go_sem, Nat.reduceMul, Nat.reduceAdd, Nat.reduceLeDiff, Int.reduceSub, Int.reduceNeg, Int.reduceLT, Int.reduceLE, Int.reduceEq, *, small_ans, large_ans, coset_ans, causes_ans, hX12, bl_clr, mk0_len, mk0_zero, mk0_set, mk0_end, oc_zero]
          repeat' (first | (with_reducible refine condLt (fun h h' => ?_) (fun h h' => ?_)) | (with_reducible refine condLe (fun h h' => ?_) (fun h h' => ?_)) | (with_reducible refine dop_val ?_) | (with_reducible refine YsLt (fun h h' => ?_) (fun h h' => ?_)) | (with_reducible refine YsLe (fun h h' => ?_) (fun h h' => ?_)) | (with_reducible refine condP (fun h => ?_) (fun h => ?_)) | (with_reducible refine condN (fun h => ?_) (fun h => ?_)) | (with_reducible refine condB (fun h => ?_) (fun h => ?_)) | (with_reducible refine condR (fun h => ?_) (fun h => ?_)) | (with_reducible refine YsB (fun h => ?_) (fun h => ?_)) | (with_reducible refine YsC (fun h => ?_) (fun h => ?_)) | (with_reducible refine Ys_ite (fun h => ?_) (fun h => ?_)) | (intro h) | (with_reducible refine draw_look (by kernel_rfl) (by kernel_rfl) ?_) | (simp (maxDischargeDepth := 9) only [go_sem, Nat.reduceMul, Nat.reduceAdd, Nat.reduceLeDiff, Int.reduceSub, Int.reduceNeg, Int.reduceLT, Int.reduceLE, Int.reduceEq, *, small_ans, large_ans, coset_ans, causes_ans, hX12, bl_clr, mk0_len, mk0_zero, mk0_set, mk0_end, oc_zero]) | (exfalso; omega))
end Go.Proofs.Ytficdonjodadlaa
end
