/- Part 0 of a proof: Dm. Words and walks that a program printed for this claim stand here without what the claim does not use. -/
import Derived.WalkKit
import Derived.Orders
import Derived.Below
import Derived.Laws.OwnMore
import Derived.Laws.MakeOwn
import Derived.Test.YtficdonjodadlaaProg
set_option linter.unusedSimpArgs false
set_option linter.unusedVariables false
section
set_option linter.unusedVariables false
namespace Go.Ev
inductive IV where
  | I (n : Int) | B (b : Bool) | S (s : ByteArray) | L (l : List IV) | A (l : List IV) | N
  deriving Inhabited
def asI : IV → Int | .I n => n | _ => 0
def asB : IV → Bool | .B b => b | _ => false
def asS : IV → ByteArray | .S s => s | _ => .empty
def asL : IV → List IV | .L l => l | _ => []
def fld (v : IV) (j : Nat) : IV := match v with | .A l => l.getD j .N | _ => .N
def setf (v : IV) (j : Nat) (x : IV) : IV := match v with | .A l => .A (l.set j x) | v => v
def atp (v : IV) : List Nat → IV
  | [] => v
  | j :: p => atp (fld v j) p
def putp (v : IV) : List Nat → IV → IV
  | [], x => x
  | j :: p, x => setf v j (putp (fld v j) p x)
inductive Ty where
  | int (k : IntKind) | bool | str | slice (e : TypeId) | agg (fs : List (TypeId × Nat)) | ptr (e : TypeId) | fn | no
structure TyRow where
  ty : Ty
  size : Nat
  bytes : Nat
  flat : Bool
  zero : IV
inductive At where
  | int (k : IntKind) (n : Int) | bool (b : Bool) | str (s : ByteArray)
  | iv (p : Nat) (t : TypeId) (v : IV) | pv (p : Nat) (t : TypeId) (v : IV)
  | own (k : Nat) | sub (k : Nat) (len : Nat) | ptr (k : Nat) (path : List Nat) (t : TypeId)
  | nil | nilf | fn (f : FuncId) (caps : List Nat) | U
inductive V1 where
  | a (x : At) | g (t : TypeId) (l : List At)
inductive SV where
  | v (x : V1) | tup (l : List V1)
inductive Row where
  | box (x : Bool) (t : TypeId) (own : List Nat) (c : V1)
  | arr (p : Nat) (e : TypeId) (l : List IV)
structure St where
  env : List SV
  mem : List (Option Row)
structure Hint where
  key : Nat
  own : List Nat
inductive R1 where
  | at (x : At) | own (p : Nat) (e : TypeId) (l : List IV)
inductive RV where
  | one (x : R1) | g (t : TypeId) (l : List R1)
structure Fx where
  code : Code
  ntmps : Nat
  params : List TypeId
  res : List (ResultVar × TypeId)
  hints : List (Nat × Hint)
  clr : List (Nat × List Nat × List Nat)
  nk : Nat
structure Tab where
  tys : List TyRow
  fns : List (Nat × Fx)
def Tab.row (T : Tab) (t : TypeId) : TyRow := T.tys.getD t ⟨.no, 0, 0, false, .N⟩
def Tab.ty (T : Tab) (t : TypeId) : Ty := (T.row t).ty
def U : SV := .v (.a .U)
def At.kill (k : Nat) : At → At
  | .own j => if j = k then .U else .own j
  | .sub j n => if j = k then .U else .sub j n
  | .ptr j p t => if j = k then .U else .ptr j p t
  | .fn f caps => if k ∈ caps then .U else .fn f caps
  | x => x
def At.ren (k k' : Nat) : At → At
  | .own j => if j = k then .own k' else .own j
  | .sub j n => if j = k then .sub k' n else .sub j n
  | .ptr j p t => if j = k then .ptr k' p t else .ptr j p t
  | .fn f caps => if k ∈ caps then .U else .fn f caps
  | x => x
def V1.map (φ : At → At) : V1 → V1 | .a x => .a (φ x) | .g t l => .g t (l.map φ)
def SV.map (φ : At → At) : SV → SV | .v x => .v (x.map φ) | .tup l => .tup (l.map (·.map φ))
def Row.map (φ : At → At) : Row → Row | .box x t o c => .box x t o (c.map φ) | r => r
def St.map (φ : At → At) (st : St) : St := ⟨st.env.map (·.map φ), st.mem.map (·.map (·.map φ))⟩
def St.row (st : St) (k : Nat) : Option Row := (st.mem[k]?).join
def setD (m : List (Option Row)) (k : Nat) (r : Option Row) : List (Option Row) := if k < m.length then m.set k r else m ++ (List.replicate (k - m.length) none ++ [r])
def St.putRow (st : St) (k : Nat) (r : Option Row) : St := { st with mem := setD st.mem k r }
def St.set (st : St) (dst : Option Tmp) (v : SV) : St := match dst with | some d => { st with env := st.env.set d v } | none => st
def St.kill (st : St) (k : Nat) : St := (st.map (At.kill k)).putRow k none
def St.moveRow (st : St) (k k' : Nat) : St :=
  if k = k' then st else
  match st.row k with
  | some (.arr p e l) => (((st.kill k').map (At.ren k k')).putRow k none).putRow k' (some (.arr p e l))
  | _ => st.kill k'
def mn (p q : Nat) : Nat := if p ≤ q then p else q
def Tab.mk1 (T : Tab) (p : Nat) (t : TypeId) (v : IV) : At :=
  match T.ty t with
  | .int k => .int k (asI v) | .bool => .bool (asB v) | .str => .str (asS v)
  | .slice _ | .agg _ => .iv (if (T.row t).flat then 2 else p) t v
  | _ => .U
def Tab.iv1 (T : Tab) (t : TypeId) : At → Option (Nat × IV)
  | .int k n => match T.ty t with | .int k' => if k = k' then some (2, .I n) else none | _ => none
  | .bool b => match T.ty t with | .bool => some (2, .B b) | _ => none
  | .str s => match T.ty t with | .str => some (2, .S s) | _ => none
  | .nil => match T.ty t with | .slice _ => some (2, .N) | _ => none
  | .iv p t' v => if t = t' then some (p, v) else none
  | _ => none
def Tab.ivL (T : Tab) : List (TypeId × Nat) → List At → Option (Nat × List IV)
  | [], [] => some (2, [])
  | (t, _) :: fs, x :: l => (T.iv1 t x).bind fun (p, v) => (T.ivL fs l).bind fun (q, vs) => some (mn p q, v :: vs)
  | _, _ => none
def Tab.ivV (T : Tab) (t : TypeId) : V1 → Option (Nat × IV)
  | .a x => T.iv1 t x
  | .g t' l => if t = t' then match T.ty t with | .agg fs => (T.ivL fs l).bind fun (p, vs) => some (p, .A vs) | _ => none else none
def St.view1 (T : Tab) (st : St) (t : TypeId) : At → Option At
  | .own k => match T.ty t, st.row k with | .slice e, some (.arr _ e' l) => if e = e' then some (.iv 0 t (.L l)) else none | _, _ => none
  | .sub k n => match T.ty t, st.row k with | .slice e, some (.arr _ e' l) => if e = e' then if n ≤ l.length then some (.iv 0 t (.L (l.take n))) else none else none | _, _ => none
  | .nil => match T.ty t with | .slice _ => some (.iv 2 t .N) | _ => none
  | .iv p t v => some (.iv p t v)
  | .int k n => some (.int k n) | .bool b => some (.bool b) | .str s => some (.str s)
  | _ => none
def St.viewL (T : Tab) (st : St) : List (TypeId × Nat) → List At → Option (List At)
  | [], [] => some []
  | (t, _) :: fs, x :: l => (st.view1 T t x).bind fun y => (st.viewL T fs l).bind fun ys => some (y :: ys)
  | _, _ => none
def St.arg (T : Tab) (ρ : List (Nat × Nat)) (st : St) (t : TypeId) (v : SV) : Option At :=
  match v with
  | .v (.a (.int k n)) => some (.int k n)
  | .v (.a (.bool b)) => some (.bool b)
  | .v (.a (.str s)) => some (.str s)
  | .v (.a (.fn f caps)) => (caps.mapM (fun k => ρ.lookup k)).bind fun caps => some (.fn f caps)
  | .v (.a x) => (st.view1 T t x).bind fun y => (T.iv1 t y).bind fun (p, w) => some (.iv p t w)
  | .v (.g t' l) => if t = t' then match T.ty t with | .agg fs => (st.viewL T fs l).bind fun l2 => (T.ivL fs l2).bind fun (p, vs) => some (.iv p t (.A vs)) | _ => none else none
  | _ => none
def St.fits (T : Tab) (st : St) (t : TypeId) (x : At) : Bool :=
  match x, T.ty t with
  | .int k _, .int k' => decide (k = k')
  | .bool _, .bool | .str _, .str | .nil, .slice _ | .nilf, .fn | .fn _ _, .fn => true
  | .own k, .slice e => match st.row k with | some (.arr _ e' _) => decide (e = e') | _ => false
  | .iv _ t' _, _ => decide (t' = t)
  | _, _ => false
def St.freeze1 (T : Tab) (st : St) (t : TypeId) : At → Option (St × At)
  | .own k => match T.ty t, st.row k with | .slice e, some (.arr p e' l) => if e = e' then some (st.kill k, .iv p t (.L l)) else none | _, _ => none
  | .nil => match T.ty t with | .slice _ => some (st, .iv 2 t .N) | _ => none
  | .sub _ _ => none
  | x => some (st, x)
def St.freezeL (T : Tab) : St → List (TypeId × Nat) → List At → Option (St × List At)
  | st, [], [] => some (st, [])
  | st, (t, _) :: fs, x :: l => (st.freeze1 T t x).bind fun (st, y) => (St.freezeL T st fs l).bind fun (st, ys) => some (st, y :: ys)
  | _, _, _ => none
def St.frozen (T : Tab) (st : St) (t : TypeId) (v : V1) : Option (St × Nat × IV) :=
  match v with
  | .a x => if st.fits T t x then (st.freeze1 T t x).bind fun (st, y) => (T.iv1 t y).bind fun (p, w) => some (st, p, w) else none
  | .g t' l => if t = t' then match T.ty t with | .agg fs => (St.freezeL T st fs l).bind fun (st, l2) => (T.ivL fs l2).bind fun (p, vs) => some (st, p, .A vs) | _ => none else none
def constAt : Value → At
  | .int k n => .int k n | .bool b => .bool b | .string s => .str s | .slice none 0 0 => .nil | .nilFunc => .nilf | _ => .U
def St.get (st : St) : Operand → SV
  | .tmp t => st.env.getD t U
  | .const v => .v (.a (constAt v))
  | .func f => .v (.a (.fn f []))
  | .global _ => U
def elemOf (T : Tab) (t : TypeId) : TypeId := match T.ty t with | .slice e => e | _ => 0
def Tab.fields (T : Tab) (t : TypeId) : V1 → List At
  | .g _ l => l
  | .a (.iv p _ v) => match T.ty t with | .agg fs => (List.range fs.length).map fun j => T.mk1 p (fs.getD j (0, 0)).1 (fld v j) | _ => []
  | .a _ => []
def aggOf (T : Tab) (t : TypeId) : List (TypeId × Nat) := match T.ty t with | .agg fs => fs | _ => []
def At.isOwn : At → Bool | .own _ | .sub _ _ => true | _ => false
def St.fieldOf (st : St) (n j : Nat) : At := match st.env.getD n U with | .v (.g _ l) => l.getD j .U | _ => .U
def St.setField (st : St) (n j : Nat) (x : At) : St := match st.env.getD n U with | .v (.g t l) => { st with env := st.env.set n (.v (.g t (l.set j x))) } | _ => st
def St.settle (T : Tab) (n : Nat) (own : List Nat) : List (TypeId × Nat) → Nat → St → Option St
  | [], _, st => some st
  | (t, _) :: fs, j, st =>
    if (st.fieldOf n j).isOwn && !(own.contains j) then (st.freeze1 T t (st.fieldOf n j)).bind fun (st, y) => St.settle T n own fs (j + 1) (st.setField n j y)
    else St.settle T n own fs (j + 1) st
def St.noRow (st : St) (k : Nat) (e : TypeId) : St := (st.kill k).putRow k (some (.arr 2 e []))
def Tab.okE (T : Tab) (e : TypeId) : Bool := decide (0 < (T.row e).size) && (match T.ty e with | .no => false | _ => true)
def St.adopt1 (T : Tab) (n k : Nat) (t : TypeId) (j : Nat) (st : St) : St :=
  match T.ty t, st.fieldOf n j with
  | _, .own k0 => st.moveRow k0 (k + 1 + j)
  | .slice e, .nil => if T.okE e then (st.noRow (k + 1 + j) e).setField n j (.own (k + 1 + j)) else st
  | .slice e, .iv _ _ .N => if T.okE e then (st.noRow (k + 1 + j) e).setField n j (.own (k + 1 + j)) else st
  | _, _ => st
def St.adopt (T : Tab) (n k : Nat) (own : List Nat) : List (TypeId × Nat) → Nat → St → St
  | [], _, st => st
  | (t, _) :: fs, j, st => St.adopt T n k own fs (j + 1) (if j ∈ own then st.adopt1 T n k t j else st)
def St.blur (st : St) (k : Nat) : St := match st.row k with | some (.box xb t own _) => st.putRow k (some (.box xb t own (.a .U))) | _ => st
def St.rebox (st : St) (k : Nat) (c : V1) : Option St := match st.row k with | some (.box xb t own _) => some (st.putRow k (some (.box xb t own c))) | _ => none
def St.setBox1 (T : Tab) (st : St) (k : Nat) (t : TypeId) (x : At) : Option St :=
  if st.fits T t x then (st.freeze1 T t x).bind fun (st, y) => st.rebox k (.a y) else none
def V1.isTy (t : TypeId) : V1 → Bool | .a (.iv _ t' _) => decide (t' = t) | .g t' _ => decide (t' = t) | _ => false
def St.setBoxG (T : Tab) (st : St) (k : Nat) (t : TypeId) (fs : List (TypeId × Nat)) (own : List Nat) (v : V1) : Option St :=
  if v.isTy t then
    (St.settle T st.env.length own fs 0 { st with env := st.env ++ [.v (.g t (T.fields t v))] }).bind fun st1 =>
    match (St.adopt T st.env.length k own fs 0 st1).env.getD st.env.length U with
    | .v c => ({ St.adopt T st.env.length k own fs 0 st1 with env := (St.adopt T st.env.length k own fs 0 st1).env.take st.env.length } : St).rebox k c
    | _ => none
  else none
def St.setBox (T : Tab) (st : St) (k : Nat) (t : TypeId) (own : List Nat) (v : V1) : Option St :=
  match T.ty t with
  | .agg fs =>
    match own, v with
    | [], .a x => st.setBox1 T k t x
    | own, v => st.setBoxG T k t fs own v
  | .slice e =>
    match own, v with
    | [], .a x => st.setBox1 T k t x
    | _, .a (.own k0) => if st.fits T t (.own k0) then (st.moveRow k0 (k + 1)).rebox k (.a (.own (k + 1))) else none
    | _, .a .nil => if T.okE e then (st.noRow (k + 1) e).rebox k (.a (.own (k + 1))) else none
    | _, .a (.iv _ t' .N) => if t' = t ∧ T.okE e then (st.noRow (k + 1) e).rebox k (.a (.own (k + 1))) else none
    | _, _ => none
  | .no => none
  | _ => match v with | .a x => st.setBox1 T k t x | _ => none
def cmpI (op : BinOp) (x y : Int) : Option Bool :=
  match op with
  | .eql => some (decide (x = y)) | .neq => some (!decide (x = y)) | .lss => some (decide (x < y)) | .leq => some (decide (x ≤ y)) | .gtr => some (decide (y < x)) | .geq => some (decide (y ≤ x))
  | _ => none
def Tab.eqF (T : Tab) : List (TypeId × Nat) → Nat → IV → IV → Option Bool
  | [], _, _, _ => some true
  | (t, _) :: fs, j, v, u =>
    (match T.ty t with
      | .int _ => some (decide (asI (fld v j) = asI (fld u j)))
      | .bool => some (asB (fld v j) == asB (fld u j))
      | .str => some (asS (fld v j) == asS (fld u j))
      | _ => none).bind fun b => (T.eqF fs (j + 1) v u).bind fun c => some (b && c)
def Tab.bin (T : Tab) (op : BinOp) (t : TypeId) (x y : At) : Option At :=
  match x, y with
  | .int k a, .int k' b =>
    if k = k' then
      match op with
      | .add => some (.int k (k.wrap (a + b))) | .sub => some (.int k (k.wrap (a - b))) | .mul => some (.int k (k.wrap (a * b)))
      | .quo => if b = 0 then none else some (.int k (k.wrap (a.tdiv b)))
      | .rem => if b = 0 then none else some (.int k (a.tmod b))
      | _ => (cmpI op a b).map .bool
    else none
  | .bool a, .bool b => match op, T.ty t with | .eql, .bool => some (.bool (a == b)) | .neq, .bool => some (.bool (!(a == b))) | _, _ => none
  | .str a, .str b => match op with | .eql => some (.bool (a == b)) | .neq => some (.bool (!(a == b))) | _ => none
  | .iv _ t1 v, .iv _ t2 u =>
    if t1 = t ∧ t2 = t then
      match T.ty t with
      | .agg fs => match op with | .eql => (T.eqF fs 0 v u).map .bool | .neq => (T.eqF fs 0 v u).map (.bool ∘ not) | _ => none
      | _ => none
    else none
  | _, _ => none
def Tab.un (op : UnOp) (x : At) : Option At :=
  match op, x with
  | .not, .bool b => some (.bool (!b))
  | .neg, .int k n => some (.int k (k.wrap (0 - n)))
  | _, _ => none
def get1 (st : St) (o : Operand) : Option At := match st.get o with | .v (.a x) => some x | _ => none
def getI (st : St) (o : Operand) : Option (IntKind × Int) := match st.get o with | .v (.a (.int k n)) => some (k, n) | _ => none
def St.setA (st : St) (dst : Option Tmp) (x : At) : St := st.set dst (.v (.a x))
def St.putField (T : Tab) (st : St) (k j : Nat) (y : At) : Option St :=
  match st.row k with
  | some (.box xb bt own (.a (.iv p bt' w))) =>
    match y with
    | .iv q _ u => some (st.putRow k (some (.box xb bt own (.a (.iv (mn p q) bt' (setf w j u))))))
    | .int _ n => some (st.putRow k (some (.box xb bt own (.a (.iv p bt' (setf w j (.I n)))))))
    | .bool b => some (st.putRow k (some (.box xb bt own (.a (.iv p bt' (setf w j (.B b)))))))
    | .str s => some (st.putRow k (some (.box xb bt own (.a (.iv p bt' (setf w j (.S s)))))))
    | .own _ => some (st.putRow k (some (.box xb bt own (.g bt ((T.fields bt (.a (.iv p bt' w))).set j y)))))
    | _ => none
  | some (.box xb bt own (.g bt' l)) => some (st.putRow k (some (.box xb bt own (.g bt' (l.set j y)))))
  | _ => none
def St.putElem (st : St) (k i : Nat) (q : List Nat) (q' : Nat) (u : IV) : Option St :=
  match st.row k with
  | some (.arr p e l) => if i < l.length then some (st.putRow k (some (.arr (mn p q') e (l.set i (putp (l.getD i .N) q u))))) else none
  | _ => none
def St.load (T : Tab) (st : St) (t : TypeId) : At → Option V1
  | .pv p t' v => if t = t' then some (.a (T.mk1 p t v)) else none
  | .ptr k path t' =>
    if t = t' then
      match st.row k, path with
      | some (.box _ _ _ c), [] => some c
      | some (.box _ _ _ (.g _ l)), [j] => some (.a (l.getD j .U))
      | some (.box _ _ _ (.g _ l)), j :: q => match l.getD j .U with | .iv p _ v => some (.a (T.mk1 p t (atp v q))) | _ => none
      | some (.box _ _ _ (.a (.iv p _ v))), q => some (.a (T.mk1 p t (atp v q)))
      | some (.arr p _ l), i :: q => (l[i]?).bind fun v => some (.a (T.mk1 p t (atp v q)))
      | _, _ => none
    else none
  | _ => none
def St.store (T : Tab) (st : St) (t : TypeId) (a : At) (v : V1) : Option St :=
  match a with
  | .ptr k path t' =>
    if t = t' then
      match st.row k, path with
      | some (.box xb bt own _), [] => St.setBox T (st.blur k) k bt own v
      | some (.box xb bt own c), [j] =>
        match v with
        | .a x =>
          if st.fits T t x then
          if j ∈ own then
            match x with
            | .own k0 => (st.moveRow k0 (k + 1 + j)).putField T k j (.own (k + 1 + j))
            | .nil => if T.okE (elemOf T t) then (st.noRow (k + 1 + j) (elemOf T t)).putField T k j (.own (k + 1 + j)) else none
            | .iv p t' .N => match T.ty t with | .slice e => if T.okE e then (st.noRow (k + 1 + j) e).putField T k j (.own (k + 1 + j)) else none | _ => (st.kill (k + 1 + j)).putField T k j (.iv p t' .N)
            | .iv p t' v => (st.kill (k + 1 + j)).putField T k j (.iv p t' v)
            | _ => none
          else (st.freeze1 T t x).bind fun (st, y) => st.putField T k j y
          else none
        | _ => none
      | some (.arr _ _ _), i :: q => (st.frozen T t v).bind fun (st, q', u) => st.putElem k i q q' u
      | _, _ => none
    else none
  | _ => none
def Tab.partAt (T : Tab) (t : TypeId) (j : Nat) : Option TypeId := match T.ty t with | .agg fs => (fs[j]?).map (·.1) | _ => none
def cut (l : List IV) (lo hi : Nat) : List IV := (l.take hi).drop lo
def nodup : List Nat → Bool
  | [] => true
  | k :: l => !(l.contains k) && nodup l
def Tab.okT (T : Tab) (t : TypeId) : Bool := match T.ty t with | .no => false | _ => true
def natI (n : Int) : Option Nat := if 0 ≤ n then some n.toNat else none
def St.elems (T : Tab) (st : St) (e : TypeId) : At → Option (Nat × List IV)
  | .iv p t v => match T.ty t with | .slice e' => if e = e' then some (p, asL v) else none | _ => none
  | .own k => match st.row k with | some (.arr p e' l) => if e = e' then some (p, l) else none | _ => none
  | .sub k n => match st.row k with | some (.arr p e' l) => if e = e' then if n ≤ l.length then some (p, l.take n) else none else none | _ => none
  | .nil => some (2, [])
  | _ => none
def At.asNil (t : TypeId) : At → At
  | .iv p t' .N => if t' = t then .nil else .iv p t' .N
  | x => x
def roomFor (n bytes : Nat) : Bool := decide (n * bytes ≤ 140737488355328) && decide (n ≤ 4611686018427387904)
def St.newRow (st : St) (k : Nat) (r : Row) : St := (st.kill k).putRow k (some r)
def bnd (st : St) (b : Option Operand) (d : Nat) : Option Nat := match b with | none => some d | some b => (getI st b).bind fun (_, n) => natI n
def St.placeArr (st : St) (h : Option Hint) (t : TypeId) (p : Nat) (e : TypeId) (l : List IV) : St × At :=
  match h with
  | some h => (st.newRow h.key (.arr p e l), .own h.key)
  | none => (st, .iv p t (.L l))
def hintAt (fx : Fx) (dst : Option Tmp) : Option Hint := match dst with | some d => fx.hints.lookup d | none => none
def St.newBox (T : Tab) (st : St) (h : Hint) (t : TypeId) (v : V1) : Option St := St.setBox T ((st.kill h.key).putRow h.key (some (.box false t h.own (.a .U)))) h.key t h.own (v.map (At.kill h.key))
def Tab.zeroAt (T : Tab) (t : TypeId) (z : IV) : At := match T.ty t with | .fn => .nilf | _ => T.mk1 2 t z
def Tab.zero1 (T : Tab) (t : TypeId) : At := T.zeroAt t (T.row t).zero
def Tab.build (T : Tab) (st : St) (z : IV) : List (TypeId × Nat) → Nat → List (Nat × Operand) → Option (List At)
  | [], _, _ => some []
  | (t, _) :: fs, j, parts =>
    (match parts.lookup j with
      | some o => match st.get o with | .v (.a x) => some x | .v (.g t' l) => (T.ivV t (.g t' l)).bind fun (p, w) => some (.iv p t w) | _ => none
      | none => some (T.zeroAt t (fld z j))).bind fun x => if st.fits T t x then (T.build st z fs (j + 1) parts).bind fun l => some (x :: l) else none
def Tab.lits (T : Tab) (e : TypeId) : St → List (Nat × Operand) → Nat → Option (St × Nat × List IV)
  | st, [], _ => some (st, 2, [])
  | st, (i, o) :: l, j =>
    if i = j then
      match st.get o with
      | .v x => (st.frozen T e x).bind fun (st, p, v) => (T.lits e st l (j + 1)).bind fun (st, q, vs) => some (st, mn p q, v :: vs)
      | _ => none
    else none
def R1.frozen (t : TypeId) : R1 → At
  | .at x => x
  | .own p _ l => .iv p t (.L l)
def R1.frozenL : List (TypeId × Nat) → List R1 → List At
  | (t, _) :: fs, r :: rs => r.frozen t :: R1.frozenL fs rs
  | _, _ => []
def RV.frozen (T : Tab) (t : TypeId) : RV → Option V1
  | .one r => some (.a (r.frozen t))
  | .g t' rs => if t = t' then match T.ty t with | .agg fs => (T.ivL fs (R1.frozenL fs rs)).bind fun (p, vs) => some (.a (.iv p t (.A vs))) | _ => none else none
def RV.frozenT (T : Tab) : List TypeId → List RV → Option (List V1)
  | [], [] => some []
  | t :: ts, r :: rs => (r.frozen T t).bind fun x => (RV.frozenT T ts rs).bind fun xs => some (x :: xs)
  | _, _ => none
def St.placeF (d : Nat) (h : Hint) : List (TypeId × Nat) → Nat → List R1 → St → St
  | (t, _) :: fs, j, r :: rs, st =>
    St.placeF d h fs (j + 1) rs
      (match r with
        | .own p e l => if j ∈ h.own then (st.newRow (h.key + 1 + j) (.arr p e l)).setField d j (.own (h.key + 1 + j)) else st.setField d j (.iv p t (.L l))
        | .at x => st.setField d j x)
  | _, _, _, st => st
def St.placeV (T : Tab) (st : St) (h : Option Hint) (dst : Option Tmp) (t : TypeId) (r : RV) : Option St :=
  match r, h, dst with
  | .one (.own p e l), some h, some d => some ((st.newRow h.key (.arr p e l)).set (some d) (.v (.a (.own h.key))))
  | .g t' rs, some h, some d => if t = t' ∧ d < st.env.length then some (St.placeF d h (aggOf T t) 0 rs (st.set (some d) (.v (.g t (List.replicate rs.length .U))))) else none
  | r, _, _ => (r.frozen T t).bind fun x => some (st.set dst (.v x))
def St.args (T : Tab) (ρ : List (Nat × Nat)) (st : St) : List TypeId → List Operand → Option (List At)
  | [], [] => some []
  | t :: ts, o :: os => (st.arg T ρ t (st.get o)).bind fun x => (St.args T ρ st ts os).bind fun xs => some (x :: xs)
  | _, _ => none
abbrev Mem := List (Option Row)
abbrev CallF := FuncId → List At → Mem → Option (List RV × List TypeId × Mem)
def V1.caps : V1 → List Nat
  | .a (.fn _ caps) => caps
  | _ => []
def St.capsAt (st : St) (k : Nat) : List Nat := match st.row k with | some (.box _ _ _ c) => c.caps | _ => []
def St.reach (st : St) : Nat → List Nat → List Nat → List Nat
  | 0, _, acc => acc
  | n + 1, todo, acc => match todo with
    | [] => acc
    | k :: todo => if k ∈ acc then St.reach st n todo acc else St.reach st n (todo ++ st.capsAt k) (acc ++ [k])
def St.ownAt (st : St) (k : Nat) : List Nat := match st.row k with | some (.box _ _ o _) => o | _ => []
def St.pairs (st : St) : Nat → List Nat → List (Nat × Nat)
  | _, [] => []
  | n, k :: ks => (k, n) :: (st.ownAt k).map (fun j => (k + 1 + j, n + 1 + j)) ++ St.pairs st (n + 1 + (st.ownAt k).foldl (fun a j => max a (j + 1)) 0) ks
def At.tr (ρ : List (Nat × Nat)) : At → At
  | .own k => match ρ.lookup k with | some k' => .own k' | none => .U
  | .fn f caps => match caps.mapM (fun k => ρ.lookup k) with | some caps => .fn f caps | none => .U
  | .iv p t v => if p = 0 then .U else .iv p t v
  | .int k n => .int k n | .bool b => .bool b | .str s => .str s | .nil => .nil | .nilf => .nilf
  | _ => .U
def Row.tr (ρ : List (Nat × Nat)) (x : Bool) : Row → Option Row
  | .box _ t o c => some (.box x t o (c.map (At.tr ρ)))
  | .arr p e l => if p = 0 then none else some (.arr p e l)
def St.handOver (st : St) (nk : Nat) (ρ : List (Nat × Nat)) : Mem :=
  ρ.foldl (fun m kk => setD m kk.2 ((st.row kk.1).bind (Row.tr ρ true))) (List.replicate nk none)
def St.handOk (st : St) (ρ : List (Nat × Nat)) : Bool := ρ.all fun kk => match st.row kk.1 with | some (.arr p _ _) => decide (p ≠ 0) | _ => true
def At.viewKeys : At → List Nat | .own k | .sub k _ => [k] | _ => []
def SV.viewKeys : SV → List Nat | .v (.a x) => x.viewKeys | .v (.g _ l) => l.flatMap At.viewKeys | _ => []
def swap (ρ : List (Nat × Nat)) : List (Nat × Nat) := ρ.map fun kk => (kk.2, kk.1)
def rowIn (m : Mem) (k : Nat) : Option Row := (m[k]?).join
def At.killL (ks : List Nat) : At → At
  | .own j => if ks.contains j then .U else .own j
  | .sub j n => if ks.contains j then .U else .sub j n
  | .ptr j p t => if ks.contains j then .U else .ptr j p t
  | .fn f caps => if caps.any ks.contains then .U else .fn f caps
  | x => x
def dropL (ks : List Nat) : Nat → List (Option Row) → List (Option Row)
  | _, [] => []
  | j, r :: l => (if ks.contains j then none else r.map (Row.map (At.killL ks))) :: dropL ks (j + 1) l
def St.killL (ks : List Nat) (st : St) : St := ⟨st.env.map (SV.map (At.killL ks)), dropL ks 0 st.mem⟩
def backRow (ρ : List (Nat × Nat)) (boxes : List Nat) (st : St) (k : Nat) : Option Row → Option (Option Row)
  | some (.box x t o c) =>
    match st.row k with
    | some (.box y t' _ _) => if x && boxes.contains k && decide (t' = t) then some (some (.box y t o (c.map (At.tr (swap ρ))))) else none
    | _ => none
  | some (.arr p e l) => if p = 0 || boxes.contains k then none else some (some (.arr p e l))
  | none => if boxes.contains k then none else some none
def backRows (ρ : List (Nat × Nat)) (boxes : List Nat) (st0 : St) (m : Mem) : List (Nat × Nat) → St → Option St
  | [], st => some st
  | kk :: l, st => (backRow ρ boxes st0 kk.1 (rowIn m kk.2)).bind fun r => backRows ρ boxes st0 m l (st.putRow kk.1 r)
def elders (ρ : List (Nat × Nat)) (boxes : List Nat) : List Nat := (ρ.map (·.1)).filter fun k => !(boxes.contains k)
def St.takeBack (st : St) (ρ : List (Nat × Nat)) (boxes : List Nat) (m : Mem) : Option St := if ρ = [] then some st else backRows ρ boxes st m ρ (st.killL (elders ρ boxes))
def SV.caps : SV → List Nat
  | .v (.a (.fn _ caps)) => caps
  | _ => []
def Tab.nk (T : Tab) (g : FuncId) : Nat := match T.fns.lookup g with | some gx => gx.nk | none => 0
def St.capPtr (st : St) (ρ : List (Nat × Nat)) (k : Nat) : Option At := (ρ.lookup k).bind fun k' => match st.row k with | some (.box _ t _ _) => some (At.ptr k' [] t) | _ => none
def St.isBox (st : St) (k : Nat) : Bool := match st.row k with | some (.box ..) => true | _ => false
def St.callee1 (T : Tab) (call : CallF) (st : St) (g : FuncId) (caps : List Nat) (ts : List TypeId) (os : List Operand) (keys : List Nat) (ρ : List (Nat × Nat)) : Option (List RV × List TypeId × St) :=
  if nodup (ρ.map (·.1)) && nodup (ρ.map (·.2)) && keys.all st.isBox && st.handOk ρ && os.all (fun o => (st.get o).viewKeys.all fun k => !((ρ.map (·.1)).contains k)) then
    (st.args T ρ ts os).bind fun xs =>
    (caps.mapM (st.capPtr ρ)).bind fun ps =>
    (call g (xs ++ ps) (st.handOver (T.nk g) ρ)).bind fun (rs, ts, m) =>
    (st.takeBack ρ keys m).bind fun st => some (rs, ts, st)
  else none
def St.callee (T : Tab) (call : CallF) (st : St) (g : FuncId) (caps : List Nat) (ts : List TypeId) (os : List Operand) : Option (List RV × List TypeId × St) :=
  st.callee1 T call g caps ts os (st.reach 60 (caps ++ os.flatMap (fun o => (st.get o).caps)) []) (st.pairs (T.nk g) (st.reach 60 (caps ++ os.flatMap (fun o => (st.get o).caps)) []))
def Tab.step (T : Tab) (fx : Fx) (call : CallF) (o : Oper) (st : St) : Option St :=
  match o.op with
  | .move x => some (st.set o.dst (st.get x))
  | .assign x =>
    match hintAt fx o.dst with
    | none => some (st.set o.dst (st.get x))
    | some h =>
      match st.get x with
      | .v (.a (.own k)) => some ((st.moveRow k h.key).setA o.dst (.own h.key))
      | .v (.a .nil) => if T.okE (elemOf T o.type) then some ((st.noRow h.key (elemOf T o.type)).setA o.dst (.own h.key)) else none
      | .v (.a (.sub k n)) =>
        match st.row k with
        | some (.arr p e l) => if n ≤ l.length then some ((((st.kill k).newRow h.key (.arr p e (l.take n)))).setA o.dst (.own h.key)) else none
        | _ => none
      | v => some (st.set o.dst v)
  | .pick c a b => match st.get c with | .v (.a (.bool t)) => if t then some (st.set o.dst (st.get a)) else some (st.set o.dst (st.get b)) | _ => none
  | .alloc t => if T.okT t then (hintAt fx o.dst).bind fun h => (st.newBox T h t (.a (T.zero1 t))).bind fun st => some (st.setA o.dst (.ptr h.key [] t)) else none
  | .box t x => (hintAt fx o.dst).bind fun h => match st.get x with | .v v => (st.newBox T h t v).bind fun st => some (st.setA o.dst (.ptr h.key [] t)) | _ => none
  | .build t parts =>
    match T.ty t with
    | .agg fs =>
      if parts.toList.all (fun p => p.1 < fs.length) && nodup (parts.toList.map (·.1)) then
        (T.build st (T.row t).zero fs 0 parts.toList).bind fun l =>
        if l.any At.isOwn then some (st.set o.dst (.v (.g t l))) else (T.ivL fs l).bind fun (p, vs) => some (st.setA o.dst (.iv p t (.A vs)))
      else none
    | _ => none
  | .buildSlice t len parts =>
    match T.ty t with
    | .slice e =>
      (T.lits e st parts.toList 0).bind fun (st, p, vs) =>
      if vs.length = len ∧ len * (T.row e).size ≤ 16777216 ∧ T.okE e then let (st, x) := st.placeArr (hintAt fx o.dst) t p e vs; some (st.setA o.dst x) else none
    | _ => none
  | .load t x => (get1 st x).bind fun a => (st.load T t a).bind fun v => some (st.set o.dst (.v v))
  | .store t a x => (get1 st a).bind fun a => match st.get x with | .v v => (st.store T t a v).bind fun st => some (st.set o.dst U) | _ => none
  | .binOp op t x y _ => (get1 st x).bind fun a => (get1 st y).bind fun b => (T.bin op t a b).bind fun r => some (st.setA o.dst r)
  | .unOp op _ x => (get1 st x).bind fun a => (Tab.un op a).bind fun r => some (st.setA o.dst r)
  | .convert s d x => match st.get x, T.ty d, T.ty s with | .v (.a (.int _ n)), .int k, .int _ => some (st.setA o.dst (.int k (k.wrap n))) | _, _, _ => none
  | .fieldAddr s x j =>
    (T.partAt s j).bind fun tj => (get1 st x).bind fun a =>
    match a with
    | .pv p t v => if t = s then some (st.setA o.dst (.pv p tj (fld v j))) else none
    | .ptr k path t => if t = s then some (st.setA o.dst (.ptr k (path ++ [j]) tj)) else none
    | _ => none
  | .field s x j =>
    (T.partAt s j).bind fun tj =>
    match st.get x with
    | .v (.a (.iv p t v)) => if t = s then some (st.setA o.dst (T.mk1 p tj (fld v j))) else none
    | .v (.g t l) => if t = s then some (st.setA o.dst (l.getD j .U)) else none
    | _ => none
  | .indexAddr t x i =>
    match T.ty t with
    | .slice e =>
      (get1 st x).bind fun a => (getI st i).bind fun (_, n) => (natI n).bind fun m =>
      match a with
      | .iv p t' v => if t' = t then ((asL v)[m]?).bind fun u => some (st.setA o.dst (.pv p e u)) else none
      | .own k => match st.row k with | some (.arr _ e' l) => if e' = e ∧ m < l.length then some (st.setA o.dst (.ptr k [m] e)) else none | _ => none
      | .sub k len => match st.row k with | some (.arr _ e' l) => if e' = e ∧ m < len ∧ len ≤ l.length then some (st.setA o.dst (.ptr k [m] e)) else none | _ => none
      | _ => none
    | _ => none
  | .index t x i =>
    match T.ty t, st.get x, getI st i with
    | .str, .v (.a (.str s)), some (_, n) => if 0 ≤ n then (s[n.toNat]?).bind fun b => some (st.setA o.dst (.int .u8 b.toNat)) else none
    | _, _, _ => none
  | .extract x j => match st.get x with | .tup l => (l[j]?).bind fun v => some (st.set o.dst (.v v)) | _ => none
  | .makeFunc (.func f) first caps =>
    if first.size = 0 then (caps.toList.mapM (fun o => match st.get o with | .v (.a (.ptr k [] _)) => some k | _ => none)).bind fun ks => some (st.setA o.dst (.fn f ks)) else none
  | .makeSlice t n c =>
    match T.ty t, getI st n, getI st c with
    | .slice e, some (_, n), some (_, c) =>
      (natI n).bind fun m => (natI c).bind fun mc =>
      if (m = mc ∨ m = 0) ∧ roomFor mc (T.row e).bytes ∧ T.okE e then let (st, x) := st.placeArr (hintAt fx o.dst) t 2 e (List.replicate m (T.row e).zero); some (st.setA o.dst x) else none
    | _, _, _ => none
  | .slice t x lo hi none =>
    match st.get x with
    | .v (.a (.iv p t' v)) =>
      match T.ty t with
      | .slice e => if t' = t ∧ T.okT e then (bnd st hi (asL v).length).bind fun h => (bnd st lo 0).bind fun l => if l ≤ h ∧ h ≤ (asL v).length then some (st.setA o.dst (.iv p t (.L (cut (asL v) l h)))) else none else none
      | _ => none
    | .v (.a (.own k)) =>
      match st.row k, T.ty t with
      | some (.arr _ e l), .slice e' => if e = e' then (bnd st hi l.length).bind fun h => (bnd st lo 0).bind fun lo => if lo = 0 ∧ h ≤ l.length then some (st.setA o.dst (.sub k h)) else none else none
      | _, _ => none
    | .v (.a (.str s)) => match T.ty t with | .str => (bnd st hi s.size).bind fun h => (bnd st lo 0).bind fun l => if l ≤ h ∧ h ≤ s.size then some (st.setA o.dst (.str (s.extract l h))) else none | _ => none
    | _ => none
  | .call c =>
    match c.callee with
    | .builtin .len =>
      match c.args.toList, c.argTypes.toList with
      | [x], [t] =>
        match T.ty t, st.get x with
        | .slice _, .v (.a (.iv _ t' v)) => if t' = t then some (st.setA o.dst (.int .i64 (asL v).length)) else none
        | .slice _, .v (.a (.own k)) => match st.row k with | some (.arr _ _ l) => some (st.setA o.dst (.int .i64 l.length)) | _ => none
        | .slice _, .v (.a (.sub _ n)) => some (st.setA o.dst (.int .i64 n))
        | .slice _, .v (.a .nil) => some (st.setA o.dst (.int .i64 0))
        | .str, .v (.a (.str s)) => some (st.setA o.dst (.int .i64 s.size))
        | _, _ => none
      | _, _ => none
    | .builtin .append =>
      match c.args.toList, c.argTypes.toList with
      | [s, x], [t, t'] =>
        match T.ty t with
        | .slice e =>
          if t = t' then
          (get1 st s).bind fun a => (get1 st x).bind fun b => (st.elems T e b).bind fun (q, news) =>
          match a.asNil t with
          | .nil => if roomFor news.length (T.row e).bytes ∧ T.okE e then let (st, y) := st.placeArr (hintAt fx o.dst) t q e news; some (st.setA o.dst y) else none
          | .own k =>
            match st.row k with
            | some (.arr p e' l) =>
              if e' = e ∧ b.isOwn = false ∧ roomFor (l.length + news.length) (T.row e).bytes ∧ T.okE e then
                let (st, y) := (st.kill k).placeArr (hintAt fx o.dst) t (mn p q) e (l ++ news); some (st.setA o.dst y) else none
            | _ => none
          | _ => none
          else none
        | _ => none
      | _, _ => none
    | .builtin .copy =>
      match c.args.toList, c.argTypes.toList with
      | [d, s], [t, t'] =>
        match T.ty t with
        | .slice e =>
          if t = t' then
          (get1 st d).bind fun a => (get1 st s).bind fun b =>
          match a, b with
          | .own k, .iv q t2 v =>
            match st.row k with
            | some (.arr p e' l) => if e' = e ∧ t2 = t ∧ (asL v).length = l.length ∧ T.okE e then some ((st.putRow k (some (.arr (mn p q) e (asL v)))).setA o.dst (.int .i64 l.length)) else none
            | _ => none
          | _, _ => none
          else none
        | _ => none
      | _, _ => none
    | .value f =>
      match st.get f with
      | .v (.a (.fn g caps)) =>
        (st.callee T call g caps c.argTypes.toList c.args.toList).bind fun (rs, ts, st) =>
        match rs, ts with
        | [], [] => some (st.set o.dst (.tup []))
        | [r], [t] => st.placeV T (hintAt fx o.dst) o.dst t r
        | rs, ts => (RV.frozenT T ts rs).bind fun vs => some (st.set o.dst (.tup vs))
      | _ => none
    | _ => none
  | _ => none
def At.keys : At → List Nat
  | .own k | .sub k _ | .ptr k _ _ => [k]
  | .fn _ caps => caps
  | _ => []
def V1.keys : V1 → List Nat | .a x => x.keys | .g _ l => l.flatMap At.keys
def SV.keys : SV → List Nat | .v x => x.keys | .tup l => l.flatMap V1.keys
def St.keysOf (st : St) (o : Oper) : List Nat := o.op.operands.toList.flatMap fun x => (st.get x).keys
def At.plain : At → Bool | .int _ _ | .bool _ | .str _ | .iv _ _ _ => true | _ => false
def Tab.litsQ (T : Tab) (e : TypeId) (st : St) : List (Nat × Operand) → Nat → Option (Nat × List IV)
  | [], _ => some (2, [])
  | (i, o) :: l, j =>
    if i = j then
      match st.get o with
      | .v (.a x) => if x.plain && st.fits T e x then (T.iv1 e x).bind fun (p, v) => (T.litsQ e st l (j + 1)).bind fun (q, vs) => some (mn p q, v :: vs) else none
      | _ => none
    else none
def Tab.val (T : Tab) (fx : Fx) (call : CallF) (o : Oper) (st : St) : Option SV :=
  if (hintAt fx o.dst).isSome then none else
  match o.op with
  | .move x => some (st.get x)
  | .assign x => some (st.get x)
  | .pick c a b => match st.get c with | .v (.a (.bool t)) => some (if t then st.get a else st.get b) | _ => none
  | .build t parts =>
    match T.ty t with
    | .agg fs =>
      if parts.toList.all (fun p => p.1 < fs.length) && nodup (parts.toList.map (·.1)) then
        (T.build st (T.row t).zero fs 0 parts.toList).bind fun l =>
        if l.any At.isOwn then some (.v (.g t l)) else (T.ivL fs l).bind fun (p, vs) => some (.v (.a (.iv p t (.A vs))))
      else none
    | _ => none
  | .buildSlice t len parts =>
    match T.ty t with
    | .slice e =>
      (T.litsQ e st parts.toList 0).bind fun (p, vs) =>
      if vs.length = len ∧ len * (T.row e).size ≤ 16777216 ∧ T.okE e then some (.v (.a (.iv p t (.L vs)))) else none
    | _ => none
  | .load t x => (get1 st x).bind fun a => (st.load T t a).bind fun v => some (.v v)
  | .binOp op t x y _ => (get1 st x).bind fun a => (get1 st y).bind fun b => (T.bin op t a b).bind fun r => some (.v (.a r))
  | .unOp op _ x => (get1 st x).bind fun a => (Tab.un op a).bind fun r => some (.v (.a r))
  | .convert s d x => match st.get x, T.ty d, T.ty s with | .v (.a (.int _ n)), .int k, .int _ => some (.v (.a (.int k (k.wrap n)))) | _, _, _ => none
  | .fieldAddr s x j =>
    (T.partAt s j).bind fun tj => (get1 st x).bind fun a =>
    match a with
    | .pv p t v => if t = s then some (.v (.a (.pv p tj (fld v j)))) else none
    | .ptr k path t => if t = s then some (.v (.a (.ptr k (path ++ [j]) tj))) else none
    | _ => none
  | .field s x j =>
    (T.partAt s j).bind fun tj =>
    match st.get x with
    | .v (.a (.iv p t v)) => if t = s then some (.v (.a (T.mk1 p tj (fld v j)))) else none
    | .v (.g t l) => if t = s then some (.v (.a (l.getD j .U))) else none
    | _ => none
  | .indexAddr t x i =>
    match T.ty t with
    | .slice e =>
      (get1 st x).bind fun a => (getI st i).bind fun (_, n) => (natI n).bind fun m =>
      match a with
      | .iv p t' v => if t' = t then ((asL v)[m]?).bind fun u => some (.v (.a (.pv p e u))) else none
      | .own k => match st.row k with | some (.arr _ e' l) => if e' = e ∧ m < l.length then some (.v (.a (.ptr k [m] e))) else none | _ => none
      | _ => none
    | _ => none
  | .extract x j => match st.get x with | .tup l => (l[j]?).bind fun v => some (.v v) | _ => none
  | .slice t x lo hi none =>
    match st.get x with
    | .v (.a (.iv p t' v)) =>
      match T.ty t with
      | .slice e => if t' = t ∧ T.okT e then (bnd st hi (asL v).length).bind fun h => (bnd st lo 0).bind fun l => if l ≤ h ∧ h ≤ (asL v).length then some (.v (.a (.iv p t (.L (cut (asL v) l h))))) else none else none
      | _ => none
    | .v (.a (.own k)) =>
      match st.row k, T.ty t with
      | some (.arr _ e l), .slice e' => if e = e' then (bnd st hi l.length).bind fun h => (bnd st lo 0).bind fun lo => if lo = 0 ∧ h ≤ l.length then some (.v (.a (.sub k h))) else none else none
      | _, _ => none
    | _ => none
  | .call c =>
    match c.callee with
    | .builtin .len =>
      match c.args.toList, c.argTypes.toList with
      | [x], [t] =>
        match T.ty t, st.get x with
        | .slice _, .v (.a (.iv _ t' v)) => if t' = t then some (.v (.a (.int .i64 (asL v).length))) else none
        | .slice _, .v (.a (.own k)) => match st.row k with | some (.arr _ _ l) => some (.v (.a (.int .i64 l.length))) | _ => none
        | .str, .v (.a (.str s)) => some (.v (.a (.int .i64 s.size)))
        | _, _ => none
      | _, _ => none
    | .builtin .append =>
      match c.args.toList, c.argTypes.toList with
      | [s, x], [t, t'] =>
        match T.ty t with
        | .slice e =>
          if t = t' then
          (get1 st s).bind fun a => (get1 st x).bind fun b =>
          match a, b with
          | .iv _ t1 .N, .iv q t2 v => if t1 = t ∧ t2 = t ∧ roomFor (asL v).length (T.row e).bytes ∧ T.okE e then some (.v (.a (.iv q t (.L (asL v))))) else none
          | _, _ => none
          else none
        | _ => none
      | _, _ => none
    | .value f =>
      match st.get f with
      | .v (.a (.fn g [])) =>
        if c.args.toList.all (fun o => (st.get o).caps = []) then
          (st.args T [] c.argTypes.toList c.args.toList).bind fun xs => (call g xs (List.replicate (T.nk g) none)).bind fun (rs, ts, _) =>
          match rs, ts with
          | [], [] => some (.tup [])
          | [r], [t] => (r.frozen T t).bind fun x => some (.v x)
          | rs, ts => (RV.frozenT T ts rs).bind fun vs => some (.tup vs)
        else none
      | _ => none
    | _ => none
  | _ => none
def Tab.eff (T : Tab) (fx : Fx) (call : CallF) (W : List Nat) (o : Oper) (st : St) : Option (SV × Option (Nat × Row)) :=
  match o.op with
  | .alloc t => (hintAt fx o.dst).bind fun h => if T.okT t && h.own.isEmpty && (st.row h.key).isNone && st.fits T t (T.zero1 t) then some (.v (.a (.ptr h.key [] t)), some (h.key, .box false t [] (.a (T.zero1 t)))) else none
  | .store t (.tmp a) x =>
    match hintAt fx (some a), st.get (.tmp a), st.get x with
    | some h, .v (.a (.ptr k [] t')), .v (.a y) =>
      match st.row h.key with
      | some (.box xb bt [] _) => if k = h.key ∧ t' = t ∧ bt = t ∧ T.okT t ∧ y.plain ∧ st.fits T t y then some (U, some (h.key, .box xb bt [] (.a y))) else none
      | _ => none
    | _, _, _ => none
  | _ => if (st.keysOf o).any (W.contains ·) then none else (T.val fx call o st).map fun v => (v, none)
def updOf (fx : Fx) (o : Oper) : List Nat :=
  match o.op with
  | .alloc _ => match hintAt fx o.dst with | some h => [h.key] | none => []
  | .store _ (.tmp a) _ => match hintAt fx (some a) with | some h => [h.key] | none => []
  | _ => []
def St.apply (st : St) (dst : Option Tmp) (e : SV × Option (Nat × Row)) : St := (match e.2 with | some (k, r) => st.putRow k (some r) | none => st).set dst e.1
def yieldOf (ops : Array Oper) (st : St) (j : Nat) : Option (Option Bool) :=
  match (ops[j]?).bind (·.dst) with
  | some d => match st.env.getD d U with | .v (.a (.bool b)) => some (some b) | .tup [] => some none | _ => none
  | none => none
def Tab.one (T : Tab) (fx : Fx) (call : CallF) (ops : Array Oper) (o : Oper) (st : St) : Option St :=
  match o.guard with
  | none => T.step fx call o st
  | some (j, b) => (yieldOf ops st j).bind fun y => if y = some b then T.step fx call o st else some (st.set o.dst (.tup []))
def Tab.ops (T : Tab) (fx : Fx) (call : CallF) (ops : Array Oper) : List Oper → St → Option St
  | [], st => some st
  | o :: l, st => (T.one fx call ops o st).bind (T.ops fx call ops l)
def loudB (b : Array Nat) (n i : Nat) : Bool := (List.range n).all fun j => j == i || (b.getD i 0).testBit j || (b.getD j 0).testBit i
def disj (l m : List Nat) : Bool := l.all fun k => !(m.contains k)
def drawOk (fx : Fx) (ops : Array Oper) : Bool :=
  Region.noSelect ops &&
  (List.range ops.size).all fun i =>
    match ops[i]? with
    | some oi => oi.after.all (fun e => !Region.binds .any e || decide (e.on < i)) && (List.range i).all fun p => ((Region.before ops).getD i 0).testBit p || (match ops[p]? with | some op => Oper.apart ops op oi && disj (updOf fx op) (updOf fx oi) && !(loudB (Region.before ops) ops.size p) && !(loudB (Region.before ops) ops.size i) | none => false)
    | none => false
def drawW (fx : Fx) (ops : Array Oper) : List Nat := ops.toList.flatMap (updOf fx)
def Tab.dop (T : Tab) (fx : Fx) (call : CallF) (ops : Array Oper) (W : List Nat) (loud : Bool) (o : Oper) (st : St) : Option St :=
  if loud then T.one fx call ops o st else
  match o.guard with
  | none => (T.eff fx call W o st).map (st.apply o.dst)
  | some (j, b) => (yieldOf ops st j).bind fun y => if y = some b then (T.eff fx call W o st).map (st.apply o.dst) else some (st.set o.dst (.tup []))
def Tab.dops (T : Tab) (fx : Fx) (call : CallF) (ops : Array Oper) (W : List Nat) : List (Oper × Bool) → St → Option St
  | [], st => some st
  | (o, b) :: l, st => (T.dop fx call ops W b o st).bind (T.dops fx call ops W l)
def drawPlan (ops : Array Oper) : List (Oper × Bool) := ops.toList.zipIdx.map fun x => (x.1, loudB (Region.before ops) ops.size x.2)
def Tab.region (T : Tab) (fx : Fx) (call : CallF) (draw : Bool) (ops : Array Oper) (st : St) : Option St :=
  if draw then if drawOk fx ops then T.dops fx call ops (drawW fx ops) (drawPlan ops) st else none else T.ops fx call ops ops.toList st
inductive Ex where | normal | exit (id : Nat) | ret
def iter (body : St → Option (Ex × St)) : Nat → St → Option (Ex × St)
  | 0, _ => none
  | k + 1, st => (body st).bind fun (e, st) => match e with | .normal => iter body k st | e => some (e, st)
def St.clear (st : St) : List Nat → St
  | [] => st
  | d :: l => St.clear { st with env := st.env.set d U } l
def St.fresh (st : St) (c : List Nat × List Nat) : St := (st.clear c.1).killL c.2
def Tab.code (T : Tab) (fx : Fx) (call : CallF) (k : Nat) : Nat → Code → St → Option (Ex × St)
  | _, .skip, st => some (.normal, st)
  | _, .region _ ops draw, st => (T.region fx call draw ops st).bind fun st => some (.normal, st)
  | cur, .seq a b, st => (T.code fx call k cur a st).bind fun (e, st) => match e with | .normal => T.code fx call k cur b st | e => some (e, st)
  | cur, .cond c a b, st => match st.get c with | .v (.a (.bool t)) => if t then T.code fx call k cur a st else T.code fx call k cur b st | _ => none
  | _, .block id c, st => (T.code fx call k id c st).bind fun (e, st) => some (match e with | .exit i => if i = id then .normal else .exit i | e => e, st)
  | cur, .loop c, st => iter (fun st => T.code fx call k cur c (st.fresh ((fx.clr.lookup cur).getD ([], [])))) k st
  | _, .exit id, st => some (.exit id, st)
  | _, .ret, st => some (.ret, st)
  | _, _, _ => none
def At.lent : At → Bool | .iv p _ _ => p == 0 | _ => false
def Tab.out1 (T : Tab) (st : St) (t : TypeId) : At → Option (St × R1)
  | .own k => match T.ty t, st.row k with | .slice e, some (.arr p e' l) => if e = e' ∧ p ≠ 0 then some (st.kill k, .own p e l) else none | _, _ => none
  | .sub k n => match T.ty t, st.row k with | .slice e, some (.arr p e' l) => if e = e' ∧ p ≠ 0 ∧ n ≤ l.length then some (st.kill k, .own p e (l.take n)) else none | _, _ => none
  | .nil => match T.ty t with | .slice e => if T.okE e then some (st, .own 2 e []) else none | _ => none
  | x => if x.plain && !x.lent && (T.iv1 t x).isSome then some (st, .at x) else none
def Tab.outL (T : Tab) : St → List (TypeId × Nat) → List At → Option (St × List R1)
  | st, [], [] => some (st, [])
  | st, (t, _) :: fs, x :: l => (T.out1 st t x).bind fun (st, y) => (T.outL st fs l).bind fun (st, ys) => some (st, y :: ys)
  | _, _, _ => none
def Tab.outV (T : Tab) (st : St) (t : TypeId) : V1 → Option (St × RV)
  | .a x => (T.out1 st t x).bind fun (st, r) => some (st, .one r)
  | .g t' l => if t = t' then (T.outL st (aggOf T t) l).bind fun (st, rs) => some (st, .g t rs) else none
def Tab.outs (T : Tab) : St → List (ResultVar × TypeId) → Option (List RV × St)
  | st, [] => some ([], st)
  | st, (.tmp d, t) :: l => match st.env.getD d U with | .v v => (T.outV st t v).bind fun (st, r) => (T.outs st l).bind fun (rs, st) => some (r :: rs, st) | _ => none
  | st, (.cell d t', t) :: l => match st.env.getD d U with | .v (.a a) => if t = t' then (st.load T t a).bind fun v => (T.outV st t v).bind fun (st, r) => (T.outs st l).bind fun (rs, st) => some (r :: rs, st) else none | _ => none
def Tab.run (T : Tab) (ext : CallF) : Nat → CallF
  | 0, _, _, _ => none
  | k + 1, f, args, mem =>
    match T.fns.lookup f with
    | some fx =>
      (T.code fx (T.run ext k) k 0 fx.code ⟨args.map (fun x => .v (.a x)) ++ List.replicate (fx.ntmps - args.length) U, mem⟩).bind fun (e, st) =>
      match e with
      | .exit _ => none
      | _ => (T.outs st fx.res).bind fun (rs, st) => some (rs, fx.res.map (·.2), st.mem)
    | none => ext f args mem
end Go.Ev
end
section
namespace Go.Proofs.Ytficdonjodadlaa
open Go.Ev Go.Proofs
def tys : List TyRow := [
  ⟨.no, 1, 0, false, .N⟩,
  ⟨.fn, 1, 8, false, .N⟩,
  ⟨.int .i64, 1, 8, true, .I 0⟩,
  ⟨.int .i64, 1, 8, true, .I 0⟩,
  ⟨.bool, 1, 1, true, .B false⟩,
  ⟨.int .u8, 1, 1, true, .I 0⟩,
  ⟨.int .u8, 1, 1, true, .I 0⟩,
  ⟨.agg [(2, 0), (3, 1), (4, 2), (6, 3)], 4, 24, true, .A [.I 0, .I 0, .B false, .I 0]⟩,
  ⟨.agg [(2, 0), (3, 1), (4, 2), (6, 3)], 4, 24, true, .A [.I 0, .I 0, .B false, .I 0]⟩,
  ⟨.str, 1, 16, true, .S .empty⟩,
  ⟨.str, 1, 16, true, .S .empty⟩,
  ⟨.str, 1, 16, true, .S .empty⟩,
  ⟨.int .u64, 1, 8, true, .I 0⟩,
  ⟨.no, 1, 0, false, .N⟩,
  ⟨.no, 1, 0, false, .N⟩,
  ⟨.ptr 103, 1, 8, false, .N⟩,
  ⟨.ptr 106, 1, 8, false, .N⟩,
  ⟨.ptr 116, 1, 8, false, .N⟩,
  ⟨.no, 1, 0, false, .N⟩,
  ⟨.no, 1, 0, false, .N⟩,
  ⟨.no, 1, 16, false, .N⟩,
  ⟨.int .i32, 1, 4, true, .I 0⟩,
  ⟨.slice 59, 1, 24, false, .N⟩,
  ⟨.slice 62, 1, 24, false, .N⟩,
  ⟨.agg [(9, 0), (22, 1), (23, 2)], 3, 64, false, .A [.S .empty, .N, .N]⟩,
  ⟨.agg [(9, 0), (22, 1), (23, 2)], 3, 64, false, .A [.S .empty, .N, .N]⟩,
  ⟨.slice 54, 1, 24, false, .N⟩,
  ⟨.slice 56, 1, 24, false, .N⟩,
  ⟨.agg [(26, 0), (27, 1)], 2, 48, false, .A [.N, .N]⟩,
  ⟨.agg [(26, 0), (27, 1)], 2, 48, false, .A [.N, .N]⟩,
  ⟨.no, 1, 0, false, .N⟩,
  ⟨.fn, 1, 8, false, .N⟩,
  ⟨.fn, 1, 8, false, .N⟩,
  ⟨.fn, 1, 8, false, .N⟩,
  ⟨.int .i64, 1, 8, true, .I 0⟩,
  ⟨.no, 1, 0, false, .N⟩,
  ⟨.fn, 1, 8, false, .N⟩,
  ⟨.agg [(34, 0), (3, 1)], 2, 16, true, .A [.I 0, .I 0]⟩,
  ⟨.agg [(34, 0), (3, 1)], 2, 16, true, .A [.I 0, .I 0]⟩,
  ⟨.fn, 1, 8, false, .N⟩,
  ⟨.fn, 1, 8, false, .N⟩,
  ⟨.fn, 1, 8, false, .N⟩,
  ⟨.fn, 1, 8, false, .N⟩,
  ⟨.fn, 1, 8, false, .N⟩,
  ⟨.slice 46, 1, 24, false, .N⟩,
  ⟨.fn, 1, 8, false, .N⟩,
  ⟨.slice 3, 1, 24, false, .N⟩,
  ⟨.fn, 1, 8, false, .N⟩,
  ⟨.fn, 1, 8, false, .N⟩,
  ⟨.fn, 1, 8, false, .N⟩,
  ⟨.fn, 1, 8, false, .N⟩,
  ⟨.slice 4, 1, 24, false, .N⟩,
  ⟨.fn, 1, 8, false, .N⟩,
  ⟨.agg [(3, 0), (3, 1)], 2, 16, true, .A [.I 0, .I 0]⟩,
  ⟨.agg [(3, 0), (3, 1)], 2, 16, true, .A [.I 0, .I 0]⟩,
  ⟨.agg [(3, 0), (46, 1), (46, 2), (4, 3)], 4, 64, false, .A [.I 0, .N, .N, .B false]⟩,
  ⟨.agg [(3, 0), (46, 1), (46, 2), (4, 3)], 4, 64, false, .A [.I 0, .N, .N, .B false]⟩,
  ⟨.fn, 1, 8, false, .N⟩,
  ⟨.agg [(9, 0), (3, 1), (3, 2)], 3, 32, true, .A [.S .empty, .I 0, .I 0]⟩,
  ⟨.agg [(9, 0), (3, 1), (3, 2)], 3, 32, true, .A [.S .empty, .I 0, .I 0]⟩,
  ⟨.slice 64, 1, 24, false, .N⟩,
  ⟨.agg [(9, 0), (60, 1), (60, 2), (60, 3), (3, 4)], 5, 96, false, .A [.S .empty, .N, .N, .N, .I 0]⟩,
  ⟨.agg [(9, 0), (60, 1), (60, 2), (60, 3), (3, 4)], 5, 96, false, .A [.S .empty, .N, .N, .N, .I 0]⟩,
  ⟨.agg [(3, 0), (3, 1)], 2, 16, true, .A [.I 0, .I 0]⟩,
  ⟨.agg [(3, 0), (3, 1)], 2, 16, true, .A [.I 0, .I 0]⟩,
  ⟨.fn, 1, 8, false, .N⟩,
  ⟨.fn, 1, 8, false, .N⟩,
  ⟨.fn, 1, 8, false, .N⟩,
  ⟨.fn, 1, 8, false, .N⟩,
  ⟨.fn, 1, 8, false, .N⟩,
  ⟨.fn, 1, 8, false, .N⟩,
  ⟨.fn, 1, 8, false, .N⟩,
  ⟨.fn, 1, 8, false, .N⟩,
  ⟨.fn, 1, 8, false, .N⟩,
  ⟨.fn, 1, 8, false, .N⟩,
  ⟨.fn, 1, 8, false, .N⟩,
  ⟨.fn, 1, 8, false, .N⟩,
  ⟨.fn, 1, 8, false, .N⟩,
  ⟨.fn, 1, 8, false, .N⟩,
  ⟨.fn, 1, 8, false, .N⟩,
  ⟨.fn, 1, 8, false, .N⟩,
  ⟨.fn, 1, 8, false, .N⟩,
  ⟨.slice 9, 1, 24, false, .N⟩,
  ⟨.fn, 1, 8, false, .N⟩,
  ⟨.fn, 1, 8, false, .N⟩,
  ⟨.fn, 1, 8, false, .N⟩,
  ⟨.slice 60, 1, 24, false, .N⟩,
  ⟨.fn, 1, 8, false, .N⟩,
  ⟨.fn, 1, 8, false, .N⟩,
  ⟨.fn, 1, 8, false, .N⟩,
  ⟨.fn, 1, 8, false, .N⟩,
  ⟨.fn, 1, 8, false, .N⟩,
  ⟨.fn, 1, 8, false, .N⟩,
  ⟨.fn, 1, 8, false, .N⟩,
  ⟨.fn, 1, 8, false, .N⟩,
  ⟨.fn, 1, 8, false, .N⟩,
  ⟨.fn, 1, 8, false, .N⟩,
  ⟨.fn, 1, 8, false, .N⟩,
  ⟨.fn, 1, 8, false, .N⟩,
  ⟨.fn, 1, 8, false, .N⟩,
  ⟨.fn, 1, 8, false, .N⟩,
  ⟨.fn, 1, 8, false, .N⟩,
  ⟨.no, 1, 0, false, .N⟩,
  ⟨.no, 1, 0, false, .N⟩,
  ⟨.no, 0, 0, false, .N⟩,
  ⟨.no, 1, 0, false, .N⟩,
  ⟨.no, 1, 0, false, .N⟩,
  ⟨.fn, 1, 8, false, .N⟩,
  ⟨.int .u32, 1, 4, true, .I 0⟩,
  ⟨.int .u8, 1, 1, true, .I 0⟩,
  ⟨.int .u8, 1, 1, true, .I 0⟩,
  ⟨.fn, 1, 8, false, .N⟩,
  ⟨.ptr 5, 1, 8, false, .N⟩,
  ⟨.int .i32, 1, 4, true, .I 0⟩,
  ⟨.int .i32, 1, 4, true, .I 0⟩,
  ⟨.no, 1, 0, false, .N⟩,
  ⟨.no, 1, 0, false, .N⟩,
  ⟨.no, 1, 8, false, .N⟩]
noncomputable def fx4 : Fx := { code := Try.f4.body.getD .skip, ntmps := 40, params := [25, 29], res := [(.tmp 4, 4)], hints := [(2, ⟨0, []⟩), (3, ⟨1, []⟩), (5, ⟨2, []⟩)], clr := [], nk := 3 }
noncomputable def fx10 : Fx := { code := Try.f10.body.getD .skip, ntmps := 76, params := [25], res := [(.cell 2 25, 25), (.tmp 3, 4)], hints := [(1, ⟨0, []⟩), (2, ⟨1, []⟩), (6, ⟨2, []⟩)], clr := [(0, [24, 25, 26, 27, 28, 29, 30, 31, 32, 33, 34, 35, 36, 37, 38, 39], []), (2, [6, 40, 41, 42, 43, 44, 45, 46, 47, 48, 49, 50, 51, 52, 53, 54, 55, 56, 57, 58, 59, 60, 61, 62, 63, 64, 65, 66, 67, 68, 69, 70, 71, 72, 73, 74], [2])], nk := 3 }
noncomputable def fx11 : Fx := { code := Try.f11.body.getD .skip, ntmps := 39, params := [29], res := [(.tmp 2, 4)], hints := [(1, ⟨0, []⟩)], clr := [(0, [14, 15, 16, 17, 18, 19, 20, 21, 22, 23, 24, 25, 26, 27, 28, 29, 30, 31, 32, 33, 34, 35, 36, 37, 38], [])], nk := 1 }
noncomputable def fx12 : Fx := { code := Try.f12.body.getD .skip, ntmps := 51, params := [], res := [(.tmp 0, 4)], hints := [(2, ⟨0, []⟩), (3, ⟨1, []⟩)], clr := [], nk := 2 }
noncomputable def fx13 : Fx := { code := Try.f13.body.getD .skip, ntmps := 64, params := [25], res := [(.cell 2 29, 29), (.tmp 3, 34)], hints := [(1, ⟨0, []⟩), (2, ⟨1, []⟩), (4, ⟨2, []⟩), (6, ⟨3, []⟩), (7, ⟨4, [0]⟩), (9, ⟨7, []⟩), (60, ⟨8, []⟩)], clr := [(0, [6, 31, 32, 33, 34, 35, 36, 37, 38, 39], [3]), (2, [8, 9, 44, 45, 46, 47, 48, 49, 50, 51, 52, 53, 54, 55, 56, 57, 58, 59, 60, 61, 62], [7, 8])], nk := 9 }
noncomputable def fx14 : Fx := { code := Try.f14.body.getD .skip, ntmps := 71, params := [25], res := [(.cell 2 29, 29), (.tmp 3, 34)], hints := [(1, ⟨0, []⟩), (2, ⟨1, []⟩), (4, ⟨2, []⟩), (6, ⟨3, [0]⟩), (68, ⟨6, []⟩)], clr := [(0, [25, 26, 27, 28, 29, 30, 31, 32, 33, 34, 35, 36, 37, 38, 39, 40], []), (2, [41, 42, 43, 44, 45, 46, 47, 48, 49, 50, 51, 52, 53, 54, 55, 56, 57, 58, 59, 60, 61, 62, 63, 64, 65, 66, 67, 68, 69], [6])], nk := 7 }
noncomputable def fx15 : Fx := { code := Try.f15.body.getD .skip, ntmps := 87, params := [25, 29], res := [(.cell 4 38, 38)], hints := [(2, ⟨0, []⟩), (3, ⟨1, []⟩), (4, ⟨2, []⟩), (5, ⟨3, []⟩), (9, ⟨4, []⟩), (11, ⟨5, []⟩)], clr := [(0, [8, 9, 40, 41, 42, 43, 44, 45, 46, 47, 48, 49, 50, 51, 52], [4]), (2, [10, 11, 12, 57, 58, 59, 60, 61, 62, 63, 64, 65, 66, 67, 68, 69, 70, 71, 72, 73, 74, 75, 76], [5])], nk := 6 }
noncomputable def fx16 : Fx := { code := Try.f16.body.getD .skip, ntmps := 240, params := [25, 29], res := [(.cell 4 38, 38)], hints := [(2, ⟨0, []⟩), (3, ⟨1, []⟩), (4, ⟨2, []⟩), (5, ⟨3, []⟩), (10, ⟨4, []⟩), (11, ⟨5, []⟩)], clr := [(0, [36, 37, 38, 39, 40, 41, 42, 43, 44, 45, 46, 47, 48, 49, 50, 51, 52, 53, 54], []), (2, [10, 11, 12, 13, 58, 59, 60, 61, 62, 63, 64, 65, 66, 67, 68, 69, 70, 71, 72, 73, 74, 75, 76, 77, 78, 79, 80, 81, 82, 83, 84, 85, 86, 87, 88, 89, 90, 91, 92, 93, 94, 95, 96, 97, 98, 99, 100, 101, 102, 103, 104, 105, 106, 107, 108, 109, 110, 111, 112, 113, 114, 115, 116, 117, 118, 119, 120, 121, 122, 123, 124, 125, 126, 127, 128, 129, 130, 131, 132, 133, 134, 135, 136, 137, 138, 139, 140, 141, 142, 143, 144, 145, 146, 147, 148, 149, 150, 151, 152, 153, 154, 155, 156, 157, 158, 159, 160, 161, 162, 163, 164, 165, 166, 167, 168, 169, 170, 171, 172, 173, 174, 175, 176, 177, 178, 179, 180, 181, 182, 183, 184, 185, 186, 187, 188, 189, 190, 191, 192, 193, 194, 195, 196, 197, 198, 199, 200, 201, 202, 203, 204, 205, 206, 207, 208, 209, 210, 211, 212, 213, 214, 215, 216, 217, 218, 219, 220, 221, 222, 223, 224, 225, 226, 227, 228, 229], [4, 5]), (4, [172, 173, 174, 175, 176, 177, 178, 179, 180, 181, 182, 183, 184, 185, 186, 187, 188, 189, 190, 191, 192, 193, 194, 195, 196, 197, 198, 199, 200, 201, 202, 203, 204, 205, 206, 207, 208, 209, 210, 211, 212, 213, 214, 215, 216, 217, 218, 219, 220, 221, 222, 223, 224, 225], [])], nk := 6 }
noncomputable def fx18 : Fx := { code := Try.f18.body.getD .skip, ntmps := 69, params := [25], res := [(.tmp 2, 4)], hints := [(1, ⟨0, []⟩), (3, ⟨1, []⟩), (7, ⟨2, []⟩)], clr := [(0, [27, 28, 29, 30, 31, 32, 33, 34, 35, 36, 37, 38, 39, 40], []), (2, [7, 41, 42, 43, 44, 45, 46, 47, 48, 49, 50, 51, 52, 53, 54, 55, 56, 57, 58, 59, 60, 61, 62, 63, 64, 65, 66, 67, 68], [2])], nk := 3 }
noncomputable def fx19 : Fx := { code := Try.f19.body.getD .skip, ntmps := 27, params := [44, 44], res := [(.tmp 4, 4)], hints := [], clr := [(0, [11, 12, 13, 14, 15, 16, 17, 18, 19, 20, 21, 22, 23, 24, 25, 26], [])], nk := 0 }
noncomputable def fx20 : Fx := { code := Try.f20.body.getD .skip, ntmps := 45, params := [25, 29], res := [(.tmp 4, 44)], hints := [(2, ⟨0, []⟩), (3, ⟨1, []⟩), (5, ⟨2, []⟩), (37, ⟨3, []⟩), (41, ⟨4, []⟩)], clr := [(0, [6, 8, 18, 19, 20, 21, 22, 23, 24, 25, 26, 27, 28, 29, 30, 31, 32, 33, 34, 35, 36, 37, 38, 39, 40, 41, 42, 43], [3, 4]), (2, [8, 27, 28, 29, 30, 31, 32, 33, 34, 35, 36, 37, 38, 39, 40, 41, 42], [3, 4])], nk := 5 }
noncomputable def fx21 : Fx := { code := Try.f21.body.getD .skip, ntmps := 49, params := [25, 29], res := [(.tmp 4, 44)], hints := [(2, ⟨0, []⟩), (3, ⟨1, []⟩), (5, ⟨2, []⟩), (40, ⟨3, []⟩), (47, ⟨4, []⟩)], clr := [(0, [7, 8, 14, 15, 16, 17, 18, 19, 20, 21, 22, 23, 24, 25, 26, 27, 28, 29, 30, 31, 32, 33, 34, 35, 36, 37, 38, 39, 40, 41, 42, 43, 44, 45, 46, 47], [3, 4]), (2, [32, 33, 34, 35, 36, 37, 38, 39, 40, 41, 42, 43, 44, 45, 46, 47], [3, 4])], nk := 5 }
noncomputable def fx22 : Fx := { code := Try.f22.body.getD .skip, ntmps := 89, params := [25, 29, 3, 46], res := [(.cell 8 29, 29), (.tmp 9, 34)], hints := [(4, ⟨0, []⟩), (5, ⟨1, []⟩), (8, ⟨2, []⟩), (10, ⟨3, []⟩), (11, ⟨4, [0, 1]⟩), (12, ⟨7, [2]⟩), (49, ⟨12, [0, 1]⟩), (51, ⟨21, []⟩), (69, ⟨22, []⟩), (79, ⟨23, []⟩), (86, ⟨24, []⟩)], clr := [(0, [14, 60, 61, 62, 63, 64, 65, 66, 67, 68, 69, 70, 71, 72, 73, 74, 75, 76, 77, 78, 79, 80, 81], [22, 23])], nk := 25 }
noncomputable def fx26 : Fx := { code := Try.f26.body.getD .skip, ntmps := 52, params := [29, 46], res := [(.tmp 4, 4)], hints := [(2, ⟨0, []⟩)], clr := [(0, [6, 17, 18, 19, 20, 21, 22, 23, 24, 25, 26, 27, 28, 29], []), (2, [7, 8, 10, 33, 34, 35, 36, 37, 38, 39, 40, 41, 42, 43, 44, 45, 46, 47, 48, 49, 50, 51], []), (4, [10, 42, 43, 44, 45, 46, 47, 48, 49, 50], [])], nk := 1 }
noncomputable def fx27 : Fx := { code := Try.f27.body.getD .skip, ntmps := 54, params := [29, 46], res := [(.tmp 4, 4)], hints := [(2, ⟨0, []⟩)], clr := [(0, [11, 12, 13, 14, 15, 16, 17, 18, 19, 20, 21, 22, 23, 24, 25, 26, 27, 28, 29, 30, 31], []), (2, [7, 32, 33, 34, 35, 36, 37, 38, 39, 40, 41, 42, 43, 44, 45, 46, 47, 48, 49, 50, 51, 52, 53], []), (4, [38, 39, 40, 41, 42, 43, 44, 45, 46, 47, 48, 49, 50, 51, 52, 53], [])], nk := 1 }
noncomputable def fx28 : Fx := { code := Try.f28.body.getD .skip, ntmps := 25, params := [29, 3, 3], res := [(.tmp 6, 4)], hints := [(3, ⟨0, []⟩)], clr := [], nk := 1 }
noncomputable def fx31 : Fx := { code := Try.f31.body.getD .skip, ntmps := 26, params := [46, 46], res := [(.tmp 4, 4)], hints := [], clr := [(0, [11, 12, 13, 14, 15, 16, 17, 18, 19, 20, 21, 22, 23, 24, 25], [])], nk := 0 }
noncomputable def fx35 : Fx := { code := Try.f35.body.getD .skip, ntmps := 86, params := [25], res := [(.cell 2 38, 38)], hints := [(1, ⟨0, []⟩), (2, ⟨1, []⟩), (3, ⟨2, [0]⟩), (6, ⟨4, []⟩), (9, ⟨5, []⟩)], clr := [(0, [5, 6, 7, 38, 39, 40, 41, 42, 43, 44, 45, 46, 47, 48, 49, 50, 51, 52, 53, 54, 55], [4]), (2, [8, 9, 10, 60, 61, 62, 63, 64, 65, 66, 67, 68, 69, 70, 71, 72, 73, 74, 75, 76, 77, 78, 79, 80, 81, 82, 83, 84], [5])], nk := 6 }
noncomputable def fx36 : Fx := { code := Try.f36.body.getD .skip, ntmps := 37, params := [25], res := [(.tmp 2, 4)], hints := [(1, ⟨0, []⟩), (4, ⟨1, []⟩), (6, ⟨2, []⟩)], clr := [(0, [4, 11, 12, 13, 14, 15, 16, 17, 18, 19, 20, 21, 22, 23], [1]), (2, [6, 28, 29, 30, 31, 32, 33, 34], [2])], nk := 3 }
noncomputable def fx37 : Fx := { code := Try.f37.body.getD .skip, ntmps := 40, params := [25], res := [(.tmp 2, 4)], hints := [(1, ⟨0, []⟩), (4, ⟨1, []⟩), (8, ⟨2, []⟩)], clr := [(0, [4, 6, 8, 13, 14, 15, 16, 17, 18, 19, 20, 21, 22, 23, 24, 25, 26, 27, 28, 29, 30, 31, 32, 33, 34, 35, 36, 37], [1, 2]), (2, [6, 8, 23, 24, 25, 26, 27, 28, 29, 30, 31, 32, 33, 34, 35, 36], [2]), (4, [8, 29, 30, 31, 32, 33, 34, 35], [2])], nk := 3 }
noncomputable def fx38 : Fx := { code := Try.f38.body.getD .skip, ntmps := 64, params := [25], res := [(.cell 2 38, 38)], hints := [(1, ⟨0, []⟩), (2, ⟨1, []⟩)], clr := [(0, [4, 29, 30, 31, 32, 33, 34, 35, 36, 37, 38, 39, 40, 41, 42, 43], []), (2, [6, 44, 45, 46, 47, 48, 49, 50, 51, 52, 53, 54, 55, 56, 57, 58, 59, 60, 61, 62], [])], nk := 2 }
noncomputable def fx39 : Fx := { code := Try.f39.body.getD .skip, ntmps := 46, params := [25], res := [(.tmp 2, 4)], hints := [(1, ⟨0, []⟩)], clr := [(0, [8, 9, 10, 11, 12, 13, 14, 15, 16, 17, 18, 19, 20, 21], []), (2, [22, 23, 24, 25, 26, 27, 28, 29, 30, 31, 32, 33, 34, 35, 36, 37, 38, 39, 40, 41, 42, 43, 44, 45], [])], nk := 1 }
noncomputable def fx40 : Fx := { code := Try.f40.body.getD .skip, ntmps := 32, params := [25], res := [(.tmp 2, 4)], hints := [(1, ⟨0, []⟩)], clr := [(0, [7, 8, 9, 10, 11, 12, 13, 14, 15, 16, 17, 18, 19, 20, 21, 22, 23, 24, 25, 26, 27, 28, 29, 30, 31], [])], nk := 1 }
noncomputable def fx41 : Fx := { code := Try.f41.body.getD .skip, ntmps := 47, params := [25, 29, 3, 3], res := [(.tmp 8, 34)], hints := [(4, ⟨0, []⟩), (5, ⟨1, []⟩), (9, ⟨2, []⟩)], clr := [], nk := 3 }
noncomputable def fx42 : Fx := { code := Try.f42.body.getD .skip, ntmps := 20, params := [46], res := [(.tmp 2, 4)], hints := [], clr := [(0, [4, 5, 6, 7, 8, 9, 10, 11, 12, 13, 14, 15, 16, 17, 18, 19], [])], nk := 0 }
noncomputable def fx43 : Fx := { code := Try.f43.body.getD .skip, ntmps := 56, params := [25, 29, 3, 46], res := [(.tmp 8, 4)], hints := [(4, ⟨0, []⟩), (5, ⟨1, []⟩)], clr := [(0, [11, 12, 24, 25, 26, 27, 28, 29, 30, 31, 32, 33, 34, 35, 36, 37, 38, 39, 40, 41, 42, 43, 44, 45, 46, 47, 48, 49, 50, 51, 52, 53, 54, 55], []), (2, [30, 31, 32, 33, 34, 35, 36, 37, 38, 39, 40, 41, 42, 43, 44, 45, 46, 47, 48, 49, 50, 51, 52, 53], [])], nk := 2 }
noncomputable def fx44 : Fx := { code := Try.f44.body.getD .skip, ntmps := 33, params := [29, 3, 3, 46], res := [(.tmp 8, 4)], hints := [(4, ⟨0, []⟩)], clr := [(0, [10, 11, 12, 13, 14, 15, 16, 17, 18, 19, 20, 21, 22, 23, 24, 25, 26, 27, 28, 29, 30, 31, 32], [])], nk := 1 }
noncomputable def fx45 : Fx := { code := Try.f45.body.getD .skip, ntmps := 19, params := [60], res := [(.tmp 2, 4)], hints := [], clr := [(0, [7, 8, 9, 10, 11, 12, 13, 14, 15, 16, 17, 18], [])], nk := 0 }
noncomputable def fx46 : Fx := { code := Try.f46.body.getD .skip, ntmps := 12, params := [29, 46], res := [(.tmp 4, 44)], hints := [(2, ⟨0, []⟩), (5, ⟨1, [0]⟩), (6, ⟨3, []⟩)], clr := [], nk := 4 }
noncomputable def fx47 : Fx := { code := Try.f47.body.getD .skip, ntmps := 26, params := [25, 3], res := [(.tmp 4, 46)], hints := [(2, ⟨0, []⟩)], clr := [], nk := 1 }
noncomputable def fx48 : Fx := { code := Try.f48.body.getD .skip, ntmps := 27, params := [29, 3, 46], res := [(.tmp 6, 4)], hints := [(3, ⟨0, []⟩), (8, ⟨1, []⟩)], clr := [(0, [8, 13, 14, 15, 16, 17, 18, 19, 20, 21, 22, 23, 24, 25, 26], [1])], nk := 2 }
noncomputable def fx49 : Fx := { code := Try.f49.body.getD .skip, ntmps := 95, params := [25, 29, 3, 46, 3, 3], res := [(.tmp 12, 44)], hints := [(6, ⟨0, []⟩), (7, ⟨1, []⟩), (13, ⟨2, []⟩), (80, ⟨3, []⟩), (93, ⟨4, []⟩)], clr := [(0, [15, 16, 17, 41, 42, 43, 44, 45, 46, 47, 48, 49, 50, 51, 52, 53, 54, 55, 56, 57, 58, 59, 60, 61, 62, 63, 64, 65, 66, 67, 68, 69, 70, 71, 72, 73, 74, 75, 76, 77, 78, 79, 80, 81, 82, 83, 84, 85, 86, 87, 88, 89, 90, 91, 92, 93], [3, 4]), (2, [62, 63, 64, 65, 66, 67, 68, 69, 70, 71, 72, 73, 74, 75, 76, 77], [])], nk := 5 }
noncomputable def fx50 : Fx := { code := Try.f50.body.getD .skip, ntmps := 103, params := [25, 29, 56], res := [(.tmp 6, 34)], hints := [(3, ⟨0, []⟩), (4, ⟨1, []⟩), (5, ⟨2, []⟩), (11, ⟨4, []⟩), (64, ⟨3, []⟩)], clr := [(0, [25, 26, 27, 28, 29, 30, 31, 32, 33, 34, 35, 36, 37, 38, 39, 40, 41, 42, 43], []), (2, [10, 48, 49, 50, 51, 52, 53, 54, 55, 56, 57, 58, 59, 60], []), (4, [13, 14, 69, 70, 71, 72, 73, 74, 75, 76, 77, 78, 79, 80, 81, 82, 83, 84, 85, 86, 87, 88, 89, 90, 91], [])], nk := 5 }
noncomputable def fx51 : Fx := { code := Try.f51.body.getD .skip, ntmps := 37, params := [29], res := [(.cell 2 29, 29)], hints := [(1, ⟨0, []⟩), (2, ⟨1, [0, 1]⟩), (3, ⟨4, [0, 1]⟩), (5, ⟨7, []⟩), (10, ⟨8, []⟩), (19, ⟨9, []⟩), (24, ⟨10, []⟩), (33, ⟨11, []⟩)], clr := [(0, [5, 16, 17, 18, 19, 20, 21, 22, 23, 24, 25, 26, 27, 28, 29, 30, 31, 32, 33, 34, 35], [7, 9, 10, 11])], nk := 12 }
noncomputable def fx52 : Fx := { code := Try.f52.body.getD .skip, ntmps := 26, params := [25, 3], res := [(.tmp 4, 46)], hints := [(2, ⟨0, []⟩)], clr := [], nk := 1 }
noncomputable def fx54 : Fx := { code := Try.f54.body.getD .skip, ntmps := 64, params := [29], res := [(.tmp 2, 4)], hints := [(1, ⟨0, []⟩), (4, ⟨1, []⟩), (6, ⟨2, []⟩)], clr := [(0, [4, 13, 14, 15, 16, 17, 18, 19, 20, 21, 22, 23, 24, 25, 26, 27], [1]), (2, [5, 6, 8, 32, 33, 34, 35, 36, 37, 38, 39, 40, 41, 42, 43, 44, 45, 46, 47, 48, 49, 50, 51, 52, 53, 54, 55, 56, 57, 58, 59, 60, 61, 62, 63], [2]), (4, [8, 40, 41, 42, 43, 44, 45, 46, 47, 48, 49, 50, 51, 52, 53, 54, 55, 56, 57, 58, 59, 60, 61, 62], [])], nk := 3 }
noncomputable def fx55 : Fx := { code := Try.f55.body.getD .skip, ntmps := 47, params := [29, 3, 3], res := [(.tmp 6, 4)], hints := [(3, ⟨0, []⟩)], clr := [], nk := 1 }
noncomputable def fx56 : Fx := { code := Try.f56.body.getD .skip, ntmps := 79, params := [29], res := [(.tmp 2, 4)], hints := [(1, ⟨0, []⟩)], clr := [(0, [7, 8, 9, 10, 11, 12, 13, 14, 15, 16, 17, 18, 19, 20, 21, 22, 23, 24, 25, 26, 27, 28, 29, 30, 31, 32], []), (2, [5, 6, 33, 34, 35, 36, 37, 38, 39, 40, 41, 42, 43, 44, 45, 46, 47, 48, 49, 50, 51, 52, 53, 54, 55, 56, 57, 58, 59, 60, 61, 62, 63, 64, 65, 66, 67, 68, 69, 70, 71, 72, 73, 74, 75, 76, 77, 78], []), (4, [6, 40, 41, 42, 43, 44, 45, 46, 47, 48, 49, 50, 51, 52, 53, 54, 55, 56, 57, 58, 59, 60, 61, 62, 63, 64, 65, 66, 67, 68, 69, 70, 71, 72, 73, 74, 75, 76, 77, 78], [])], nk := 1 }
noncomputable def fx57 : Fx := { code := Try.f57.body.getD .skip, ntmps := 49, params := [29, 3, 3], res := [(.tmp 6, 4)], hints := [(3, ⟨0, []⟩)], clr := [], nk := 1 }
noncomputable def fx58 : Fx := { code := Try.f58.body.getD .skip, ntmps := 18, params := [29, 3], res := [(.tmp 4, 4)], hints := [(2, ⟨0, []⟩)], clr := [], nk := 1 }
noncomputable def fx60 : Fx := { code := Try.f60.body.getD .skip, ntmps := 16, params := [29, 3], res := [(.tmp 4, 51)], hints := [(2, ⟨0, []⟩), (5, ⟨1, [0]⟩), (6, ⟨3, []⟩), (10, ⟨4, []⟩)], clr := [], nk := 5 }
noncomputable def fx62 : Fx := { code := Try.f62.body.getD .skip, ntmps := 60, params := [29, 3], res := [(.tmp 4, 51)], hints := [(2, ⟨0, []⟩), (5, ⟨2, []⟩), (12, ⟨1, []⟩)], clr := [(0, [7, 8, 20, 21, 22, 23, 24, 25, 26, 27, 28, 29, 30, 31, 32, 33, 34, 35, 36, 37, 38, 39, 40, 41, 42, 43, 44, 45, 46, 47, 48, 49, 50, 51, 52, 53, 54, 55, 56, 57, 58], []), (2, [8, 29, 30, 31, 32, 33, 34, 35, 36, 37, 38, 39, 40, 41, 42, 43, 44, 45, 46, 47, 48, 49, 50, 51, 52, 53, 54, 55, 56, 57, 58], [])], nk := 3 }
noncomputable def fx63 : Fx := { code := Try.f63.body.getD .skip, ntmps := 59, params := [29, 3, 3], res := [(.tmp 6, 4)], hints := [(3, ⟨0, []⟩)], clr := [(0, [10, 17, 18, 19, 20, 21, 22, 23, 24, 25, 26, 27, 28, 29, 30, 31, 32, 33, 34, 35, 36, 37, 38, 39, 40, 41, 42, 43, 44, 45, 46, 47, 48, 49, 50, 51, 52, 53, 54, 55, 56, 57, 58], []), (2, [23, 24, 25, 26, 27, 28, 29, 30, 31, 32, 33, 34, 35, 36, 37, 38, 39, 40, 41, 42, 43, 44, 45, 46, 47, 48, 49, 50, 51, 52, 53, 54, 55, 56, 57, 58], [])], nk := 1 }
noncomputable def fx65 : Fx := { code := Try.f65.body.getD .skip, ntmps := 23, params := [9], res := [(.tmp 3, 34)], hints := [(22, ⟨0, []⟩)], clr := [(0, [5, 12, 13, 14, 15, 16, 17, 18], [])], nk := 1 }
noncomputable def fx66 : Fx := { code := Try.f66.body.getD .skip, ntmps := 28, params := [59], res := [(.tmp 2, 34)], hints := [(1, ⟨0, []⟩)], clr := [], nk := 1 }
noncomputable def fx67 : Fx := { code := Try.f67.body.getD .skip, ntmps := 35, params := [62, 3], res := [(.tmp 4, 34)], hints := [(2, ⟨0, []⟩)], clr := [(0, [6, 7, 25, 26, 27, 28, 29, 30, 31, 32, 33, 34], [])], nk := 1 }
noncomputable def fx68 : Fx := { code := Try.f68.body.getD .skip, ntmps := 7, params := [25], res := [(.tmp 2, 4)], hints := [(1, ⟨0, []⟩)], clr := [], nk := 1 }
noncomputable def fx69 : Fx := { code := Try.f69.body.getD .skip, ntmps := 54, params := [9], res := [(.tmp 2, 4)], hints := [], clr := [(0, [4, 5, 6, 15, 16, 17, 18, 19, 20, 21, 22, 23, 24, 25, 26, 27, 28, 29, 30, 31, 32, 33, 34, 35, 36, 37, 38, 39, 40, 41, 42, 43, 44, 45, 46, 47, 48, 49, 50, 51, 52, 53], [])], nk := 0 }
noncomputable def fx70 : Fx := { code := Try.f70.body.getD .skip, ntmps := 58, params := [25, 3], res := [(.tmp 4, 34)], hints := [(2, ⟨0, []⟩), (5, ⟨1, []⟩)], clr := [(0, [16, 17, 18, 19, 20, 21, 22, 23, 24, 25, 26, 27, 28, 29], [])], nk := 2 }
noncomputable def fx71 : Fx := { code := Try.f71.body.getD .skip, ntmps := 75, params := [25, 3], res := [(.tmp 4, 34)], hints := [(2, ⟨0, []⟩), (5, ⟨1, []⟩)], clr := [(0, [19, 20, 21, 22, 23, 24, 25, 26, 27, 28, 29, 30, 31, 32, 33, 34], []), (2, [35, 36, 37, 38, 39, 40, 41, 42, 43, 44, 45, 46, 47, 48], [])], nk := 2 }
noncomputable def fx72 : Fx := { code := Try.f72.body.getD .skip, ntmps := 7, params := [25], res := [(.tmp 2, 4)], hints := [(1, ⟨0, []⟩)], clr := [], nk := 1 }
noncomputable def fx73 : Fx := { code := Try.f73.body.getD .skip, ntmps := 16, params := [60], res := [(.tmp 2, 4)], hints := [], clr := [(0, [4, 5, 6, 7, 8, 9, 10, 11, 12, 13, 14, 15], [])], nk := 0 }
noncomputable def fx74 : Fx := { code := Try.f74.body.getD .skip, ntmps := 63, params := [25, 29, 3, 3], res := [(.tmp 8, 34)], hints := [(4, ⟨0, []⟩), (5, ⟨1, []⟩), (9, ⟨2, []⟩)], clr := [(0, [11, 12, 32, 33, 34, 35, 36, 37, 38, 39, 40, 41, 42, 43, 44, 45, 46, 47, 48, 49, 50, 51, 52, 53, 54, 55, 56, 57, 58, 59, 60, 61, 62], [])], nk := 3 }
noncomputable def fx75 : Fx := { code := Try.f75.body.getD .skip, ntmps := 86, params := [46, 46], res := [], hints := [(7, ⟨1, []⟩), (10, ⟨3, []⟩), (18, ⟨0, []⟩), (25, ⟨2, []⟩), (77, ⟨4, []⟩)], clr := [(0, [10, 12, 37, 38, 39, 40, 41, 42, 43, 44, 45, 46, 47, 48, 49, 50, 51, 52, 53, 54, 55, 56, 57, 58, 59, 60, 61, 62, 63, 64, 65, 66, 67, 68, 69, 70, 71, 72, 73, 74, 75, 76, 77, 78, 79, 80, 81, 82, 83, 84, 85], [3, 4]), (2, [12, 63, 64, 65, 66, 67, 68, 69, 70, 71, 72, 73, 74, 75, 76, 77, 78], [4])], nk := 5 }
noncomputable def fx76 : Fx := { code := Try.f76.body.getD .skip, ntmps := 17, params := [46, 3], res := [(.tmp 4, 4)], hints := [], clr := [(0, [6, 10, 11, 12, 13, 14, 15, 16], [])], nk := 0 }
noncomputable def fx77 : Fx := { code := Try.f77.body.getD .skip, ntmps := 21, params := [29, 46, 3], res := [(.tmp 6, 4)], hints := [(3, ⟨0, []⟩)], clr := [(0, [8, 12, 13, 14, 15, 16, 17, 18, 19, 20], [])], nk := 1 }
noncomputable def fx78 : Fx := { code := Try.f78.body.getD .skip, ntmps := 19, params := [60], res := [(.tmp 2, 46)], hints := [(3, ⟨1, []⟩), (5, ⟨0, []⟩), (16, ⟨2, []⟩)], clr := [(0, [5, 9, 10, 11, 12, 13, 14, 15, 16, 17], [0, 2])], nk := 3 }
noncomputable def fx79 : Fx := { code := Try.f79.body.getD .skip, ntmps := 26, params := [46, 46], res := [(.tmp 4, 4)], hints := [], clr := [(0, [5, 6, 15, 16, 17, 18, 19, 20, 21, 22, 23, 24, 25], [])], nk := 0 }
noncomputable def fx80 : Fx := { code := Try.f80.body.getD .skip, ntmps := 19, params := [46], res := [(.tmp 2, 46)], hints := [(2, ⟨0, []⟩), (3, ⟨1, []⟩), (17, ⟨2, []⟩)], clr := [(0, [5, 6, 7, 8, 9, 10, 11, 12, 13, 14, 15, 16, 17], [2])], nk := 3 }
noncomputable def fx81 : Fx := { code := Try.f81.body.getD .skip, ntmps := 24, params := [60, 3], res := [(.tmp 4, 3)], hints := [], clr := [(0, [6, 7, 8, 9, 10, 11, 12, 13, 14, 15, 16, 17, 18, 19, 20, 21, 22, 23], [])], nk := 0 }
noncomputable def fx83 : Fx := { code := Try.f83.body.getD .skip, ntmps := 32, params := [29, 3, 3], res := [(.tmp 6, 4)], hints := [(3, ⟨0, []⟩)], clr := [(0, [12, 13, 14, 15, 16, 17, 18, 19, 20, 21, 22, 23, 24, 25, 26, 27, 28, 29, 30, 31], [])], nk := 1 }
noncomputable def fx85 : Fx := { code := Try.f85.body.getD .skip, ntmps := 38, params := [3], res := [], hints := [], clr := [(0, [6, 26, 27, 28, 29, 30, 31, 32, 33, 34, 35, 36, 37], [])], nk := 0 }
noncomputable def fx86 : Fx := { code := Try.f86.body.getD .skip, ntmps := 18, params := [46, 46], res := [(.tmp 4, 4)], hints := [], clr := [(0, [6, 7, 8, 9, 10, 11, 12, 13, 14, 15, 16, 17], [])], nk := 0 }
noncomputable def fx87 : Fx := { code := Try.f87.body.getD .skip, ntmps := 24, params := [46, 3], res := [(.tmp 4, 4)], hints := [], clr := [(0, [6, 14, 15, 16, 17, 18, 19, 20, 21, 22, 23], [])], nk := 0 }
noncomputable def fx88 : Fx := { code := Try.f88.body.getD .skip, ntmps := 48, params := [60, 3], res := [(.tmp 4, 34)], hints := [(6, ⟨0, []⟩)], clr := [(0, [5, 6, 10, 11, 12, 13, 14, 15, 16, 17, 18, 19, 20, 21, 22, 23, 24, 25, 26, 27, 28, 29, 30, 31, 32, 33, 34, 35, 36, 37, 38, 39, 40, 41, 42, 43, 44, 45, 46, 47], [0])], nk := 1 }
noncomputable def fx89 : Fx := { code := Try.f89.body.getD .skip, ntmps := 59, params := [25, 60], res := [(.tmp 4, 34)], hints := [(2, ⟨0, []⟩)], clr := [(0, [6, 7, 8, 9, 10, 11, 12, 13, 14, 15, 16, 17, 18, 19, 20, 21, 22, 23, 24, 25, 26, 27, 28, 29, 30, 31, 32, 33, 34, 35, 36, 37, 38, 39, 40, 41, 42, 43, 44, 45, 46, 47, 48, 49, 50, 51, 52, 53, 54, 55, 56, 57, 58], [])], nk := 1 }
noncomputable def fx90 : Fx := { code := Try.f90.body.getD .skip, ntmps := 18, params := [46, 3], res := [(.tmp 4, 4)], hints := [], clr := [(0, [6, 7, 8, 9, 10, 11, 12, 13, 14, 15, 16, 17], [])], nk := 0 }
noncomputable def tab : Tab := { tys := tys, fns := [(4, fx4), (10, fx10), (11, fx11), (12, fx12), (13, fx13), (14, fx14), (15, fx15), (16, fx16), (18, fx18), (19, fx19), (20, fx20), (21, fx21), (22, fx22), (26, fx26), (27, fx27), (28, fx28), (31, fx31), (35, fx35), (36, fx36), (37, fx37), (38, fx38), (39, fx39), (40, fx40), (41, fx41), (42, fx42), (43, fx43), (44, fx44), (45, fx45), (47, fx47), (48, fx48), (49, fx49), (50, fx50), (51, fx51), (52, fx52), (54, fx54), (55, fx55), (56, fx56), (57, fx57), (58, fx58), (60, fx60), (62, fx62), (63, fx63), (65, fx65), (66, fx66), (67, fx67), (68, fx68), (69, fx69), (70, fx70), (71, fx71), (72, fx72), (73, fx73), (74, fx74), (75, fx75), (76, fx76), (77, fx77), (78, fx78), (79, fx79), (80, fx80), (81, fx81), (83, fx83), (85, fx85), (86, fx86), (87, fx87), (88, fx88), (89, fx89), (90, fx90)] }
end Go.Proofs.Ytficdonjodadlaa
end
section
set_option linter.unusedVariables false
set_option linter.unusedSimpArgs false
namespace Go.Ev
def Tab.sz (T : Tab) (t : TypeId) : Nat := (T.row t).size
def isAgg (T : Tab) (t : TypeId) : Bool := match T.ty t with | .agg _ => true | _ => false
inductive Rep (T : Tab) (w : World) (E : Nat → Prop) : TypeId → IV → List Value → Prop
  | int {t k n} (h : T.ty t = .int k) : Rep T w E t (.I n) [.int k n]
  | bool {t b} (h : T.ty t = .bool) : Rep T w E t (.B b) [.bool b]
  | str {t s} (h : T.ty t = .str) : Rep T w E t (.S s) [.string s]
  | slice {t e l b o cap} {cf : Nat → List Value} (h : T.ty t = .slice e) (hb : E b) (hc : l.length ≤ cap) (hl : ∀ i, i < l.length → (cf i).length = T.sz e)
      (hw : ∀ i j u, i < l.length → (cf i)[j]? = some u → w.cell? ⟨b, o + (i * T.sz e + j), none⟩ = some u) (hr : ∀ i, i < l.length → Rep T w E e (l.getD i .N) (cf i)) :
      Rep T w E t (.L l) [.slice (some ⟨b, o, none⟩) l.length cap]
  | none {t e a cap} (h : T.ty t = .slice e) (hn : a = none → cap = 0) : Rep T w E t (.L []) [.slice a 0 cap]
  | nil {t e} (h : T.ty t = .slice e) : Rep T w E t .N [.slice Option.none 0 0]
  | agg {t fs l cs} (h : T.ty t = .agg fs) (hl : l.length = fs.length) (hc : cs.length = T.sz t) (h1 : ∀ u ∈ cs, u.oneCell' = true)
      (hr : ∀ j, j < l.length → Rep T w E (fs.getD j (0, 0)).1 (l.getD j .N) ((cs.drop (fs.getD j (0, 0)).2).take (T.sz (fs.getD j (0, 0)).1))) : Rep T w E t (.A l) cs
  | fn {t} (h : T.ty t = .fn) : Rep T w E t .N [.nilFunc]
  | ptr {t e} (h : T.ty t = .ptr e) : Rep T w E t .N [.pointer Option.none]
theorem Rep.mono {T : Tab} {w w' : World} {E E' : Nat → Prop} (hE : ∀ b, E b → E' b) (hw : ∀ b, E b → w'.heap[b]? = w.heap[b]?) {t v cs} (h : Rep T w E t v cs) : Rep T w' E' t v cs := by
  induction h with
  | int h => exact .int h
  | bool h => exact .bool h
  | str h => exact .str h
  | slice h hb hc hl hx hr ih => exact .slice h (hE _ hb) hc hl (fun i j u hi hj => (World.cell?_of_block (w := w) (hw _ hb)).trans (hx i j u hi hj)) ih
  | none h hn => exact .none h hn
  | nil h => exact .nil h
  | agg h hl hc h1 hr ih => exact .agg h hl hc h1 ih
  | fn h => exact .fn h
  | ptr h => exact .ptr h
theorem Rep.one {T : Tab} {w : World} {E : Nat → Prop} {t v cs} (h : Rep T w E t v cs) : ∀ u ∈ cs, u.oneCell' = true := by
  cases h <;> first | (intro u hu; rw [List.mem_singleton.1 hu]; rfl) | assumption
structure Tab.Ok (T : Tab) (P : Program) : Prop where
  int : ∀ t k, T.ty t = .int k → P.underlying t = some (.int k)
  bool : ∀ t, T.ty t = .bool → P.underlying t = some .bool
  str : ∀ t, T.ty t = .str → P.underlying t = some .string
  slice : ∀ t e, T.ty t = .slice e → P.underlying t = some (.slice e)
  agg : ∀ t fs, T.ty t = .agg fs → ∃ Fs, P.underlying t = some (.struct Fs) ∧ Fs.toList.map (fun f => (f.type, f.offset)) = fs
  fn : ∀ t, T.ty t = .fn → ∃ a b c, P.underlying t = some (.func a b c)
  ptr : ∀ t e, T.ty t = .ptr e → P.underlying t = some (.pointer e)
  info : ∀ t, T.ty t ≠ .no → ∃ i z, P.info? t = some i ∧ i.size = T.sz t ∧ i.bytes = (T.row t).bytes ∧ i.zero = some z ∧ z.cells.size = T.sz t ∧ (isAgg T t = false → T.sz t = 1) ∧ (isAgg T t = true → ∃ cs, z = .agg cs) ∧ (isAgg T t = false → z.cells = #[z]) ∧
    (match T.ty t with | .no => True | _ => ∀ w E, Rep T w E t (T.row t).zero z.cells.toList)
  tile : ∀ t fs, T.ty t = .agg fs → ∀ j, j < fs.length → 0 < T.sz (fs.getD j (0, 0)).1 ∧ (fs.getD j (0, 0)).2 + T.sz (fs.getD j (0, 0)).1 ≤ T.sz t ∧ (∀ i, i < j → (fs.getD i (0, 0)).2 + T.sz (fs.getD i (0, 0)).1 ≤ (fs.getD j (0, 0)).2) ∧ T.ty (fs.getD j (0, 0)).1 ≠ .no
  flat : ∀ t, (T.row t).flat = true → ∀ w E w' E' v cs, Rep T w E t v cs → Rep T w' E' t v cs
  plain : ∀ t fs, T.ty t = .agg fs → P.stoodInHeld t = false ∧ P.eqGuardType P.depth t = false ∧ ∀ Fs, P.underlying t = some (.struct Fs) → ∀ f ∈ Fs.toList, f.name ≠ "_"
theorem Rep.len {T : Tab} {P : Program} (ok : T.Ok P) {w : World} {E : Nat → Prop} {t v cs} (h : Rep T w E t v cs) : cs.length = T.sz t := by
  have key : T.ty t ≠ .no → isAgg T t = false → T.sz t = 1 := fun h1 h2 => by obtain ⟨i, z, _, _, _, _, _, h3, _⟩ := ok.info t h1; exact h3 h2
  cases h with
  | agg h hl hc h1 hr => exact hc
  | int h => rw [key (by rw [h]; simp) (by simp [isAgg, h])]; rfl
  | bool h => rw [key (by rw [h]; simp) (by simp [isAgg, h])]; rfl
  | str h => rw [key (by rw [h]; simp) (by simp [isAgg, h])]; rfl
  | slice h => rw [key (by rw [h]; simp) (by simp [isAgg, h])]; rfl
  | none h => rw [key (by rw [h]; simp) (by simp [isAgg, h])]; rfl
  | nil h => rw [key (by rw [h]; simp) (by simp [isAgg, h])]; rfl
  | fn h => rw [key (by rw [h]; simp) (by simp [isAgg, h])]; rfl
  | ptr h => rw [key (by rw [h]; simp) (by simp [isAgg, h])]; rfl
theorem Rep.ty {T : Tab} {w : World} {E : Nat → Prop} {t v cs} (h : Rep T w E t v cs) : T.ty t ≠ .no := by
  cases h <;> simp_all
inductive Sh where | box (t : TypeId) | arr (e : TypeId)
def Row.sh : Row → Sh | .box _ t _ _ => .box t | .arr _ e _ => .arr e
def St.sh (st : St) (k : Nat) : Option Sh := (st.row k).map Row.sh
def pathOff (T : Tab) : TypeId → List Nat → Option (Nat × TypeId)
  | t, [] => some (0, t)
  | t, j :: p => match T.ty t with | .agg fs => (fs[j]?).bind fun f => (pathOff T f.1 p).map fun r => (f.2 + r.1, r.2) | _ => none
def PtrOk (T : Tab) : Sh → List Nat → Nat → TypeId → Prop
  | .box bt, path, off, t => pathOff T bt path = some (off, t)
  | .arr e, path, off, t => ∃ i q o, path = i :: q ∧ pathOff T e q = some (o, t) ∧ off = i * T.sz e + o
def blk : Value → Option Nat
  | .slice (some a) _ _ => some a.block
  | .pointer (some a) => some a.block
  | _ => none
structure Cx where
  P : Program
  T : Tab
  w0 : World
  S : Nat → Nat → Prop
  X : Nat → Prop
  β0 : Nat → Value
structure Cx.Ok (C : Cx) : Prop where
  tab : C.T.Ok C.P
  anti : ∀ p q b, p ≤ q → C.S q b → C.S p b
  lt : ∀ p b, C.S p b → b < C.w0.heap.size ∧ ¬ C.X b
  xlt : ∀ b, C.X b → b < C.w0.heap.size
structure Nm where
  β : Nat → Value
  Fz : Nat → Prop
def Cx.E (C : Cx) (N : Nm) (p : Nat) (b : Nat) : Prop := C.S p b ∨ N.Fz b
def RepA (C : Cx) (N : Nm) (sh : Nat → Option Sh) (w : World) : At → List Value → Prop
  | .int k n, cs => cs = [.int k n]
  | .bool b, cs => cs = [.bool b]
  | .str s, cs => cs = [.string s]
  | .iv p t v, cs => Rep C.T w (C.E N p) t v cs
  | .pv p t v, cs => ∃ b o ds, cs = [.pointer (some ⟨b, o, none⟩)] ∧ Rep C.T w (C.E N p) t v ds ∧ C.E N p b ∧ ∀ j u, ds[j]? = some u → w.cell? ⟨b, o + j, none⟩ = some u
  | .own k, cs => cs = [N.β k] ∧ ∃ e, sh k = some (.arr e)
  | .sub k n, cs => (∃ a len cap, N.β k = .slice a len cap ∧ n ≤ cap ∧ cs = [.slice a n cap]) ∧ ∃ e, sh k = some (.arr e)
  | .ptr k path t, cs => ∃ b off s, sh k = some s ∧ PtrOk C.T s path off t ∧ blk (N.β k) = some b ∧ cs = [.pointer (some ⟨b, off, none⟩)]
  | .nil, cs => cs = [.slice none 0 0]
  | .nilf, cs => cs = [.nilFunc]
  | .fn f caps, cs => cs = [.func (.func f) #[] (caps.map N.β).toArray] ∧ ∀ k ∈ caps, ∃ t, sh k = some (.box t)
  | .U, _ => True
def At.agg (T : Tab) : At → Bool | .iv _ t _ => isAgg T t | _ => false
def At.tyAt (T : Tab) (t : TypeId) : At → Prop | .iv _ t' _ => t' = t | _ => isAgg T t = false
def At.uses (k : Nat) : At → Prop
  | .own j | .sub j _ | .ptr j _ _ => j = k
  | .fn _ caps => k ∈ caps
  | _ => False
def At.isU : At → Bool | .U => true | _ => false
def RepG (C : Cx) (N : Nm) (sh : Nat → Option Sh) (w : World) (t : TypeId) (l : List At) (cs : List Value) : Prop :=
  ∃ fs, C.T.ty t = .agg fs ∧ l.length = fs.length ∧ cs.length = C.T.sz t ∧ (∀ u ∈ cs, u.oneCell' = true) ∧
    ∀ j, j < l.length → RepA C N sh w (l.getD j .U) ((cs.drop (fs.getD j (0, 0)).2).take (C.T.sz (fs.getD j (0, 0)).1)) ∧ ((l.getD j .U).isU = false → (l.getD j .U).tyAt C.T (fs.getD j (0, 0)).1)
def RepV1 (C : Cx) (N : Nm) (sh : Nat → Option Sh) (w : World) (t : TypeId) : V1 → List Value → Prop
  | .a x, cs => RepA C N sh w x cs ∧ (x.isU = false → x.tyAt C.T t) ∧ cs.length = C.T.sz t ∧ ∀ u ∈ cs, u.oneCell' = true
  | .g t' l, cs => t' = t ∧ RepG C N sh w t l cs
def mkV (b : Bool) (cs : List Value) : Value := if b then .agg cs.toArray else cs.headD undef
def SlotV (C : Cx) (N : Nm) (sh : Nat → Option Sh) (w : World) : V1 → Value → Prop
  | .a x, v => x.isU = false → ∃ cs, RepA C N sh w x cs ∧ v = mkV (x.agg C.T) cs
  | .g t l, v => ∃ cs, RepG C N sh w t l cs ∧ v = .agg cs.toArray
def Slot (C : Cx) (N : Nm) (sh : Nat → Option Sh) (w : World) : SV → Value → Prop
  | .v x, v => SlotV C N sh w x v
  | .tup l, v => ∃ vs : List Value, v = .tuple vs.toArray ∧ vs.length = l.length ∧ ∀ i, i < l.length → SlotV C N sh w (l.getD i (.a .U)) (vs.getD i undef)
def RowOk (C : Cx) (N : Nm) (sh : Nat → Option Sh) (w : World) (k : Nat) : Row → Prop
  | .box x t own c => ∃ b cs, N.β k = .pointer (some ⟨b, 0, none⟩) ∧ w.heap[b]? = some (.cells cs.toArray t (0, 0)) ∧ RepV1 C N sh w t c cs ∧ C.T.ty t ≠ .no ∧ (x = true → N.β k = C.β0 k)
  | .arr p e l => 0 < C.T.sz e ∧ C.T.ty e ≠ .no ∧ ∃ cf : Nat → List Value, (∀ i, i < l.length → Rep C.T w (C.E N p) e (l.getD i .N) (cf i)) ∧ w.ownsRow 0 e (C.T.sz e) (N.β k) l.length ((List.range l.length).flatMap cf)
structure Frm (C : Cx) (N : Nm) (st : St) (w : World) : Prop where
  own : ∀ k b, (st.row k).isSome → blk (N.β k) = some b → (C.X b ∨ C.w0.heap.size ≤ b) ∧ ¬ N.Fz b ∧ b < w.heap.size
  sep : ∀ k k' b, (st.row k).isSome → (st.row k').isSome → blk (N.β k) = some b → blk (N.β k') = some b → k = k'
  fz : ∀ b, N.Fz b → (C.X b ∨ C.w0.heap.size ≤ b) ∧ b < w.heap.size
  frame : ∀ b, b < C.w0.heap.size → ¬ C.X b → w.heap[b]? = C.w0.heap[b]?
  os : w.os = C.w0.os
  tape : w.tape = C.w0.tape
  output : w.output = C.w0.output
  size : C.w0.heap.size ≤ w.heap.size
structure Rel (C : Cx) (N : Nm) (st : St) (a : Act) (w : World) : Prop where
  len : a.tmps.size = st.env.length
  dfr : a.defers = []
  slots : ∀ i, Slot C N st.sh w (st.env.getD i U) (a.tmps.getD i undef)
  rows : ∀ k r, st.row k = some r → RowOk C N st.sh w k r
  frm : Frm C N st w
section
variable {C : Cx} {N N' : Nm} {sh sh' : Nat → Option Sh} {w w' : World}
theorem RepA.mono (hE : ∀ p b, C.E N p b → C.E N' p b) (hw : ∀ p b, C.E N p b → w'.heap[b]? = w.heap[b]?) {x : At} (hu : ∀ k, x.uses k → N'.β k = N.β k ∧ sh' k = sh k) {cs : List Value}
    (h : RepA C N sh w x cs) : RepA C N' sh' w' x cs := by
  cases x with
  | iv p t v => exact Rep.mono (hE p) (hw p) h
  | pv p t v =>
    obtain ⟨b, o, ds, h1, h2, h3, h4⟩ := h
    exact ⟨b, o, ds, h1, h2.mono (hE p) (hw p), hE p b h3, fun j u hj => (World.cell?_of_block (w := w) (hw p b h3)).trans (h4 j u hj)⟩
  | own k => obtain ⟨h1, h2⟩ := hu k rfl; exact ⟨by rw [h1]; exact h.1, by rw [h2]; exact h.2⟩
  | sub k n => obtain ⟨h1, h2⟩ := hu k rfl; exact ⟨by rw [h1]; exact h.1, by rw [h2]; exact h.2⟩
  | ptr k path t =>
    obtain ⟨h1, h2⟩ := hu k rfl
    obtain ⟨b, off, s, ha, hb, hc, hd⟩ := h
    exact ⟨b, off, s, by rw [h2]; exact ha, hb, by rw [h1]; exact hc, hd⟩
  | fn f caps => exact ⟨by rw [h.1, List.map_congr_left (fun k hk => ((hu k hk).1).symm)], fun k hk => by rw [(hu k hk).2]; exact h.2 k hk⟩
  | _ => exact h
def V1.uses (k : Nat) : V1 → Prop | .a x => x.uses k | .g _ l => ∃ x ∈ l, x.uses k
def SV.uses (k : Nat) : SV → Prop | .v x => x.uses k | .tup l => ∃ x ∈ l, x.uses k
def Row.uses (k : Nat) : Row → Prop | .box _ _ _ c => c.uses k | .arr .. => False
theorem getD_mem {α : Type} {l : List α} {j : Nat} {d : α} (h : j < l.length) : l.getD j d ∈ l := by simp [List.getD, h]
theorem RepG.mono (hE : ∀ p b, C.E N p b → C.E N' p b) (hw : ∀ p b, C.E N p b → w'.heap[b]? = w.heap[b]?) {t : TypeId} {l : List At} (hu : ∀ k, (∃ x ∈ l, x.uses k) → N'.β k = N.β k ∧ sh' k = sh k) {cs : List Value}
    (h : RepG C N sh w t l cs) : RepG C N' sh' w' t l cs := by
  obtain ⟨fs, h1, h2, h3, h4, h5⟩ := h
  exact ⟨fs, h1, h2, h3, h4, fun j hj => ⟨(h5 j hj).1.mono hE hw (fun k hk => hu k ⟨_, getD_mem hj, hk⟩), (h5 j hj).2⟩⟩
theorem RepV1.mono (hE : ∀ p b, C.E N p b → C.E N' p b) (hw : ∀ p b, C.E N p b → w'.heap[b]? = w.heap[b]?) {t : TypeId} {c : V1} (hu : ∀ k, c.uses k → N'.β k = N.β k ∧ sh' k = sh k) {cs : List Value}
    (h : RepV1 C N sh w t c cs) : RepV1 C N' sh' w' t c cs := by
  cases c with
  | a x => exact ⟨h.1.mono hE hw hu, h.2⟩
  | g t' l => exact ⟨h.1, h.2.mono hE hw hu⟩
theorem SlotV.mono (hE : ∀ p b, C.E N p b → C.E N' p b) (hw : ∀ p b, C.E N p b → w'.heap[b]? = w.heap[b]?) {c : V1} (hu : ∀ k, c.uses k → N'.β k = N.β k ∧ sh' k = sh k) {v : Value}
    (h : SlotV C N sh w c v) : SlotV C N' sh' w' c v := by
  cases c with
  | a x => intro hx; obtain ⟨cs, h1, h2⟩ := h hx; exact ⟨cs, h1.mono hE hw hu, h2⟩
  | g t l => obtain ⟨cs, h1, h2⟩ := h; exact ⟨cs, h1.mono hE hw hu, h2⟩
theorem Slot.mono (hE : ∀ p b, C.E N p b → C.E N' p b) (hw : ∀ p b, C.E N p b → w'.heap[b]? = w.heap[b]?) {c : SV} (hu : ∀ k, c.uses k → N'.β k = N.β k ∧ sh' k = sh k) {v : Value}
    (h : Slot C N sh w c v) : Slot C N' sh' w' c v := by
  cases c with
  | v x => exact SlotV.mono hE hw hu h
  | tup l => obtain ⟨vs, h1, h2, h3⟩ := h; exact ⟨vs, h1, h2, fun i hi => (h3 i hi).mono hE hw (fun k hk => hu k ⟨_, getD_mem hi, hk⟩)⟩
end
end Go.Ev
end
section
set_option linter.unusedVariables false
set_option linter.unusedSimpArgs false
namespace Go.Ev
open Go.RowKit
theorem getD_map {α β : Type} (f : α → β) (l : List α) (i : Nat) (d : α) : (l.map f).getD i (f d) = f (l.getD i d) := by
  simp only [List.getD, List.getElem?_map]
  cases l[i]? <;> rfl
theorem setD_get (m : List (Option Row)) (k : Nat) (r : Option Row) (j : Nat) : ((setD m k r)[j]?).join = if j = k then r else (m[j]?).join := by
  unfold setD
  by_cases hk : k < m.length
  · rw [if_pos hk, List.getElem?_set]
    by_cases e : k = j
    · subst e; simp [hk]
    · simp [e, show ¬ j = k from fun h => e h.symm]
  · rw [if_neg hk]
    by_cases hj : j < m.length
    · rw [List.getElem?_append_left hj, if_neg (by omega)]
    · rw [List.getElem?_append_right (by omega), List.getElem?_eq_none (l := m) (by omega)]
      by_cases h2 : j < k
      · rw [List.getElem?_append_left (by simp; omega), if_neg (by omega)]
        simp only [List.getElem?_replicate]
        split <;> rfl
      · rw [List.getElem?_append_right (by simp; omega)]
        by_cases e : j = k
        · subst e; simp
        · rw [if_neg e, List.getElem?_eq_none (by simp; omega)]
section
variable {st : St}
@[simp] theorem St.row_put (k : Nat) (r : Option Row) (j : Nat) : (st.putRow k r).row j = if j = k then r else st.row j := setD_get _ _ _ _
@[simp] theorem St.row_map (φ : At → At) (j : Nat) : (st.map φ).row j = (st.row j).map (Row.map φ) := by
  simp only [St.row, St.map, List.getElem?_map]
  cases st.mem[j]? <;> rfl
@[simp] theorem St.env_put (k : Nat) (r : Option Row) : (st.putRow k r).env = st.env := rfl
@[simp] theorem St.env_map (φ : At → At) : (st.map φ).env = st.env.map (SV.map φ) := rfl
@[simp] theorem Row.sh_map (φ : At → At) (r : Row) : (r.map φ).sh = r.sh := by cases r <;> rfl
@[simp] theorem St.sh_map (φ : At → At) : (st.map φ).sh = st.sh := by
  funext j; simp only [St.sh, St.row_map, Option.map_map]; cases st.row j <;> simp
theorem St.sh_put (k : Nat) (r : Option Row) (j : Nat) : (st.putRow k r).sh j = if j = k then r.map Row.sh else st.sh j := by
  unfold St.sh; rw [St.row_put]; split <;> rfl
theorem St.row_kill (k j : Nat) : (st.kill k).row j = if j = k then none else (st.row j).map (Row.map (At.kill k)) := by simp [St.kill]
theorem St.sh_kill (k j : Nat) : (st.kill k).sh j = if j = k then none else st.sh j := by
  rw [St.kill, St.sh_put]; simp
theorem St.env_kill (k : Nat) : (st.kill k).env = st.env.map (SV.map (At.kill k)) := rfl
end
theorem At.kill_or (k : Nat) (x : At) : At.kill k x = x ∨ At.kill k x = .U := by
  cases x <;> dsimp only [At.kill] <;> first | exact .inl rfl | (split <;> first | exact .inr rfl | exact .inl rfl)
theorem At.kill_uses {k j : Nat} {x : At} (h : (At.kill k x).uses j) : x.uses j ∧ j ≠ k := by
  cases x <;> dsimp only [At.kill] at h <;> first | exact h.elim | (split at h <;> first | exact h.elim | (refine ⟨h, ?_⟩; rintro rfl; simp_all [At.uses]))
structure Lift (C : Cx) (N N' : Nm) (sh sh' : Nat → Option Sh) (w w' : World) (Q : Nat → Prop) (φ : At → At) : Prop where
  rep : ∀ x cs, (∀ j, x.uses j → Q j) → RepA C N sh w x cs → RepA C N' sh' w' (φ x) cs
  agg : ∀ x, (φ x).isU = false → (φ x).agg C.T = x.agg C.T ∧ x.isU = false ∧ ∀ t, x.tyAt C.T t → (φ x).tyAt C.T t
  u : φ .U = .U
section
variable {C : Cx} {N N' : Nm} {sh sh' : Nat → Option Sh} {w w' : World} {Q : Nat → Prop} {φ : At → At}
theorem Lift.g (L : Lift C N N' sh sh' w w' Q φ) {t : TypeId} {l : List At} {cs : List Value} (hq : ∀ j, (∃ x ∈ l, x.uses j) → Q j) (h : RepG C N sh w t l cs) : RepG C N' sh' w' t (l.map φ) cs := by
  obtain ⟨fs, h1, h2, h3, h4, h5⟩ := h
  refine ⟨fs, h1, by simp [h2], h3, h4, fun j hj => ?_⟩
  rw [List.length_map] at hj
  have e : (l.map φ).getD j .U = φ (l.getD j .U) := by rw [← getD_map φ l j .U, L.u]
  rw [e]
  refine ⟨L.rep _ _ (fun k hk => hq k ⟨_, getD_mem hj, hk⟩) (h5 j hj).1, fun hu => ?_⟩
  obtain ⟨e1, e2, e3⟩ := L.agg _ hu
  exact e3 _ ((h5 j hj).2 e2)
theorem Lift.v1 (L : Lift C N N' sh sh' w w' Q φ) {t : TypeId} {c : V1} {cs : List Value} (hq : ∀ j, c.uses j → Q j) (h : RepV1 C N sh w t c cs) : RepV1 C N' sh' w' t (c.map φ) cs := by
  cases c with
  | a x =>
    obtain ⟨h1, h2, h3⟩ := h
    exact ⟨L.rep _ _ hq h1, fun hu => by obtain ⟨e1, e2, e3⟩ := L.agg _ hu; exact e3 _ (h2 e2), h3⟩
  | g t' l => exact ⟨h.1, L.g hq h.2⟩
theorem Lift.slotV (L : Lift C N N' sh sh' w w' Q φ) {c : V1} {v : Value} (hq : ∀ j, c.uses j → Q j) (h : SlotV C N sh w c v) : SlotV C N' sh' w' (c.map φ) v := by
  cases c with
  | a x =>
    intro hu
    obtain ⟨e1, e2, _⟩ := L.agg _ hu
    obtain ⟨cs, h1, h2⟩ := h e2
    exact ⟨cs, L.rep _ _ hq h1, by rw [e1]; exact h2⟩
  | g t l => obtain ⟨cs, h1, h2⟩ := h; exact ⟨cs, L.g hq h1, h2⟩
theorem Lift.slot (L : Lift C N N' sh sh' w w' Q φ) {c : SV} {v : Value} (hq : ∀ j, c.uses j → Q j) (h : Slot C N sh w c v) : Slot C N' sh' w' (c.map φ) v := by
  cases c with
  | v x => exact L.slotV hq h
  | tup l =>
    obtain ⟨vs, h1, h2, h3⟩ := h
    refine ⟨vs, h1, by simp [h2], fun i hi => ?_⟩
    rw [List.length_map] at hi
    have e : (l.map (V1.map φ)).getD i (.a .U) = (l.getD i (.a .U)).map φ := by rw [← getD_map (V1.map φ) l i (.a .U)]; simp only [V1.map, L.u]
    show SlotV C N' sh' w' ((l.map (V1.map φ)).getD i (.a .U)) _
    rw [e]
    exact L.slotV (fun k hk => hq k ⟨_, getD_mem hi, hk⟩) (h3 i hi)
theorem ownsRow_block {w w' : World} {base : Nat} {e : TypeId} {size : Nat} {v : Value} {n : Nat} {xs : List Value} (h : w.ownsRow base e size v n xs) (hb : ∀ b, blk v = some b → w'.heap[b]? = w.heap[b]?) : w'.ownsRow base e size v n xs := by
  refine ⟨h.1, ?_⟩
  rcases h.2 with h2 | ⟨g, cap, cur, rfl, hg, hh, r⟩
  · exact .inl h2
  · exact .inr ⟨g, cap, cur, rfl, hg, by rw [hb g rfl]; exact hh, r⟩
theorem Lift.row (L : Lift C N N' sh sh' w w' Q φ) (hE : ∀ p b, C.E N p b → C.E N' p b) (hw : ∀ p b, C.E N p b → w'.heap[b]? = w.heap[b]?) {k : Nat} {r : Row} (hβ : N'.β k = N.β k) (hb : ∀ b, blk (N.β k) = some b → w'.heap[b]? = w.heap[b]?)
    (hq : ∀ j, r.uses j → Q j) (h : RowOk C N sh w k r) : RowOk C N' sh' w' k (r.map φ) := by
  cases r with
  | box x t own c =>
    obtain ⟨b, cs, h1, h2, h3, h4, h5⟩ := h
    exact ⟨b, cs, by rw [hβ]; exact h1, by rw [hb b (by rw [h1]; rfl)]; exact h2, L.v1 hq h3, h4, fun hx => by rw [hβ]; exact h5 hx⟩
  | arr p e l =>
    obtain ⟨h1, h2, cf, h3, h4⟩ := h
    exact ⟨h1, h2, cf, fun i hi => (h3 i hi).mono (hE p) (hw p), by rw [hβ]; exact ownsRow_block h4 hb⟩
theorem Lift.keep (hE : ∀ p b, C.E N p b → C.E N' p b) (hw : ∀ p b, C.E N p b → w'.heap[b]? = w.heap[b]?) (hφ : ∀ x, φ x = x ∨ φ x = .U) (hu : ∀ k x, (φ x).uses k → N'.β k = N.β k ∧ sh' k = sh k) : Lift C N N' sh sh' w w' (fun _ => True) φ := by
  refine ⟨fun x cs _ h => ?_, fun x hx => ?_, ?_⟩
  · rcases hφ x with e | e
    · rw [e]; exact h.mono hE hw (fun k hk => hu k x (by rw [e]; exact hk))
    · rw [e]; trivial
  · rcases hφ x with e | e
    · rw [e] at hx ⊢; exact ⟨rfl, hx, fun _ h => h⟩
    · rw [e] at hx; cases hx
  · rcases hφ .U with e | e <;> exact e
end
theorem SV.map_id (x : SV) : x.map (fun a => a) = x := by
  have h : ∀ y : V1, y.map (fun a => a) = y := fun y => by cases y <;> simp [V1.map]
  cases x with
  | v y => simp [SV.map, h]
  | tup l => simp [SV.map, h]
theorem U_map (φ : At → At) (h : φ .U = .U) : U.map φ = U := by simp [U, SV.map, V1.map, h]
section
variable {C : Cx} {N N' : Nm} {st st' : St} {a : Act} {w w' : World} {φ : At → At} {Q : Nat → Prop}
theorem Rel.lift (h : Rel C N st a w) (L : Lift C N N' st.sh st'.sh w w' Q φ) (henv : st'.env = st.env.map (SV.map φ)) (hq : ∀ i j, (st.env.getD i U).uses j → Q j)
    (hrows : ∀ k r', st'.row k = some r' → RowOk C N' st'.sh w' k r') (frm : Frm C N' st' w') : Rel C N' st' a w' where
  len := by rw [henv, List.length_map]; exact h.len
  dfr := h.dfr
  slots := fun i => by rw [henv, ← U_map φ L.u, getD_map]; exact L.slot (hq i) (h.slots i)
  rows := hrows
  frm := frm
theorem Rel.kill (h : Rel C N st a w) (k : Nat) : Rel C N (st.kill k) a w := by
  have L : Lift C N N st.sh (st.kill k).sh w w (fun _ => True) (At.kill k) := Lift.keep (fun _ _ h => h) (fun _ _ _ => rfl) (At.kill_or k) (fun j x hj => ⟨rfl, by rw [St.sh_kill, if_neg (At.kill_uses hj).2]⟩)
  refine h.lift L rfl (fun _ _ _ => trivial) (fun j r' hr => ?_) ?_
  · rw [St.row_kill] at hr
    split at hr
    · cases hr
    · obtain ⟨r, h1, rfl⟩ := Option.map_eq_some_iff.1 hr
      exact L.row (fun _ _ h => h) (fun _ _ _ => rfl) rfl (fun _ _ => rfl) (fun _ _ => trivial) (h.rows j r h1)
  · have key : ∀ j, ((st.kill k).row j).isSome → (st.row j).isSome := fun j hj => by
      rw [St.row_kill] at hj; split at hj
      · cases hj
      · simpa using hj
    exact { h.frm with own := fun j b hj hb => h.frm.own j b (key j hj) hb, sep := fun j j' b h1 h2 h3 h4 => h.frm.sep j j' b (key j h1) (key j' h2) h3 h4 }
theorem Rel.set (h : Rel C N st a w) {d : Option Tmp} {x : SV} {v : Value} (hx : Slot C N st.sh w x v) : Rel C N (st.set d x) (a.put d v) w := by
  cases d with
  | none => exact h
  | some d =>
    refine ⟨?_, h.dfr, fun i => ?_, h.rows, ⟨h.frm.own, h.frm.sep, h.frm.fz, h.frm.frame, h.frm.os, h.frm.tape, h.frm.output, h.frm.size⟩⟩
    · simp [St.set, Act.put, h.len]
    · show Slot C N st.sh w ((st.env.set d x).getD i U) ((a.tmps.setIfInBounds d v).getD i undef)
      by_cases e : d = i
      · subst e
        by_cases hd : d < st.env.length
        · have hd2 : d < a.tmps.size := by rw [h.len]; exact hd
          have e1 : (st.env.set d x).getD d U = x := by simp [List.getD, hd]
          have e2 : (a.tmps.setIfInBounds d v).getD d undef = v := by simp [Array.getD, hd2]
          rw [e1, e2]; exact hx
        · have e1 : (st.env.set d x).getD d U = st.env.getD d U := by rw [List.set_eq_of_length_le (Nat.le_of_not_lt hd)]
          have e2 : (a.tmps.setIfInBounds d v) = a.tmps := Array.setIfInBounds_eq_of_size_le (by rw [h.len]; exact Nat.le_of_not_lt hd)
          rw [e1, e2]; exact h.slots d
      · have e1 : (st.env.set d x).getD i U = st.env.getD i U := by simp [List.getD, List.getElem?_set, e]
        have e2 : (a.tmps.setIfInBounds d v).getD i undef = a.tmps.getD i undef := by simp [Array.getD_eq_getD_getElem?, Array.getElem?_setIfInBounds, e]
        rw [e1, e2]; exact h.slots i
theorem Rel.elt (ok : C.Ok) (h : Rel C N st a w) {p b : Nat} (hb : C.E N p b) : b < w.heap.size := by
  rcases hb with hb | hb
  · exact Nat.lt_of_lt_of_le (ok.lt p b hb).1 h.frm.size
  · exact (h.frm.fz b hb).2
theorem Rel.eown (ok : C.Ok) (h : Rel C N st a w) {p b k : Nat} (hk : (st.row k).isSome) (hb : blk (N.β k) = some b) : ¬ C.E N p b := by
  obtain ⟨h1, h2, _⟩ := h.frm.own k b hk hb
  rintro (he | he)
  · obtain ⟨h3, h4⟩ := ok.lt p b he
    rcases h1 with h1 | h1
    · exact h4 h1
    · omega
  · exact h2 he
theorem Rel.grow (ok : C.Ok) (h : Rel C N st a w) (hb : Below w.heap.size w w') : Rel C N st a w' := by
  have L : Lift C N N st.sh st.sh w w' (fun _ => True) (fun x => x) := Lift.keep (fun _ _ h => h) (fun p b he => hb.block b (h.elt ok he)) (fun x => .inl rfl) (fun _ _ _ => ⟨rfl, rfl⟩)
  have em : st.env = st.env.map (SV.map fun x => x) := by rw [show SV.map (fun x => x) = id from funext SV.map_id, List.map_id]
  refine h.lift L em (fun _ _ _ => trivial) (fun k r hr => ?_) ?_
  · have := L.row (fun _ _ h => h) (fun p b he => hb.block b (h.elt ok he)) rfl (fun b hb2 => hb.block b (h.frm.own k b (by rw [hr]; rfl) hb2).2.2) (fun _ _ => trivial) (h.rows k r hr)
    rwa [show r.map (fun x => x) = r by cases r with | box x t o c => (cases c <;> simp [Row.map, V1.map]) | arr p e l => rfl] at this
  · exact { own := fun k b h1 h2 => by obtain ⟨x, y, z⟩ := h.frm.own k b h1 h2; exact ⟨x, y, Nat.lt_of_lt_of_le z hb.size⟩
            sep := h.frm.sep
            fz := fun b hz => ⟨(h.frm.fz b hz).1, Nat.lt_of_lt_of_le (h.frm.fz b hz).2 hb.size⟩
            frame := fun b h1 h2 => (hb.block b (Nat.lt_of_lt_of_le h1 h.frm.size)).trans (h.frm.frame b h1 h2)
            os := hb.os.trans h.frm.os
            tape := hb.tape.trans h.frm.tape
            output := hb.output.trans h.frm.output
            size := Nat.le_trans h.frm.size hb.size }
def Free (st : St) (k : Nat) : Prop := st.row k = none ∧ (∀ i, ¬ (st.env.getD i U).uses k) ∧ ∀ j r, st.row j = some r → ¬ r.uses k
theorem V1.map_uses {φ : At → At} {k : Nat} {c : V1} (h : (c.map φ).uses k) : ∃ x, (φ x).uses k := by
  cases c with
  | a x => exact ⟨x, h⟩
  | g t l => obtain ⟨y, hy, hu⟩ := h; obtain ⟨x, _, rfl⟩ := List.mem_map.1 hy; exact ⟨x, hu⟩
theorem SV.map_uses {φ : At → At} {k : Nat} {c : SV} (h : (c.map φ).uses k) : ∃ x, (φ x).uses k := by
  cases c with
  | v x => exact V1.map_uses h
  | tup l => obtain ⟨y, hy, hu⟩ := h; obtain ⟨x, _, rfl⟩ := List.mem_map.1 hy; exact V1.map_uses hu
theorem Row.map_uses {φ : At → At} {k : Nat} {r : Row} (h : (r.map φ).uses k) : ∃ x, (φ x).uses k := by
  cases r with
  | box x t o c => exact V1.map_uses h
  | arr p e l => exact h.elim
theorem St.kill_free (st : St) (k : Nat) : Free (st.kill k) k := by
  refine ⟨by rw [St.row_kill, if_pos rfl], fun i h => ?_, fun j r hr h => ?_⟩
  · rw [St.env_kill, ← U_map (At.kill k) rfl, getD_map] at h
    obtain ⟨x, hx⟩ := SV.map_uses h
    exact (At.kill_uses hx).2 rfl
  · rw [St.row_kill] at hr
    split at hr
    · cases hr
    · obtain ⟨r0, h1, rfl⟩ := Option.map_eq_some_iff.1 hr
      obtain ⟨x, hx⟩ := Row.map_uses h
      exact (At.kill_uses hx).2 rfl
def Nm.upd (N : Nm) (k : Nat) (v : Value) : Nm := { N with β := fun j => if j = k then v else N.β j }
theorem Rel.new (ok : C.Ok) (h : Rel C N st a w) {k : Nat} (hf : Free st k) {v : Value} {r : Row} (hr : RowOk C (N.upd k v) (st.putRow k (some r)).sh w k r)
    (hb : ∀ b, blk v = some b → (C.X b ∨ C.w0.heap.size ≤ b) ∧ ¬ N.Fz b ∧ b < w.heap.size ∧ ∀ j, (st.row j).isSome → blk (N.β j) ≠ some b) : Rel C (N.upd k v) (st.putRow k (some r)) a w := by
  have L : Lift C N (N.upd k v) st.sh (st.putRow k (some r)).sh w w (fun j => j ≠ k) (fun x => x) := by
    refine ⟨fun x cs hq hx => ?_, fun x hx => ⟨rfl, hx, fun _ h => h⟩, rfl⟩
    refine RepA.mono (N := N) (N' := N.upd k v) (sh := st.sh) (fun _ _ h => h) (fun _ _ _ => rfl) (fun j hj => ?_) hx
    have := hq j hj
    exact ⟨by simp [Nm.upd, this], by rw [St.sh_put, if_neg this]⟩
  have em : (st.putRow k (some r)).env = st.env.map (SV.map fun x => x) := by rw [show SV.map (fun x => x) = id from funext SV.map_id, List.map_id]; rfl
  have hz : ∀ j, ((st.putRow k (some r)).row j).isSome → j ≠ k → (st.row j).isSome := fun j hj e => by rw [St.row_put, if_neg e] at hj; exact hj
  refine h.lift L em (fun i j hj e => hf.2.1 i (e ▸ hj)) (fun j r' hr' => ?_) ?_
  · rw [St.row_put] at hr'
    split at hr'
    · rename_i e; subst e; cases hr'; exact hr
    · rename_i e
      have h1 := L.row (fun _ _ h => h) (fun _ _ _ => rfl) (k := j) (by simp [Nm.upd, e]) (fun _ _ => rfl) (fun i hi e2 => hf.2.2 j r' hr' (e2 ▸ hi)) (h.rows j r' hr')
      rwa [show r'.map (fun x => x) = r' by cases r' with | box x t o c => (cases c <;> simp [Row.map, V1.map]) | arr p e l => rfl] at h1
  · refine { h.frm with own := fun j b h1 h2 => ?_, sep := fun j j' b h1 h2 h3 h4 => ?_ }
    · by_cases e : j = k
      · subst e; simp only [Nm.upd, if_true] at h2; obtain ⟨x, y, z, _⟩ := hb b h2; exact ⟨x, y, z⟩
      · simp only [Nm.upd, if_neg e] at h2; exact h.frm.own j b (hz j h1 e) h2
    · by_cases e : j = k <;> by_cases e' : j' = k
      · rw [e, e']
      · subst e; simp only [Nm.upd, if_true, if_neg e'] at h3 h4; exact absurd h4 ((hb b h3).2.2.2 j' (hz j' h2 e'))
      · subst e'; simp only [Nm.upd, if_true, if_neg e] at h3 h4; exact absurd h3 ((hb b h4).2.2.2 j (hz j h1 e))
      · simp only [Nm.upd, if_neg e, if_neg e'] at h3 h4; exact h.frm.sep j j' b (hz j h1 e) (hz j' h2 e') h3 h4
end
end Go.Ev
end
section
set_option linter.unusedVariables false
set_option linter.unusedSimpArgs false
namespace Go.Ev
open Go.RowKit
def splice {α : Type} (cs : List α) (o : Nat) (ds : List α) : List α := cs.take o ++ ds ++ cs.drop (o + ds.length)
theorem splice_length {α : Type} {cs : List α} {o : Nat} {ds : List α} (h : o + ds.length ≤ cs.length) : (splice cs o ds).length = cs.length := by
  simp only [splice, List.length_append, List.length_take, List.length_drop]; omega
theorem splice_get {α : Type} {cs : List α} {o : Nat} {ds : List α} (h : o + ds.length ≤ cs.length) (i : Nat) : (splice cs o ds)[i]? = if o ≤ i ∧ i < o + ds.length then ds[i - o]? else cs[i]? := by
  have hl : (cs.take o).length = o := by rw [List.length_take]; omega
  unfold splice
  by_cases h1 : i < o
  · rw [if_neg (by omega), List.append_assoc, List.getElem?_append_left (by omega), List.getElem?_take, if_pos h1]
  · by_cases h2 : i < o + ds.length
    · rw [if_pos ⟨by omega, h2⟩, List.append_assoc, List.getElem?_append_right (by omega), hl, List.getElem?_append_left (by omega)]
    · rw [if_neg (by omega), List.getElem?_append_right (by rw [List.length_append, hl]; omega), List.getElem?_drop, List.length_append, hl]
      congr 1
      omega
theorem window_get {α : Type} (cs : List α) (o n i : Nat) : ((cs.drop o).take n)[i]? = if i < n then cs[o + i]? else none := by
  rw [List.getElem?_take, List.getElem?_drop]
theorem flat_get {cf : Nat → List Value} {z : Nat} : ∀ {n i j : Nat}, (∀ i, i < n → (cf i).length = z) → i < n → j < z → ((List.range n).flatMap cf)[i * z + j]? = (cf i)[j]? := by
  intro n
  induction n with
  | zero => intro i j _ hi; omega
  | succ n ih =>
    intro i j hl hi hj
    have hlen : ((List.range n).flatMap cf).length = n * z := by
      clear ih hi
      have : ∀ m, m ≤ n → ((List.range m).flatMap cf).length = m * z := by
        intro m
        induction m with
        | zero => intro _; simp
        | succ m ih => intro hm; rw [List.range_succ, List.flatMap_append, List.length_append, ih (by omega)]; simp [hl m (by omega), Nat.succ_mul]
      exact this n (Nat.le_refl n)
    rw [List.range_succ, List.flatMap_append]
    by_cases h : i < n
    · have hlt : i * z + j < n * z := by
        have := Nat.mul_le_mul_right z (show i + 1 ≤ n by omega)
        rw [Nat.succ_mul] at this; omega
      rw [List.getElem?_append_left (by omega)]
      exact ih (fun k hk => hl k (by omega)) h hj
    · obtain rfl : i = n := by omega
      rw [List.getElem?_append_right (by omega), hlen]
      simp
theorem flat_length {cf : Nat → List Value} {z n : Nat} (hl : ∀ i, i < n → (cf i).length = z) : ((List.range n).flatMap cf).length = n * z := by
  have : ∀ m, m ≤ n → ((List.range m).flatMap cf).length = m * z := by
    intro m
    induction m with
    | zero => intro _; simp
    | succ m ih => intro hm; rw [List.range_succ, List.flatMap_append, List.length_append, ih (by omega)]; simp [hl m (by omega), Nat.succ_mul]
  exact this n (Nat.le_refl n)
section
variable {T : Tab} {P : Program} {w : World} {E : Nat → Prop}
theorem pathOff_le (ok : T.Ok P) : ∀ {path : List Nat} {t o t'}, pathOff T t path = some (o, t') → o + T.sz t' ≤ T.sz t
  | [], t, o, t', h => by simp only [pathOff, Option.some.injEq, Prod.mk.injEq] at h; obtain ⟨rfl, rfl⟩ := h; omega
  | j :: p, t, o, t', h => by
    simp only [pathOff] at h
    split at h
    · rename_i fs hfs
      rw [Option.bind_eq_some_iff] at h
      obtain ⟨f, hf, h⟩ := h
      obtain ⟨⟨o', u⟩, hp, he⟩ := Option.map_eq_some_iff.1 h
      simp only [Prod.mk.injEq] at he
      obtain ⟨rfl, rfl⟩ := he
      have hj := (List.getElem?_eq_some_iff.1 hf).1
      have e : fs.getD j (0, 0) = f := by simp [List.getD, hf]
      have h1 := pathOff_le ok hp
      have h2 := (ok.tile t fs hfs j hj).2.1
      rw [e] at h2
      omega
    · cases h
theorem Rep.path (ok : T.Ok P) : ∀ {path : List Nat} {t v cs o t'}, Rep T w E t v cs → pathOff T t path = some (o, t') → Rep T w E t' (atp v path) ((cs.drop o).take (T.sz t'))
  | [], t, v, cs, o, t', h, hp => by
    simp only [pathOff, Option.some.injEq, Prod.mk.injEq] at hp
    obtain ⟨rfl, rfl⟩ := hp
    rw [List.drop_zero, List.take_of_length_le (by rw [h.len ok]; omega)]
    exact h
  | j :: p, t, v, cs, o, t', h, hp => by
    simp only [pathOff] at hp
    split at hp
    · rename_i fs hfs
      rw [Option.bind_eq_some_iff] at hp
      obtain ⟨f, hf, hp⟩ := hp
      obtain ⟨⟨o', u⟩, hq, he⟩ := Option.map_eq_some_iff.1 hp
      simp only [Prod.mk.injEq] at he
      obtain ⟨rfl, rfl⟩ := he
      have hj := (List.getElem?_eq_some_iff.1 hf).1
      have e : fs.getD j (0, 0) = f := by simp [List.getD, hf]
      cases h with
      | agg h hl hc h1 hr =>
        rw [hfs] at h; cases h
        have h2 := hr j (by omega)
        rw [e] at h2
        have h3 := Rep.path ok h2 hq
        have hle := pathOff_le ok hq
        have e2 : ((((cs.drop f.2).take (T.sz f.1)).drop o').take (T.sz u)) = (cs.drop (f.2 + o')).take (T.sz u) := by
          apply List.ext_getElem?
          intro i
          rw [window_get, window_get, window_get]
          by_cases hi : i < T.sz u
          · rw [if_pos hi, if_pos hi, if_pos (by omega), Nat.add_assoc]
          · rw [if_neg hi, if_neg hi]
        rw [e2] at h3
        exact h3
      | _ => simp_all
    · cases hp
theorem Rep.put (ok : T.Ok P) : ∀ {path : List Nat} {t v cs o t' x ds}, Rep T w E t v cs → pathOff T t path = some (o, t') → Rep T w E t' x ds → Rep T w E t (putp v path x) (splice cs o ds)
  | [], t, v, cs, o, t', x, ds, h, hp, hx => by
    simp only [pathOff, Option.some.injEq, Prod.mk.injEq] at hp
    obtain ⟨rfl, rfl⟩ := hp
    have e : splice cs 0 ds = ds := by
      simp only [splice, List.take_zero, List.nil_append, Nat.zero_add]
      rw [List.drop_eq_nil_of_le (by rw [h.len ok, hx.len ok]; omega), List.append_nil]
    rw [e]; exact hx
  | j :: p, t, v, cs, o, t', x, ds, h, hp, hx => by
    have hle0 := pathOff_le ok hp
    simp only [pathOff] at hp
    split at hp
    · rename_i fs hfs
      rw [Option.bind_eq_some_iff] at hp
      obtain ⟨f, hf, hp⟩ := hp
      obtain ⟨⟨o', u⟩, hq, he⟩ := Option.map_eq_some_iff.1 hp
      simp only [Prod.mk.injEq] at he
      obtain ⟨rfl, rfl⟩ := he
      have hj := (List.getElem?_eq_some_iff.1 hf).1
      have e : fs.getD j (0, 0) = f := by simp [List.getD, hf]
      have hxl := hx.len ok
      cases h with
      | agg h hl hc h1 hr =>
        rename_i fs' l
        rw [hfs] at h; cases h
        have h2 := hr j (by omega)
        rw [e] at h2
        have h3 := Rep.put ok h2 hq hx
        have hle := pathOff_le ok hq
        have hsl : (splice cs (f.2 + o') ds).length = cs.length := splice_length (by omega)
        have hwl : ((cs.drop f.2).take (T.sz f.1)).length = T.sz f.1 := h2.len ok
        refine Rep.agg hfs (by simp [hl]) (by rw [hsl]; exact hc) (fun u hu => ?_) (fun i hi => ?_)
        · simp only [splice, List.mem_append] at hu
          rcases hu with (hu | hu) | hu
          · exact h1 u (List.mem_of_mem_take hu)
          · exact hx.one u hu
          · exact h1 u (List.mem_of_mem_drop hu)
        · rw [List.length_set] at hi
          by_cases eij : j = i
          · subst eij
            have e1 : (l.set j (putp (fld (.A l) j) p x)).getD j .N = putp (fld (.A l) j) p x := by simp [List.getD, hi]
            rw [e1, e]
            have e2 : ((splice cs (f.2 + o') ds).drop f.2).take (T.sz f.1) = splice ((cs.drop f.2).take (T.sz f.1)) o' ds := by
              apply List.ext_getElem?
              intro i
              rw [window_get, splice_get (by omega), splice_get (by omega), window_get]
              by_cases hi2 : i < T.sz f.1
              · rw [if_pos hi2, if_pos hi2]
                by_cases h4 : o' ≤ i ∧ i < o' + ds.length
                · rw [if_pos ⟨by omega, by omega⟩, if_pos h4]; congr 1; omega
                · rw [if_neg (by omega), if_neg h4]
              · rw [if_neg hi2, if_neg hi2, if_neg (by omega)]
            rw [e2]
            exact h3
          · have e1 : (l.set j (putp (fld (.A l) j) p x)).getD i .N = l.getD i .N := by simp [List.getD, List.getElem?_set, eij]
            rw [e1]
            have e2 : ((splice cs (f.2 + o') ds).drop (fs.getD i (0, 0)).2).take (T.sz (fs.getD i (0, 0)).1) = (cs.drop (fs.getD i (0, 0)).2).take (T.sz (fs.getD i (0, 0)).1) := by
              apply List.ext_getElem?
              intro q
              rw [window_get, window_get]
              by_cases hq : q < T.sz (fs.getD i (0, 0)).1
              · rw [if_pos hq, if_pos hq, splice_get (by omega), if_neg]
                have hti := ok.tile t fs hfs i (by omega)
                have htj := ok.tile t fs hfs j hj
                rw [e] at htj
                rcases Nat.lt_or_gt_of_ne eij with hlt | hlt
                · have := hti.2.2.1 j hlt; rw [e] at this; omega
                · have := htj.2.2.1 i hlt; omega
              · rw [if_neg hq, if_neg hq]
            rw [e2]
            exact hr i hi
      | _ => simp_all
    · cases hp
theorem Rep.of_owns {e t : TypeId} (ht : T.ty t = .slice e) {v : Value} {l : List IV} {cf : Nat → List Value} (ok : T.Ok P) {E' : Nat → Prop} (hE : ∀ b, E b → E' b) (hr : ∀ i, i < l.length → Rep T w E e (l.getD i .N) (cf i))
    (ho : w.ownsRow 0 e (T.sz e) v l.length ((List.range l.length).flatMap cf)) (hb : ∀ b, blk v = some b → E' b) : Rep T w E' t (.L l) [v] := by
  rcases ho.2 with ⟨rfl, hn⟩ | ⟨g, cap, cur, rfl, _, hg, hnc, _, hcs, htk⟩
  · obtain rfl := List.eq_nil_of_length_eq_zero hn
    exact .none ht (fun _ => rfl)
  · have hl : ∀ i, i < l.length → (cf i).length = T.sz e := fun i hi => (hr i hi).len ok
    refine .slice (o := 0) (cf := cf) ht (hb g rfl) hnc hl (fun i j u hi hj => ?_) (fun i hi => (hr i hi).mono hE (fun _ _ => rfl))
    have hjl := (List.getElem?_eq_some_iff.1 hj).1
    rw [hl i hi] at hjl
    have h1 := flat_get hl hi hjl
    rw [← htk, hj, List.getElem?_take] at h1
    split at h1
    · rw [Nat.zero_add, cell_of_row w g _ cur e (0, 0) hg]; simpa using h1
    · cases h1
end
end Go.Ev
end
section
set_option linter.unusedVariables false
set_option linter.unusedSimpArgs false
namespace Go.Ev
open Go.RowKit
def Nm.frz (N : Nm) (k : Nat) : Nm := { N with Fz := fun b => N.Fz b ∨ blk (N.β k) = some b }
section
variable {C : Cx} {N N' : Nm} {st st' : St} {a : Act} {w w' : World}
theorem At.ren_self {k k' : Nat} {x : At} (h : ¬ x.uses k) : At.ren k k' x = x := by
  cases x <;> dsimp only [At.ren] <;> first | rfl | exact if_neg h
theorem Rel.ext (h : Rel C N st a w) (he : N'.β = N.β) (hz : N'.Fz = N.Fz) : Rel C N' st a w := by
  have : N' = N := by cases N; cases N'; simp_all
  rw [this]; exact h
theorem Rel.move (ok : C.Ok) (h : Rel C N st a w) {k k' p e : Nat} {l : List IV} (hr : st.row k = some (.arr p e l)) : Rel C (N.upd k' (N.β k)) (st.moveRow k k') a w := by
  unfold St.moveRow
  by_cases hk : k = k'
  · subst hk
    rw [if_pos rfl]
    exact h.ext (funext fun j => by simp only [Nm.upd]; split <;> simp_all) rfl
  rw [if_neg hk, hr]
  simp only
  have h1 := h.kill k'
  have hfree := St.kill_free st k'
  have hr1 : (st.kill k').row k = some (.arr p e l) := by rw [St.row_kill, if_neg hk, hr]; rfl
  generalize hs1 : st.kill k' = s1 at h1 hfree hr1
  have hN : ∀ j, j ≠ k' → (N.upd k' (N.β k)).β j = N.β j := fun j hj => by simp [Nm.upd, hj]
  have hNk : (N.upd k' (N.β k)).β k' = N.β k := by simp [Nm.upd]
  have henv : ((((s1.map (At.ren k k')).putRow k none).putRow k' (some (.arr p e l)))).env = s1.env.map (SV.map (At.ren k k')) := rfl
  have hrow : ∀ j, ((((s1.map (At.ren k k')).putRow k none).putRow k' (some (.arr p e l)))).row j = if j = k' then some (.arr p e l) else if j = k then none else (s1.row j).map (Row.map (At.ren k k')) := by
    intro j; simp
  have hsh : ∀ j, ((((s1.map (At.ren k k')).putRow k none).putRow k' (some (.arr p e l)))).sh j = if j = k' then some (.arr e) else if j = k then none else s1.sh j := by
    intro j; rw [St.sh_put, St.sh_put, St.sh_map]; rfl
  generalize (((s1.map (At.ren k k')).putRow k none).putRow k' (some (.arr p e l))) = s2 at hrow hsh henv ⊢
  have hsk : s1.sh k = some (.arr e) := by rw [St.sh, hr1]; rfl
  have L : Lift C N (N.upd k' (N.β k)) s1.sh s2.sh w w (fun j => j ≠ k') (At.ren k k') := by
    refine ⟨fun x cs hq hx => ?_, fun x hx => ?_, rfl⟩
    · by_cases hu : x.uses k
      · cases x with
        | own i =>
          obtain rfl : i = k := hu
          rw [show At.ren i k' (.own i) = .own k' by simp [At.ren]]
          exact ⟨by rw [hNk]; exact hx.1, e, by rw [hsh, if_pos rfl]⟩
        | sub i n =>
          obtain rfl : i = k := hu
          rw [show At.ren i k' (.sub i n) = .sub k' n by simp [At.ren]]
          exact ⟨by rw [hNk]; exact hx.1, e, by rw [hsh, if_pos rfl]⟩
        | ptr i q u =>
          obtain rfl : i = k := hu
          rw [show At.ren i k' (.ptr i q u) = .ptr k' q u by simp [At.ren]]
          obtain ⟨b, off, s, h3, h4, h5, h6⟩ := hx
          rw [hsk] at h3
          cases h3
          exact ⟨b, off, _, by rw [hsh, if_pos rfl], h4, by rw [hNk]; exact h5, h6⟩
        | fn f caps => rw [show At.ren k k' (.fn f caps) = .U by simp only [At.ren]; exact if_pos hu]; trivial
        | _ => exact hu.elim
      · rw [At.ren_self hu]
        refine RepA.mono (N := N) (N' := N.upd k' (N.β k)) (sh := s1.sh) (fun _ _ h => h) (fun _ _ _ => rfl) (fun j hj => ?_) hx
        have e1 : j ≠ k' := hq j hj
        have e2 : j ≠ k := fun e => hu (e ▸ hj)
        exact ⟨hN j e1, by rw [hsh, if_neg e1, if_neg e2]⟩
    · cases x <;> dsimp only [At.ren] at hx ⊢ <;> first | exact ⟨rfl, hx, fun _ h => h⟩ | (split at hx <;> rename_i e3 <;> first | (rw [if_pos e3]; exact ⟨rfl, rfl, fun _ h => h⟩) | (rw [if_neg e3]; exact ⟨rfl, rfl, fun _ h => h⟩) | cases hx)
  have hz : ∀ j, (s2.row j).isSome → j ≠ k' → (s1.row j).isSome ∧ j ≠ k := fun j hj e1 => by
    rw [hrow, if_neg e1] at hj
    split at hj
    · cases hj
    · rename_i e2; exact ⟨by simpa using hj, e2⟩
  refine h1.lift L henv (fun i j hj e1 => hfree.2.1 i (e1 ▸ hj)) (fun j r' hr' => ?_) ?_
  · rw [hrow] at hr'
    split at hr'
    · rename_i e1; subst e1; cases hr'
      obtain ⟨q1, q2, cf, q3, q4⟩ := h1.rows k _ hr1
      exact ⟨q1, q2, cf, q3, by rw [hNk]; exact q4⟩
    · rename_i e1
      split at hr'
      · cases hr'
      · obtain ⟨r0, h3, rfl⟩ := Option.map_eq_some_iff.1 hr'
        exact L.row (fun _ _ h => h) (fun _ _ _ => rfl) (hN j e1) (fun _ _ => rfl) (fun i hi e2 => hfree.2.2 j r0 h3 (e2 ▸ hi)) (h1.rows j r0 h3)
  · refine { h1.frm with own := fun j b h2 h3 => ?_, sep := fun j j' b h2 h3 h4 h5 => ?_ }
    · by_cases e1 : j = k'
      · subst e1; rw [hNk] at h3; exact h1.frm.own k b (by rw [hr1]; rfl) h3
      · rw [hN j e1] at h3; exact h1.frm.own j b (hz j h2 e1).1 h3
    · by_cases e1 : j = k' <;> by_cases e2 : j' = k'
      · rw [e1, e2]
      · subst e1; rw [hNk] at h4; rw [hN j' e2] at h5
        exact absurd (h1.frm.sep k j' b (by rw [hr1]; rfl) (hz j' h3 e2).1 h4 h5) (fun e3 => (hz j' h3 e2).2 e3.symm)
      · subst e2; rw [hNk] at h5; rw [hN j e1] at h4
        exact absurd (h1.frm.sep k j b (by rw [hr1]; rfl) (hz j h2 e1).1 h5 h4) (fun e3 => (hz j h2 e1).2 e3.symm)
      · rw [hN j e1] at h4; rw [hN j' e2] at h5; exact h1.frm.sep j j' b (hz j h2 e1).1 (hz j' h3 e2).1 h4 h5
theorem Rel.freeze (ok : C.Ok) (h : Rel C N st a w) {k p e t : Nat} {l : List IV} (hr : st.row k = some (.arr p e l)) (ht : C.T.ty t = .slice e) :
    Rel C (N.frz k) (st.kill k) a w ∧ Rep C.T w (C.E (N.frz k) p) t (.L l) [N.β k] := by
  have h1 := h.kill k
  have hE : ∀ p b, C.E N p b → C.E (N.frz k) p b := fun p b hb => hb.imp id .inl
  constructor
  · have L : Lift C N (N.frz k) (st.kill k).sh (st.kill k).sh w w (fun _ => True) (fun x => x) := Lift.keep hE (fun _ _ _ => rfl) (fun x => .inl rfl) (fun _ _ _ => ⟨rfl, rfl⟩)
    have em : (st.kill k).env = (st.kill k).env.map (SV.map fun x => x) := by rw [show SV.map (fun x => x) = id from funext SV.map_id, List.map_id]
    refine h1.lift L em (fun _ _ _ => trivial) (fun j r' hr' => ?_) ?_
    · have h2 := L.row hE (fun _ _ _ => rfl) (k := j) rfl (fun _ _ => rfl) (fun _ _ => trivial) (h1.rows j r' hr')
      rwa [show r'.map (fun x => x) = r' by cases r' with | box x t o c => (cases c <;> simp [Row.map, V1.map]) | arr p e l => rfl] at h2
    · refine { h1.frm with own := fun j b h2 h3 => ?_, fz := fun b hb => ?_ }
      · obtain ⟨x, y, z⟩ := h1.frm.own j b h2 h3
        have e1 : j ≠ k := fun e => by rw [e, St.row_kill, if_pos rfl] at h2; cases h2
        have h4 : (st.row j).isSome := by rw [St.row_kill, if_neg e1] at h2; simpa using h2
        refine ⟨x, fun hz => ?_, z⟩
        rcases hz with hz | hz
        · exact y hz
        · exact e1 (h.frm.sep j k b h4 (by rw [hr]; rfl) h3 hz)
      · rcases hb with hb | hb
        · exact h1.frm.fz b hb
        · obtain ⟨x, _, z⟩ := h.frm.own k b (by rw [hr]; rfl) hb; exact ⟨x, z⟩
  · obtain ⟨q1, q2, cf, q3, q4⟩ := h.rows k _ hr
    exact Rep.of_owns ht ok.tab (hE p) q3 q4 (fun b hb => .inr (.inr hb))
def Nm.le (C : Cx) (N N' : Nm) : Prop := ∀ b, N.Fz b → N'.Fz b
theorem Nm.le.refl {C : Cx} (N : Nm) : Nm.le C N N := fun _ h => h
theorem Nm.le.trans {C : Cx} {N N' N2 : Nm} (h : Nm.le C N N') (h2 : Nm.le C N' N2) : Nm.le C N N2 := fun b hb => h2 b (h b hb)
theorem Nm.le.E {C : Cx} {N N' : Nm} (h : Nm.le C N N') : ∀ p b, C.E N p b → C.E N' p b := fun _ _ hb => hb.imp id (h _)
theorem freeze1_sound (ok : C.Ok) (h : Rel C N st a w) {t : TypeId} {x y : At} {cs : List Value} (hx : RepA C N st.sh w x cs) (hs : st.freeze1 C.T t x = some (st', y)) :
    ∃ N', Rel C N' st' a w ∧ RepA C N' st'.sh w y cs ∧ (Nm.le C N N' ∧ N'.β = N.β) ∧ y.isOwn = false ∧ (x.isOwn = false → x ≠ .nil → st' = st ∧ y = x) ∧ (x.isOwn = true → (∃ p v, y = .iv p t v) ∧ ∃ e, C.T.ty t = .slice e) ∧ (x = .nil → y = .iv 2 t .N ∧ st' = st ∧ ∃ e, C.T.ty t = .slice e) := by
  cases x with
  | own k =>
    simp only [St.freeze1] at hs
    split at hs
    · rename_i e p e' l ht hr
      split at hs
      · rename_i he
        subst he
        simp only [Option.some.injEq, Prod.mk.injEq] at hs
        obtain ⟨rfl, rfl⟩ := hs
        obtain ⟨h1, h2⟩ := h.freeze ok hr ht
        refine ⟨_, h1, ?_, ⟨fun b hb => .inl hb, rfl⟩, rfl, fun h => (by cases h), fun _ => ⟨⟨_, _, rfl⟩, _, ht⟩, fun h => (by cases h)⟩
        show Rep _ _ _ _ _ _
        rw [hx.1]; exact h2
      · cases hs
    · cases hs
  | nil =>
    simp only [St.freeze1] at hs
    split at hs
    · rename_i e ht
      simp only [Option.some.injEq, Prod.mk.injEq] at hs
      obtain ⟨rfl, rfl⟩ := hs
      refine ⟨N, h, ?_, ⟨fun b hb => hb, rfl⟩, rfl, fun _ h => absurd rfl h, fun h => (by cases h), fun _ => ⟨rfl, rfl, _, ht⟩⟩
      have : cs = [.slice none 0 0] := hx
      rw [this]; exact .nil ht
    · cases hs
  | sub k n => simp [St.freeze1] at hs
  | _ =>
    simp only [St.freeze1, Option.some.injEq, Prod.mk.injEq] at hs
    obtain ⟨rfl, rfl⟩ := hs
    exact ⟨N, h, hx, ⟨fun b hb => hb, rfl⟩, rfl, fun _ _ => ⟨rfl, rfl⟩, fun h => (by cases h), fun h => (by cases h)⟩
end
end Go.Ev
end
section
set_option linter.unusedVariables false
set_option linter.unusedSimpArgs false
namespace Go.Ev
open Go.RowKit
section
variable {C : Cx} {N N' : Nm} {st st' : St} {a : Act} {w w' : World}
theorem Rel.push (h : Rel C N st a w) {x : SV} {v : Value} (hx : Slot C N st.sh w x v) : Rel C N { st with env := st.env ++ [x] } { a with tmps := a.tmps.push v } w := by
  refine ⟨by simp [h.len], h.dfr, fun i => ?_, h.rows, ⟨h.frm.own, h.frm.sep, h.frm.fz, h.frm.frame, h.frm.os, h.frm.tape, h.frm.output, h.frm.size⟩⟩
  show Slot C N st.sh w ((st.env ++ [x]).getD i U) ((a.tmps.push v).getD i undef)
  have hl := h.len
  rcases Nat.lt_trichotomy i st.env.length with hi | hi | hi
  · have e1 : (st.env ++ [x]).getD i U = st.env.getD i U := by simp only [List.getD]; rw [List.getElem?_append_left hi]
    have e2 : (a.tmps.push v).getD i undef = a.tmps.getD i undef := by simp only [Array.getD_eq_getD_getElem?, Array.getElem?_push]; rw [if_neg (by omega)]
    rw [e1, e2]; exact h.slots i
  · subst hi
    have e1 : (st.env ++ [x]).getD st.env.length U = x := by simp [List.getD]
    have e2 : (a.tmps.push v).getD st.env.length undef = v := by simp only [Array.getD_eq_getD_getElem?, Array.getElem?_push]; rw [if_pos (by omega)]; rfl
    rw [e1, e2]; exact hx
  · have e1 : (st.env ++ [x]).getD i U = U := by simp only [List.getD]; rw [List.getElem?_eq_none (by simp; omega)]; rfl
    rw [e1]; intro hu; cases hu
theorem Rel.pop {n : Nat} {v : Value} (h : Rel C N st { a with tmps := a.tmps.push v } w) (hn : n = a.tmps.size) : Rel C N { st with env := st.env.take n } a w := by
  have hl := h.len
  simp only [Array.size_push] at hl
  refine ⟨by simp; omega, h.dfr, fun i => ?_, h.rows, ⟨h.frm.own, h.frm.sep, h.frm.fz, h.frm.frame, h.frm.os, h.frm.tape, h.frm.output, h.frm.size⟩⟩
  show Slot C N st.sh w ((st.env.take n).getD i U) (a.tmps.getD i undef)
  by_cases hi : i < n
  · have e1 : (st.env.take n).getD i U = st.env.getD i U := by simp only [List.getD]; rw [List.getElem?_take, if_pos hi]
    have e2 : a.tmps.getD i undef = (a.tmps.push v).getD i undef := by simp only [Array.getD_eq_getD_getElem?, Array.getElem?_push]; rw [if_neg (by omega)]
    rw [e1, e2]; exact h.slots i
  · have e1 : (st.env.take n).getD i U = U := by simp only [List.getD]; rw [List.getElem?_eq_none (by simp; omega)]; rfl
    rw [e1]; intro hu; cases hu
theorem Rel.field (h : Rel C N st a w) {n : Nat} {t : TypeId} {l : List At} (hn : st.env.getD n U = .v (.g t l)) : ∃ cs, RepG C N st.sh w t l cs ∧ a.tmps.getD n undef = .agg cs.toArray := by
  have h1 := h.slots n
  rw [hn] at h1
  exact h1
theorem Rel.setField (h : Rel C N st a w) {n j : Nat} {t : TypeId} {l : List At} (hn : st.env.getD n U = .v (.g t l)) {y : At}
    (hy : ∀ fs cs, C.T.ty t = .agg fs → RepG C N st.sh w t l cs → a.tmps.getD n undef = .agg cs.toArray → j < l.length → RepA C N st.sh w y ((cs.drop (fs.getD j (0, 0)).2).take (C.T.sz (fs.getD j (0, 0)).1)) ∧ (y.isU = false → y.tyAt C.T (fs.getD j (0, 0)).1)) :
    Rel C N (st.setField n j y) a w ∧ (st.setField n j y).env.getD n U = .v (.g t (l.set j y)) ∧ (st.setField n j y).mem = st.mem ∧ (st.setField n j y).env.length = st.env.length := by
  have hlt : n < st.env.length := by
    rcases Nat.lt_or_ge n st.env.length with h1 | h1
    · exact h1
    · simp only [List.getD] at hn; rw [List.getElem?_eq_none h1] at hn; cases hn
  unfold St.setField
  rw [hn]
  simp only
  refine ⟨⟨?_, h.dfr, fun i => ?_, h.rows, ⟨h.frm.own, h.frm.sep, h.frm.fz, h.frm.frame, h.frm.os, h.frm.tape, h.frm.output, h.frm.size⟩⟩, by simp [List.getD, hlt], (by first | trivial | rfl), by simp⟩
  · simp [h.len]
  · show Slot C N st.sh w ((st.env.set n (.v (.g t (l.set j y)))).getD i U) (a.tmps.getD i undef)
    by_cases e : n = i
    · subst e
      have e1 : (st.env.set n (SV.v (.g t (l.set j y)))).getD n U = .v (.g t (l.set j y)) := by simp [List.getD, hlt]
      rw [e1]
      obtain ⟨cs, h1, h2⟩ := h.field hn
      refine ⟨cs, ?_, h2⟩
      have h1' := h1
      obtain ⟨fs, g1, g2, g3, g4, g5⟩ := h1
      refine ⟨fs, g1, by simp [g2], g3, g4, fun i hi => ?_⟩
      rw [List.length_set] at hi
      by_cases e2 : j = i
      · subst e2
        have e3 : (l.set j y).getD j .U = y := by simp [List.getD, hi]
        rw [e3]; exact hy fs cs g1 h1' h2 hi
      · have e3 : (l.set j y).getD i .U = l.getD i .U := by simp [List.getD, List.getElem?_set, e2]
        rw [e3]; exact g5 i hi
    · have e1 : (st.env.set n (SV.v (.g t (l.set j y)))).getD i U = st.env.getD i U := by simp [List.getD, List.getElem?_set, e]
      rw [e1]; exact h.slots i
theorem Rel.noRow (ok : C.Ok) (h : Rel C N st a w) {k e : Nat} (he : 0 < C.T.sz e) (he2 : C.T.ty e ≠ .no) : Rel C (N.upd k (.slice none 0 0)) (st.noRow k e) a w := by
  have h1 := h.kill k
  refine h1.new ok (St.kill_free st k) ?_ (fun b hb => by cases hb)
  refine ⟨he, he2, fun _ => [], fun i hi => by simp at hi, ?_⟩
  show World.ownsRow _ _ _ _ ((N.upd k (.slice none 0 0)).β k) _ _
  rw [show (N.upd k (.slice none 0 0)).β k = .slice none 0 0 by simp [Nm.upd]]
  exact World.ownsRow_nil _ _ _ _
theorem env_map_getD (φ : At → At) (hφ : φ .U = .U) (n : Nat) : (st.env.map (SV.map φ)).getD n U = (st.env.getD n U).map φ := by
  rw [← getD_map (SV.map φ), U_map φ hφ]
theorem moveRow_env (k k' n : Nat) (hn : ∃ t l, st.env.getD n U = .v (.g t l)) : ∃ φ : At → At, φ .U = .U ∧ (∀ t l, st.env.getD n U = .v (.g t l) → (st.moveRow k k').env.getD n U = .v (.g t (l.map φ))) := by
  unfold St.moveRow
  split
  · exact ⟨fun x => x, rfl, fun t l h => by rw [h, List.map_id']⟩
  · split
    · refine ⟨fun x => At.ren k k' (At.kill k' x), rfl, fun t l h => ?_⟩
      show (((st.kill k').map (At.ren k k')).env).getD n U = _
      rw [St.env_map, env_map_getD _ rfl, St.env_kill, env_map_getD _ rfl, h]
      simp [SV.map, V1.map]
    · refine ⟨At.kill k', rfl, fun t l h => ?_⟩
      rw [St.env_kill, env_map_getD _ rfl, h]; rfl
theorem kill_env (k n : Nat) {t : TypeId} {l : List At} (h : st.env.getD n U = .v (.g t l)) : (st.kill k).env.getD n U = .v (.g t (l.map (At.kill k))) := by
  rw [St.env_kill, env_map_getD _ rfl, h]; rfl
theorem moveRow_len (k k' : Nat) : (st.moveRow k k').env.length = st.env.length := by
  unfold St.moveRow; split
  · rfl
  · split
    · show (((st.kill k').map _).env).length = _; simp [St.kill]
    · simp [St.kill]
theorem freeze1_env (T : Tab) {t : TypeId} {x y : At} (hs : st.freeze1 T t x = some (st', y)) (n : Nat) {u : TypeId} {l : List At} (h : st.env.getD n U = .v (.g u l)) : (∃ l', st'.env.getD n U = .v (.g u l') ∧ l'.length = l.length) ∧ st'.env.length = st.env.length := by
  cases x <;> simp only [St.freeze1] at hs
  case own k =>
    split at hs
    · split at hs
      · simp only [Option.some.injEq, Prod.mk.injEq] at hs
        obtain ⟨rfl, rfl⟩ := hs
        exact ⟨⟨_, kill_env k n h, by simp⟩, by simp [St.kill]⟩
      · cases hs
    · cases hs
  case nil =>
    split at hs
    · simp only [Option.some.injEq, Prod.mk.injEq] at hs
      obtain ⟨rfl, rfl⟩ := hs
      exact ⟨⟨_, h, rfl⟩, rfl⟩
    · cases hs
  all_goals first
    | (simp only [Option.some.injEq, Prod.mk.injEq] at hs; obtain ⟨rfl, rfl⟩ := hs; exact ⟨⟨_, h, rfl⟩, rfl⟩)
    | cases hs
theorem fieldOf_eq {n : Nat} {t : TypeId} {l : List At} (h : st.env.getD n U = .v (.g t l)) (j : Nat) : st.fieldOf n j = l.getD j .U := by unfold St.fieldOf; rw [h]
theorem settle_sound (ok : C.Ok) {n : Nat} {t : TypeId} {own : List Nat} {FS : List (TypeId × Nat)} (hFS : C.T.ty t = .agg FS) : ∀ (fs : List (TypeId × Nat)) (j : Nat) (N : Nm) (st : St) (l : List At), FS.drop j = fs → Rel C N st a w → st.env.getD n U = .v (.g t l) →
    St.settle C.T n own fs j st = some st' → ∃ N' l', Rel C N' st' a w ∧ st'.env.getD n U = .v (.g t l') ∧ l'.length = l.length ∧ st'.env.length = st.env.length ∧ Nm.le C N N' ∧ N'.β = N.β
  | [], j, N, st, l, hd, h, hn, hs => by
    simp only [St.settle, Option.some.injEq] at hs
    subst hs
    exact ⟨N, l, h, hn, rfl, rfl, fun b hb => hb, rfl⟩
  | (u, o) :: fs, j, N, st, l, hd, h, hn, hs => by
    have hj : FS.getD j (0, 0) = (u, o) := by
      have := congrArg (fun q => q[0]?) hd
      simp only [List.getElem?_drop, Nat.add_zero, List.getElem?_cons_zero] at this
      simp [List.getD, this]
    have hd2 : FS.drop (j + 1) = fs := by rw [← List.drop_drop, hd]; rfl
    simp only [St.settle] at hs
    split at hs
    · rename_i hc
      rw [Option.bind_eq_some_iff] at hs
      obtain ⟨⟨s1, y⟩, h1, hs⟩ := hs
      simp only at hs
      rw [fieldOf_eq hn] at h1 hc
      obtain ⟨⟨l1, hn1, hl1⟩, hlen1⟩ := freeze1_env C.T h1 n hn
      obtain ⟨cs, hg, hv⟩ := h.field hn
      have hg' := hg
      obtain ⟨fs', g1, g2, g3, g4, g5⟩ := hg
      rw [hFS] at g1
      cases g1
      have hjl : j < l.length := by
        rcases Nat.lt_or_ge j l.length with h2 | h2
        · exact h2
        · simp only [List.getD] at hc; rw [List.getElem?_eq_none h2] at hc; simp [At.isOwn] at hc
      obtain ⟨N1, k1, k2, k3, k4, k5, k6, k7⟩ := freeze1_sound ok h (g5 j hjl).1 h1
      have hown : (l.getD j .U).isOwn = true := by revert hc; cases (l.getD j .U).isOwn <;> simp
      obtain ⟨⟨p, v, rfl⟩, e0, he0⟩ := k6 hown
      obtain ⟨m1, m2, m3, m4⟩ := k1.setField hn1 (j := j) (y := .iv p u v) (fun fs2 cs2 q1 q2 q4 q3 => by
        rw [hFS] at q1; cases q1
        rw [hj]
        have e1 : cs2 = cs := by rw [hv] at q4; simpa using q4.symm
        subst e1
        rw [hj] at k2
        exact ⟨k2, fun _ => rfl⟩)
      obtain ⟨N2, l2, r1, r2, r3, r4, r5, r6⟩ := settle_sound ok hFS fs (j + 1) N1 _ _ hd2 m1 m2 hs
      exact ⟨N2, l2, r1, r2, by rw [r3, List.length_set, hl1], by rw [r4, m4, hlen1], fun b hb => r5 b (k3.1 b hb), r6.trans k3.2⟩
    · exact settle_sound ok hFS fs (j + 1) N st l hd2 h hn hs
theorem okE_iff {T : Tab} {e : TypeId} (h : T.okE e = true) : 0 < T.sz e ∧ T.ty e ≠ .no := by
  simp only [Tab.okE, Bool.and_eq_true, decide_eq_true_eq] at h
  exact ⟨h.1, fun h2 => by rw [h2] at h; simp at h⟩
theorem Rel.moveAny (ok : C.Ok) (h : Rel C N st a w) (k k' : Nat) : ∃ N', Rel C N' (st.moveRow k k') a w ∧ Nm.le C N N' ∧ ∀ i, i ≠ k' → N'.β i = N.β i := by
  by_cases hr : ∃ p e l, st.row k = some (.arr p e l)
  · obtain ⟨p, e, l, hr⟩ := hr
    exact ⟨_, h.move ok hr, fun b hb => hb, fun i hi => by simp [Nm.upd, hi]⟩
  · refine ⟨N, ?_, fun b hb => hb, fun _ _ => rfl⟩
    unfold St.moveRow
    split
    · exact h
    · split
      · rename_i p e l h1; exact absurd ⟨p, e, l, h1⟩ hr
      · exact h.kill k'
theorem adopt1_sound (ok : C.Ok) {n k : Nat} {t u : TypeId} {j : Nat} {FS : List (TypeId × Nat)} (hFS : C.T.ty t = .agg FS) {l : List At} (hj : (FS.getD j (0, 0)).1 = u) (h : Rel C N st a w) (hn : st.env.getD n U = .v (.g t l)) :
    ∃ N' l', Rel C N' (st.adopt1 C.T n k u j) a w ∧ (st.adopt1 C.T n k u j).env.getD n U = .v (.g t l') ∧ l'.length = l.length ∧ (st.adopt1 C.T n k u j).env.length = st.env.length ∧ Nm.le C N N' ∧ N'.β k = N.β k := by
  have fresh : ∀ (x : At) (e : TypeId), C.T.ty u = .slice e → l.getD j .U = x → (x = .nil ∨ ∃ p t', x = .iv p t' .N) → C.T.okE e = true → ∃ N1 l1, Rel C N1 ((st.noRow (k + 1 + j) e).setField n j (.own (k + 1 + j))) a w ∧ ((st.noRow (k + 1 + j) e).setField n j (.own (k + 1 + j))).env.getD n U = .v (.g t l1) ∧ l1.length = l.length ∧ ((st.noRow (k + 1 + j) e).setField n j (.own (k + 1 + j))).env.length = st.env.length ∧ Nm.le C N N1 ∧ N1.β k = N.β k := by
    intro x e hu hx hx2 he
    obtain ⟨he1, he2⟩ := okE_iff he
    have h1 := h.noRow (k := k + 1 + j) ok he1 he2
    have hn1 : (st.noRow (k + 1 + j) e).env.getD n U = .v (.g t (l.map (At.kill (k + 1 + j)))) := kill_env _ n hn
    obtain ⟨cs, hg, hv⟩ := h.field hn
    obtain ⟨m1, m2, m3, m4⟩ := h1.setField hn1 (j := j) (y := .own (k + 1 + j)) (fun fs2 cs2 q1 q2 q4 q3 => by
      rw [hFS] at q1; cases q1
      have e1 : cs2 = cs := by rw [hv] at q4; simpa using q4.symm
      subst e1
      obtain ⟨fs', g1, g2, g3, g4, g5⟩ := hg
      rw [hFS] at g1; cases g1
      rw [List.length_map] at q3
      obtain ⟨k1, k2⟩ := g5 j q3
      rw [hx] at k1 k2
      refine ⟨⟨?_, e, by rw [St.sh, St.noRow, St.row_put, if_pos rfl]; rfl⟩, fun _ => by show isAgg _ _ = false; rw [hj]; simp [isAgg, hu]⟩
      rw [show (N.upd (k + 1 + j) (.slice none 0 0)).β (k + 1 + j) = .slice none 0 0 by simp [Nm.upd]]
      rcases hx2 with rfl | ⟨p, t', rfl⟩
      · exact k1
      · have ht' : t' = (FS.getD j (0, 0)).1 := k2 rfl
        have k3 : Rep C.T w (C.E N p) t' .N _ := k1
        rw [ht'] at k3
        generalize ((cs2.drop (FS.getD j (0, 0)).2).take (C.T.sz (FS.getD j (0, 0)).1)) = win at k3
        rw [hj] at k3
        cases k3 with
        | nil _ => rfl
        | fn h9 => rw [hu] at h9; cases h9
        | ptr h9 => rw [hu] at h9; cases h9)
    refine ⟨_, _, m1, m2, by simp, by rw [m4]; show ((st.kill _).env).length = _; simp [St.kill], fun b hb => hb, by simp only [Nm.upd]; rw [if_neg (by omega)]⟩
  unfold St.adopt1
  rw [fieldOf_eq hn]
  split
  · rename_i k0 hk
    obtain ⟨N1, h1, h2, h3⟩ := h.moveAny ok k0 (k + 1 + j)
    obtain ⟨φ, hφ, hφ2⟩ := moveRow_env (st := st) k0 (k + 1 + j) n ⟨t, l, hn⟩
    exact ⟨N1, _, h1, hφ2 t l hn, by simp, moveRow_len _ _, h2, h3 k (by omega)⟩
  · rename_i e hu hk
    split
    · rename_i he; exact fresh _ e hu hk (.inl rfl) he
    · exact ⟨N, l, h, hn, rfl, rfl, fun b hb => hb, rfl⟩
  · rename_i e p t' hu hk
    split
    · rename_i he; exact fresh _ e hu hk (.inr ⟨p, t', rfl⟩) he
    · exact ⟨N, l, h, hn, rfl, rfl, fun b hb => hb, rfl⟩
  · exact ⟨N, l, h, hn, rfl, rfl, fun b hb => hb, rfl⟩
theorem adopt_sound (ok : C.Ok) {n k : Nat} {t : TypeId} {own : List Nat} {FS : List (TypeId × Nat)} (hFS : C.T.ty t = .agg FS) : ∀ (fs : List (TypeId × Nat)) (j : Nat) (N : Nm) (st : St) (l : List At), FS.drop j = fs → Rel C N st a w → st.env.getD n U = .v (.g t l) →
    ∃ N' l', Rel C N' (St.adopt C.T n k own fs j st) a w ∧ (St.adopt C.T n k own fs j st).env.getD n U = .v (.g t l') ∧ l'.length = l.length ∧ (St.adopt C.T n k own fs j st).env.length = st.env.length ∧ Nm.le C N N' ∧ N'.β k = N.β k
  | [], j, N, st, l, hd, h, hn => ⟨N, l, h, hn, rfl, rfl, fun b hb => hb, rfl⟩
  | (u, o) :: fs, j, N, st, l, hd, h, hn => by
    have hj : FS.getD j (0, 0) = (u, o) := by
      have := congrArg (fun q => q[0]?) hd
      simp only [List.getElem?_drop, Nat.add_zero, List.getElem?_cons_zero] at this
      simp [List.getD, this]
    have hd2 : FS.drop (j + 1) = fs := by rw [← List.drop_drop, hd]; rfl
    simp only [St.adopt]
    by_cases ho : j ∈ own
    · rw [if_pos ho]
      obtain ⟨N1, l1, r1, r2, r3, r4, r5, r6⟩ := adopt1_sound (k := k) (j := j) (u := u) ok hFS (by rw [hj]) h hn
      obtain ⟨N2, l2, q1, q2, q3, q4, q5, q6⟩ := adopt_sound ok hFS fs (j + 1) N1 _ l1 hd2 r1 r2
      exact ⟨N2, l2, q1, q2, q3.trans r3, q4.trans r4, fun b hb => q5 b (r5 b hb), q6.trans r6⟩
    · rw [if_neg ho]
      exact adopt_sound ok hFS fs (j + 1) N st l hd2 h hn
end
end Go.Ev
end
section
set_option linter.unusedVariables false
set_option linter.unusedSimpArgs false
namespace Go.Ev
open Go.RowKit
section
variable {C : Cx} {N N' : Nm} {st st' : St} {a : Act} {w w' : World}
theorem row_map_id (r : Row) : r.map (fun x => x) = r := by cases r with | box x t o c => (cases c <;> simp [Row.map, V1.map]) | arr p e l => rfl
theorem Rel.wr (ok : C.Ok) (h : Rel C N st a w) {k : Nat} {r r' : Row} (hk : st.row k = some r) (hsh : r'.sh = r.sh) (hw : ∀ j, blk (N.β k) ≠ some j → w'.heap[j]? = w.heap[j]?) (hsz : w'.heap.size = w.heap.size) (hos : w'.os = w.os) (htp : w'.tape = w.tape) (hou : w'.output = w.output)
    (hr : RowOk C N st.sh w' k r') : Rel C N (st.putRow k (some r')) a w' := by
  have hE : ∀ p b, C.E N p b → w'.heap[b]? = w.heap[b]? := fun p b hb => hw b (fun e => h.eown ok (by rw [hk]; rfl) e hb)
  have esh : (st.putRow k (some r')).sh = st.sh := by
    funext j
    rw [St.sh_put]
    split
    · rename_i e; subst e; rw [St.sh, hk]; show some r'.sh = some r.sh; rw [hsh]
    · rfl
  have L : Lift C N N st.sh (st.putRow k (some r')).sh w w' (fun _ => True) (fun x => x) := Lift.keep (fun _ _ h => h) hE (fun x => .inl rfl) (fun _ _ _ => ⟨rfl, by rw [esh]⟩)
  have em : (st.putRow k (some r')).env = st.env.map (SV.map fun x => x) := by rw [show SV.map (fun x => x) = id from funext SV.map_id, List.map_id]; rfl
  have hz : ∀ j, ((st.putRow k (some r')).row j).isSome → (st.row j).isSome := fun j hj => by
    rw [St.row_put] at hj
    split at hj
    · rename_i e; subst e; rw [hk]; rfl
    · exact hj
  refine h.lift L em (fun _ _ _ => trivial) (fun j r2 hr2 => ?_) ?_
  · rw [St.row_put] at hr2
    split at hr2
    · rename_i e; subst e; cases hr2; rw [esh]; exact hr
    · rename_i e
      have h1 := L.row (fun _ _ h => h) hE (k := j) rfl (fun b hb => hw b (fun e2 => e (h.frm.sep j k b (by rw [hr2]; rfl) (by rw [hk]; rfl) hb e2))) (fun _ _ => trivial) (h.rows j r2 hr2)
      rwa [row_map_id] at h1
  · exact { own := fun j b h1 h2 => by rw [hsz]; exact h.frm.own j b (hz j h1) h2
            sep := fun j j' b h1 h2 h3 h4 => h.frm.sep j j' b (hz j h1) (hz j' h2) h3 h4
            fz := fun b hb => by rw [hsz]; exact h.frm.fz b hb
            frame := fun b h1 h2 => by
              by_cases e : blk (N.β k) = some b
              · have := h.frm.own k b (by rw [hk]; rfl) e
                rcases this.1 with h3 | h3
                · exact absurd h3 h2
                · omega
              · rw [hw b e]; exact h.frm.frame b h1 h2
            os := hos.trans h.frm.os
            tape := htp.trans h.frm.tape
            output := hou.trans h.frm.output
            size := by rw [hsz]; exact h.frm.size }
theorem RepV1.blur {t : TypeId} {c : V1} {cs : List Value} {sh : Nat → Option Sh} (h : RepV1 C N sh w t c cs) : RepV1 C N sh w t (.a .U) cs := by
  cases c with
  | a x => exact ⟨trivial, fun h => (by cases h), h.2.2⟩
  | g t' l => obtain ⟨_, fs, h1, h2, h3, h4, h5⟩ := h; exact ⟨trivial, fun h => (by cases h), h3, h4⟩
theorem Rel.rebox (ok : C.Ok) (h : Rel C N st a w) {k b : Nat} {xb : Bool} {t : TypeId} {own : List Nat} {c c' : V1} (hk : st.row k = some (.box xb t own c)) {cs : List Value}
    (hβ : N.β k = .pointer (some ⟨b, 0, none⟩)) (hb : w.heap[b]? = some (.cells cs.toArray t (0, 0))) (hc : RepV1 C N st.sh w t c' cs) : Rel C N (st.putRow k (some (.box xb t own c'))) a w := by
  refine h.wr ok hk (r' := .box xb t own c') rfl (fun _ _ => rfl) rfl rfl rfl rfl ?_
  obtain ⟨b', cs', h1, h2, h3, h4, h5⟩ := h.rows k _ hk
  exact ⟨b, cs, hβ, hb, hc, h4, h5⟩
theorem Rel.blur (ok : C.Ok) (h : Rel C N st a w) (k : Nat) : Rel C N (st.blur k) a w := by
  unfold St.blur
  split
  · rename_i xb t own c hk
    obtain ⟨b, cs, h1, h2, h3, h4, h5⟩ := h.rows k _ hk
    exact h.rebox ok hk h1 h2 h3.blur
  · exact h
theorem Rel.poke (ok : C.Ok) (h : Rel C N st a w) {k b : Nat} {xb : Bool} {t : TypeId} {own : List Nat} {c : V1} (hk : st.row k = some (.box xb t own c)) (hβ : N.β k = .pointer (some ⟨b, 0, none⟩)) {cs : List Value}
    (hl : cs.length = C.T.sz t) (h1 : ∀ u ∈ cs, u.oneCell' = true) : Rel C N (st.blur k) a (w.setRow b cs.toArray) ∧ (w.setRow b cs.toArray).heap[b]? = some (.cells cs.toArray t (0, 0)) := by
  obtain ⟨b', cs', g1, g2, g3, g4, g5⟩ := h.rows k _ hk
  obtain rfl : b' = b := by rw [hβ] at g1; cases g1; rfl
  have hb := setRow_heap w b' cs'.toArray cs.toArray t (0, 0) g2
  refine ⟨?_, hb⟩
  have e : st.blur k = st.putRow k (some (.box xb t own (.a .U))) := by unfold St.blur; rw [hk]
  rw [e]
  exact h.wr (w' := w.setRow b' cs.toArray) ok hk (r' := .box xb t own (.a .U)) rfl (fun j hj => setRow_other w b' j cs.toArray (fun e => hj (by rw [hβ, e]; rfl))) (by simp [World.setRow]) rfl rfl rfl ⟨b', cs, hβ, hb, ⟨trivial, fun h => (by cases h), hl, h1⟩, g4, g5⟩
theorem rebox_some {k : Nat} {c : V1} (h : st.rebox k c = some st') : ∃ xb t own c0, st.row k = some (.box xb t own c0) ∧ st' = st.putRow k (some (.box xb t own c)) := by
  unfold St.rebox at h
  split at h
  · rename_i xb t own c0 hk; cases h; exact ⟨xb, t, own, c0, hk, rfl⟩
  · cases h
theorem Rel.rebox2 (ok : C.Ok) (h : Rel C N st a w) {k b : Nat} {c : V1} {t : TypeId} {cs : List Value} (hs : st.rebox k c = some st') (hβ : N.β k = .pointer (some ⟨b, 0, none⟩)) (hb : w.heap[b]? = some (.cells cs.toArray t (0, 0)))
    (hc : RepV1 C N st.sh w t c cs) : Rel C N st' a w ∧ st'.sh k = some (.box t) := by
  obtain ⟨xb, t', own, c0, hk, rfl⟩ := rebox_some hs
  obtain ⟨b', cs', g1, g2, g3, g4, g5⟩ := h.rows k _ hk
  obtain rfl : b' = b := by rw [hβ] at g1; cases g1; rfl
  have : t' = t := by rw [hb] at g2; cases g2; rfl
  subst this
  exact ⟨h.rebox ok hk hβ hb hc, by rw [St.sh, St.row_put, if_pos rfl]; rfl⟩
theorem mkV_cells {b : Bool} {cs : List Value} (h : b = false → ∃ c, cs = [c] ∧ c.oneCell' = true) : (mkV b cs).cells.toList = cs := by
  cases b with
  | true => rfl
  | false =>
    obtain ⟨c, rfl, hc⟩ := h rfl
    simp only [mkV, Bool.false_eq_true, if_false, List.headD_cons]
    cases c <;> first | rfl | (simp [Value.oneCell'] at hc)
theorem tyAt_agg {T : Tab} {t : TypeId} {x : At} (h : x.tyAt T t) (hx : x.isU = false) : x.agg T = isAgg T t := by
  cases x <;> simp only [At.tyAt, At.agg, At.isU] at h hx ⊢ <;> first | (rw [h]) | (cases hx)
def Slices (N : Nm) (st : St) : Prop := ∀ k p e l, st.row k = some (.arr p e l) → (N.β k).oneCell' = true
theorem Rel.slices (h : Rel C N st a w) : Slices N st := by
  intro k p e l hk
  obtain ⟨_, _, cf, _, q⟩ := h.rows k _ hk
  rcases q.2 with ⟨q, _⟩ | ⟨_, _, _, q, _⟩ <;> rw [q] <;> rfl
theorem fits_cells (ok : C.Ok) (hR : Slices N st) {sh : Nat → Option Sh} {t : TypeId} {x : At} (hf : st.fits C.T t x = true) {cs : List Value} (h : RepA C N sh w x cs) : cs.length = C.T.sz t ∧ (∀ u ∈ cs, u.oneCell' = true) ∧ x.isU = false ∧ x.tyAt C.T t ∧ C.T.ty t ≠ .no := by
  have key : isAgg C.T t = false → C.T.ty t ≠ .no → C.T.sz t = 1 := fun h2 h1 => by obtain ⟨i, z, _, _, _, _, _, h3, _⟩ := ok.tab.info t h1; exact h3 h2
  unfold St.fits at hf
  split at hf
  · rename_i k n k' ht
    rw [show cs = [.int k n] from h]
    exact ⟨(key (by simp [isAgg, ht]) (by simp [ht])).symm, by simp [Value.oneCell'], rfl, by simp [At.tyAt, isAgg, ht], by simp [ht]⟩
  · rename_i b ht
    rw [show cs = [.bool b] from h]
    exact ⟨(key (by simp [isAgg, ht]) (by simp [ht])).symm, by simp [Value.oneCell'], rfl, by simp [At.tyAt, isAgg, ht], by simp [ht]⟩
  · rename_i b ht
    rw [show cs = [.string b] from h]
    exact ⟨(key (by simp [isAgg, ht]) (by simp [ht])).symm, by simp [Value.oneCell'], rfl, by simp [At.tyAt, isAgg, ht], by simp [ht]⟩
  · rename_i e ht
    rw [show cs = [.slice none 0 0] from h]
    exact ⟨(key (by simp [isAgg, ht]) (by simp [ht])).symm, by simp [Value.oneCell'], rfl, by simp [At.tyAt, isAgg, ht], by simp [ht]⟩
  · rename_i ht
    rw [show cs = [.nilFunc] from h]
    exact ⟨(key (by simp [isAgg, ht]) (by simp [ht])).symm, by simp [Value.oneCell'], rfl, by simp [At.tyAt, isAgg, ht], by simp [ht]⟩
  · rename_i f caps ht
    rw [h.1]
    exact ⟨(key (by simp [isAgg, ht]) (by simp [ht])).symm, by simp [Value.oneCell'], rfl, by simp [At.tyAt, isAgg, ht], by simp [ht]⟩
  · rename_i k e ht
    split at hf
    · rename_i p e' l hk
      have h1 : (N.β k).oneCell' = true := hR k _ _ _ hk
      rw [h.1]
      exact ⟨(key (by simp [isAgg, ht]) (by simp [ht])).symm, by simpa using h1, rfl, by simp [At.tyAt, isAgg, ht], by simp [ht]⟩
    · cases hf
  · rename_i p t' v
    obtain rfl : t' = t := by simpa using hf
    have h' : Rep _ _ _ _ _ _ := h
    exact ⟨h'.len ok.tab, h'.one, rfl, rfl, h'.ty⟩
  · cases hf
theorem mk1_sound (ok : C.Ok) {sh : Nat → Option Sh} {p : Nat} {t : TypeId} {v : IV} {cs : List Value} (h : Rep C.T w (C.E N p) t v cs) : RepA C N sh w (C.T.mk1 p t v) cs ∧ ((C.T.mk1 p t v).isU = false → (C.T.mk1 p t v).tyAt C.T t) := by
  unfold Tab.mk1
  cases ht : C.T.ty t with
  | int k => cases h with
    | int h => rw [ht] at h; cases h; exact ⟨rfl, fun _ => by simp [At.tyAt, isAgg, ht]⟩
    | _ => simp_all
  | bool => cases h with
    | bool h => exact ⟨rfl, fun _ => by simp [At.tyAt, isAgg, ht]⟩
    | _ => simp_all
  | str => cases h with
    | str h => exact ⟨rfl, fun _ => by simp [At.tyAt, isAgg, ht]⟩
    | _ => simp_all
  | slice e =>
    refine ⟨?_, fun _ => rfl⟩
    show Rep _ _ _ _ _ _
    split
    · rename_i hf; exact ok.tab.flat t hf _ _ _ _ _ _ h
    · exact h
  | agg fs =>
    refine ⟨?_, fun _ => rfl⟩
    show Rep _ _ _ _ _ _
    split
    · rename_i hf; exact ok.tab.flat t hf _ _ _ _ _ _ h
    · exact h
  | ptr e => exact ⟨trivial, fun h => (by cases h)⟩
  | fn => exact ⟨trivial, fun h => (by cases h)⟩
  | no => exact ⟨trivial, fun h => (by cases h)⟩
theorem fields_sound (ok : C.Ok) {sh : Nat → Option Sh} {p : Nat} {t : TypeId} {v : IV} {cs : List Value} {fs : List (TypeId × Nat)} (ht : C.T.ty t = .agg fs) (h : Rep C.T w (C.E N p) t v cs) : RepG C N sh w t (C.T.fields t (.a (.iv p t v))) cs := by
  simp only [Tab.fields, ht]
  cases h with
  | agg h hl hc h1 hr =>
    rename_i l
    rw [ht] at h; cases h
    refine ⟨fs, ht, by simp, hc, h1, fun j hj => ?_⟩
    simp only [List.length_map, List.length_range] at hj
    have e : ((List.range fs.length).map fun j => C.T.mk1 p (fs.getD j (0, 0)).1 (fld (.A l) j)).getD j .U = C.T.mk1 p (fs.getD j (0, 0)).1 (fld (.A l) j) := by simp [List.getD, hj]
    rw [e]
    exact mk1_sound ok (hr j (by omega))
  | _ => simp_all
theorem setBox1_sound (ok : C.Ok) (h : Rel C N st a w) {k b : Nat} {t : TypeId} {x : At} {cs : List Value} (hβ : N.β k = .pointer (some ⟨b, 0, none⟩)) (hb : w.heap[b]? = some (.cells cs.toArray t (0, 0)))
    (hx : RepA C N st.sh w x cs) (hs : st.setBox1 C.T k t x = some st') : ∃ N', Rel C N' st' a w ∧ Nm.le C N N' ∧ N'.β k = N.β k ∧ st'.sh k = some (.box t) := by
  unfold St.setBox1 at hs
  split at hs
  · rename_i hf
    rw [Option.bind_eq_some_iff] at hs
    obtain ⟨⟨s1, y⟩, h1, h2⟩ := hs
    obtain ⟨g1, g2, g3, g4, g5⟩ := fits_cells ok h.slices hf hx
    obtain ⟨N1, k1, k2, k3, k4, k5, k6, k7⟩ := freeze1_sound ok h hx h1
    have hy : y.isU = false → y.tyAt C.T t := by
      intro _
      by_cases ho : x.isOwn = true
      · cases x <;> simp only [At.isOwn] at ho <;> first | cases ho | skip
        · simp only [St.freeze1] at h1
          split at h1
          · split at h1
            · simp only [Option.some.injEq, Prod.mk.injEq] at h1; rw [← h1.2]; rfl
            · cases h1
          · cases h1
        · simp [St.freeze1] at h1
      · by_cases hn : x = .nil
        · rw [(k7 hn).1]; rfl
        · rw [(k5 (by simpa using ho) hn).2]; exact g4
    obtain ⟨z1, z2⟩ := k1.rebox2 ok h2 (by rw [k3.2]; exact hβ) hb ⟨k2, hy, g1, g2⟩
    exact ⟨N1, z1, k3.1, by rw [k3.2], z2⟩
  · cases hs
theorem slot_cells (ok : C.Ok) (hR : Slices N st) {t : TypeId} {x : At} {v : Value} (hf : st.fits C.T t x = true) (h : SlotV C N st.sh w (.a x) v) : RepA C N st.sh w x v.cells.toList := by
  have hu : x.isU = false := by unfold St.fits at hf; cases x <;> first | rfl | simp at hf
  obtain ⟨cs, h1, h2⟩ := h hu
  obtain ⟨g1, g2, g3, g4, g5⟩ := fits_cells ok hR hf h1
  subst h2
  rw [mkV_cells]
  · exact h1
  · intro hb
    have h3 : C.T.sz t = 1 := by
      rw [tyAt_agg g4 g3] at hb
      obtain ⟨i, z, _, _, _, _, _, h3, _⟩ := ok.tab.info t g5; exact h3 hb
    rw [h3] at g1
    match cs, g1 with
    | [c], _ => exact ⟨c, rfl, g2 c (by simp)⟩
theorem moveRow_row {k k' p e : Nat} {l : List IV} (hr : st.row k = some (.arr p e l)) : (st.moveRow k k').row k' = some (.arr p e l) := by
  unfold St.moveRow
  split
  · rename_i e1; rw [← e1]; exact hr
  · rw [hr]; simp
theorem setBoxG_sound (ok : C.Ok) (h : Rel C N st a w) {k b : Nat} {t : TypeId} {own : List Nat} {v : V1} {val : Value} {cs : List Value} {fs : List (TypeId × Nat)} (hβ : N.β k = .pointer (some ⟨b, 0, none⟩)) (hb : w.heap[b]? = some (.cells cs.toArray t (0, 0)))
    (hv : SlotV C N st.sh w v val) (hc : val.cells.toList = cs) (ht : C.T.ty t = .agg fs) (hs : St.setBoxG C.T st k t fs own v = some st') : ∃ N', Rel C N' st' a w ∧ Nm.le C N N' ∧ N'.β k = N.β k ∧ st'.sh k = some (.box t) := by
  unfold St.setBoxG at hs
  split at hs
  · rename_i hty
    have hg : RepG C N st.sh w t (C.T.fields t v) cs := by
      cases v with
      | a x =>
        cases x with
        | iv p t' u =>
          obtain rfl : t' = t := by simpa [V1.isTy] using hty
          obtain ⟨cs', h1, h2⟩ := hv rfl
          have e : cs' = cs := by rw [← hc, h2]; simp [mkV, At.agg, isAgg, ht, Value.cells]
          subst e
          exact fields_sound ok ht h1
        | _ => simp [V1.isTy] at hty
      | g t' l =>
        obtain rfl : t' = t := by simpa [V1.isTy] using hty
        obtain ⟨cs', h1, h2⟩ := hv
        have e : cs' = cs := by rw [← hc, h2]; simp [Value.cells]
        subst e
        exact h1
    rw [Option.bind_eq_some_iff] at hs
    obtain ⟨s1, h1, hs⟩ := hs
    have hp := h.push (x := .v (.g t (C.T.fields t v))) (v := .agg cs.toArray) ⟨cs, hg, rfl⟩
    have hn : ({ st with env := st.env ++ [SV.v (.g t (C.T.fields t v))] } : St).env.getD st.env.length U = .v (.g t (C.T.fields t v)) := by simp [List.getD]
    obtain ⟨N1, l1, r1, r2, r3, r4, r5, r6⟩ := settle_sound ok ht fs 0 N _ _ rfl hp hn h1
    obtain ⟨N2, l2, q1, q2, q3, q4, q5, q6⟩ := adopt_sound (k := k) (own := own) ok ht fs 0 N1 _ l1 rfl r1 r2
    simp only [q2] at hs
    have hlen := h.len
    obtain ⟨cs2, e1, e2⟩ := q1.field q2
    have ecs : cs2 = cs := by
      have e3 : (a.tmps.push (Value.agg cs.toArray)).getD st.env.length undef = .agg cs.toArray := by rw [← hlen]; simp [Array.getD_eq_getD_getElem?]
      rw [e3] at e2
      simpa using e2.symm
    subst ecs
    obtain ⟨z1, z2⟩ := (q1.pop hlen.symm).rebox2 ok hs (by rw [q6, r6]; exact hβ) hb ⟨rfl, e1⟩
    exact ⟨N2, z1, r5.trans q5, by rw [q6, r6], z2⟩
  · cases hs
theorem setBox_sound (ok : C.Ok) (h : Rel C N st a w) {k b : Nat} {t : TypeId} {own : List Nat} {v : V1} {val : Value} {cs : List Value} (hβ : N.β k = .pointer (some ⟨b, 0, none⟩)) (hb : w.heap[b]? = some (.cells cs.toArray t (0, 0)))
    (hv : SlotV C N st.sh w v val) (hc : val.cells.toList = cs) (hs : St.setBox C.T st k t own v = some st') : ∃ N', Rel C N' st' a w ∧ Nm.le C N N' ∧ N'.β k = N.β k ∧ st'.sh k = some (.box t) := by
  unfold St.setBox at hs
  split at hs
  · rename_i fs ht
    split at hs
    · rename_i x
      have hf : st.fits C.T t x = true := by unfold St.setBox1 at hs; split at hs; assumption; cases hs
      exact setBox1_sound ok h hβ hb (hc ▸ slot_cells ok h.slices hf hv) hs
    · exact setBoxG_sound ok h hβ hb hv hc ht hs
  · rename_i e ht
    split at hs
    · rename_i x
      have hf : st.fits C.T t x = true := by unfold St.setBox1 at hs; split at hs; assumption; cases hs
      exact setBox1_sound ok h hβ hb (hc ▸ slot_cells ok h.slices hf hv) hs
    · rename_i k0 _
      split at hs
      · rename_i hf
        have hx := slot_cells ok h.slices hf hv
        rw [hc] at hx
        obtain ⟨g1, g2, g3, g4, g5⟩ := fits_cells ok h.slices hf hx
        have hf2 := hf
        unfold St.fits at hf2
        rw [ht] at hf2
        simp only at hf2
        split at hf2
        · rename_i p e' l hk
          have h1 := h.move (k' := k + 1) ok hk
          obtain ⟨z1, z2⟩ := h1.rebox2 ok hs (by simp only [Nm.upd]; rw [if_neg (by omega)]; exact hβ) hb ⟨⟨by simp only [Nm.upd, if_true]; exact hx.1, e', by rw [St.sh, moveRow_row hk]; rfl⟩, fun _ => by simp [At.tyAt, isAgg, ht], g1, g2⟩
          exact ⟨_, z1, fun b hb => hb, by simp only [Nm.upd]; rw [if_neg (by omega)], z2⟩
        · cases hf2
      · cases hs
    · split at hs
      · rename_i he
        obtain ⟨he1, he2⟩ := okE_iff he
        have h1 := h.noRow (k := k + 1) ok he1 he2
        have hx := slot_cells (t := t) ok h.slices (x := .nil) (by simp [St.fits, ht]) hv
        rw [hc] at hx
        obtain ⟨g1, g2, g3, g4, g5⟩ := fits_cells (t := t) ok h.slices (x := .nil) (by simp [St.fits, ht]) hx
        obtain ⟨z1, z2⟩ := h1.rebox2 ok hs (by simp only [Nm.upd]; rw [if_neg (by omega)]; exact hβ) hb ⟨⟨by simp only [Nm.upd, if_true]; exact hx, e, by rw [St.sh, St.noRow, St.row_put, if_pos rfl]; rfl⟩, fun _ => by simp [At.tyAt, isAgg, ht], g1, g2⟩
        exact ⟨_, z1, fun b hb => hb, by simp only [Nm.upd]; rw [if_neg (by omega)], z2⟩
      · cases hs
    · rename_i p t' _
      split at hs
      · rename_i he
        obtain ⟨rfl, he⟩ := he
        obtain ⟨he1, he2⟩ := okE_iff he
        have h1 := h.noRow (k := k + 1) ok he1 he2
        have hx := slot_cells (t := t') ok h.slices (x := .iv p t' .N) (by simp [St.fits]) hv
        rw [hc] at hx
        obtain ⟨g1, g2, g3, g4, g5⟩ := fits_cells (t := t') ok h.slices (x := .iv p t' .N) (by simp [St.fits]) hx
        have hcs : cs = [.slice none 0 0] := by
          have hx' : Rep _ _ _ _ _ _ := hx
          cases hx' with
          | nil _ => rfl
          | fn h9 => rw [ht] at h9; cases h9
          | ptr h9 => rw [ht] at h9; cases h9
        obtain ⟨z1, z2⟩ := h1.rebox2 ok hs (by simp only [Nm.upd]; rw [if_neg (by omega)]; exact hβ) hb ⟨⟨by simp only [Nm.upd, if_true]; exact hcs, e, by rw [St.sh, St.noRow, St.row_put, if_pos rfl]; rfl⟩, fun _ => by simp [At.tyAt, isAgg, ht], g1, g2⟩
        exact ⟨_, z1, fun b hb => hb, by simp only [Nm.upd]; rw [if_neg (by omega)], z2⟩
      · cases hs
    · cases hs
  · cases hs
  · split at hs
    · rename_i x
      have hf : st.fits C.T t x = true := by unfold St.setBox1 at hs; split at hs; assumption; cases hs
      exact setBox1_sound ok h hβ hb (hc ▸ slot_cells ok h.slices hf hv) hs
    · cases hs
end
end Go.Ev
end
