import Derived.Below
import Derived.Orders
import Derived.Calls
import Derived.Laws.Append
import Derived.Laws.Rows
import Derived.Laws.CopyRow
import Derived.Laws.StructEq
set_option linter.unusedVariables false
set_option linter.unusedSimpArgs false
namespace Go.AM
open Go
inductive Mode where | val | ref | mv | mix | keep (l : List Nat)
 deriving DecidableEq
inductive Sh where | sh | fr | ow (k : Nat)
 deriving DecidableEq
def Sh.own : Sh → Bool
 | .ow _ => true
 | _ => false
inductive Id where | l (k : Nat) | x (j : Nat)
 deriving DecidableEq
inductive A where
 | any
 | ifc
 | v (x : Value)
 | agg (cs : List A)
 | tup (vs : List A)
 | sl (s : Sh) (es : List A)
 | ms (b : Id) (off len tot : Nat)
 | ref (b : Id) (i o tot : Nat)
 | ptr (es : List A) (i o : Nat)
 | fn (f : Fn) (first captured : List A)
 | own (v : A)
instance : Inhabited A := ⟨.any⟩
def A.cells : A → List A
 | .agg cs => cs
 | a => [a]
mutual
def A.dn : A → A
 | .sl _ es => .sl .sh (dnL es)
 | .agg cs => .agg (dnL cs)
 | .ptr es i o => .ptr (dnL es) i o
 | .v x => .v x
 | .ifc => .ifc
 | _ => .any
def dnL : List A → List A
 | [] => []
 | a :: r => a.dn :: dnL r
end
mutual
def A.plain : A → Bool
 | .any => false
 | .ifc => true
 | .v _ => true
 | .agg cs => plainL cs
 | .tup _ => false
 | .sl s es => !s.own && plainL es
 | .ms .. => false
 | .ref .. => false
 | .ptr .. => false
 | .fn .. => false
 | .own _ => false
def plainL : List A → Bool
 | [] => true
 | a :: r => a.plain && plainL r
end
theorem dnL_map {α : Type} (l : List α) (f : α → A) : dnL (l.map f) = l.map fun x => (f x).dn := by
 induction l with
 | nil => rfl
 | cons a l ih => simp [dnL, ih]
theorem plainL_map {α : Type} (l : List α) (f : α → A) : plainL (l.map f) = l.all fun x => (f x).plain := by
 induction l with
 | nil => rfl
 | cons a l ih => simp [plainL, ih]
inductive TK where
 | int (k : IntKind) | bool | string | slice (e : Nat) | array (n e : Nat) | struct (fs : List (Nat × Nat × Nat)) | pointer (e : Nat) | func | other
structure TRow where
 kind : TK
 size : Nat
 bytes : Nat
 zero : List Value
instance : Inhabited TRow := ⟨⟨.other, 0, 0, []⟩⟩
abbrev Tab := List (List TRow)
def Tab.row (T : Tab) (t : Nat) : TRow := (T.getD (t / 16) []).getD (t % 16) default
def TRow.isAgg (r : TRow) : Bool := match r.kind with | .struct _ => true | .array .. => true | _ => false
def TRow.elem (r : TRow) : Nat := match r.kind with | .slice e => e | .array _ e => e | _ => 0
def TRow.zeroA (r : TRow) : A := if r.isAgg then .agg (r.zero.map .v) else match r.zero with | [z] => .v z | _ => .any
structure Blk where
 on : Bool
 k : Nat
 box : Bool
 es : List A
structure St where
 env : List A
 mem : List (Nat × Blk)
 ext : List Blk
def findB : List (Nat × Blk) → Nat → Option Blk
 | [], _ => none
 | (j, b) :: r, k => if j = k then some b else findB r k
def setB : List (Nat × Blk) → Nat → Blk → List (Nat × Blk)
 | [], _, _ => []
 | (j, c) :: r, k, b => if j = k then (j, b) :: r else (j, c) :: setB r k b
def addB : List (Nat × Blk) → Nat → Blk → List (Nat × Blk)
 | [], k, b => [(k, b)]
 | (j, c) :: r, k, b => if k < j then (k, b) :: (j, c) :: r else (j, c) :: addB r k b
def getB (m : List (Nat × Blk)) (k : Nat) : Option Blk := match findB m k with | some b => if b.on then some b else none | none => none
def St.get (st : St) : Id → Option Blk
 | .l k => getB st.mem k
 | .x j => st.ext[j]?
def St.put (st : St) : Id → Blk → St
 | .l k, b => { st with mem := setB st.mem k b }
 | .x j, b => { st with ext := st.ext.set j b }
def St.kill (st : St) (k : Nat) : St := { st with mem := setB st.mem k ⟨false, 0, false, []⟩ }
def St.new (st : St) (k : Nat) (b : Blk) : St := { st with mem := addB st.mem k b }
def ev (e : List A) : Operand → A
 | .tmp t => e.getD t .any
 | .const v => .v v
 | .global g => .v (.pointer (some ⟨g, 0, none⟩))
 | .func f => .v (.func (.func f) #[] #[])
def evV : Value → A
 | .agg cs => .agg (cs.toList.map .v)
 | v => .v v
def evC (e : List A) : Operand → A
 | .const v => evV v
 | p => ev e p
def St.dst (st : St) (d : Option Nat) (a : A) : St :=
 match d with
 | none => st
 | some t => { st with env := st.env.set t a }
def keyOf (d : Option Nat) : Nat := match d with | none => 0 | some t => t * 64
inductive Ex where | normal | exit (n : Nat) | ret
 deriving DecidableEq
inductive Free where
 | ret (r : A) (x : List Blk)
 | ask (b : Bool) (k : Bool → Free)
 | chk (p : Bool) (k : Free)
 | call (f : Nat) (args : List A) (x : List Blk) (k : A → List Blk → Free)
 | loop (keep : List Nat) (n : Nat) (c : Code) (st : St) (k : Ex → St → Free)
 | draw (ops : Array Oper) (st : St) (k : St → Free)
 | both (a b : Free)
 | join (keep : List Nat) (st : St) (k : St → Free)
 | done
 | bad
def intBin (op : BinOp) (k : IntKind) (a b : Int) : Option Value :=
 match op with
 | .add => some (.int k (k.wrap (a + b)))
 | .sub => some (.int k (k.wrap (a - b)))
 | .mul => some (.int k (k.wrap (a * b)))
 | .quo => some (.int k (k.wrap (a.tdiv b)))
 | .rem => some (.int k (a.tmod b))
 | .and => some (.int k (k.wrap (BitVec.ofInt k.bits a &&& BitVec.ofInt k.bits b).toNat))
 | .or => some (.int k (k.wrap (BitVec.ofInt k.bits a ||| BitVec.ofInt k.bits b).toNat))
 | .xor => some (.int k (k.wrap (BitVec.ofInt k.bits a ^^^ BitVec.ofInt k.bits b).toNat))
 | .andNot => some (.int k (k.wrap (BitVec.ofInt k.bits a &&& ~~~ BitVec.ofInt k.bits b).toNat))
 | .shl => none
 | .shr => none
 | .eql => some (.bool (a == b))
 | .neq => some (.bool (a != b))
 | .lss => some (.bool (decide (a < b)))
 | .leq => some (.bool (decide (a ≤ b)))
 | .gtr => some (.bool (decide (a > b)))
 | .geq => some (.bool (decide (a ≥ b)))
def isDiv : BinOp → Bool
 | .quo | .rem => true
 | _ => false
def St.elems (st : St) : A → Option (List A)
 | .sl _ es => some es
 | .v (.slice none 0 0) => some []
 | .ms b off len tot => match st.get b with
  | some blk => if blk.box = false ∧ tot = blk.es.length then some ((blk.es.drop off).take len) else none
  | none => none
 | _ => none
def A.one : A → Bool
 | .v x => x.oneCell'
 | .ifc => true
 | .sl .. => true
 | .ms .. => true
 | .ref .. => true
 | .ptr .. => true
 | .fn .. => true
 | .own _ => true
 | _ => false
def insC (st : St) : A → Option (A × St)
 | .v x => if x.oneCell' = true then some (.v x, st) else none
 | .sl .sh es => some (.sl .sh es, st)
 | .sl .fr es => some (.sl .fr es, st)
 | .ifc => some (.ifc, st)
 | .ms (.l k) off len tot => match getB st.mem k with
  | some blk => if blk.box = false ∧ tot = blk.es.length ∧ off = 0 ∧ len ≤ tot then some (.sl (.ow blk.k) (blk.es.take len), st.kill k) else none
  | none => none
 | _ => none
def insL (st : St) : List A → Option (List A × St)
 | [] => some ([], st)
 | a :: r => match insC st a with
  | some (b, st1) => match insL st1 r with
   | some (s, st2) => some (b :: s, st2)
   | none => none
  | none => none
def insA (st : St) : A → Option (A × St)
 | .agg cs => match insL st cs with
  | some (ds, st1) => some (.agg ds, st1)
  | none => none
 | a => insC st a
def insAs (st : St) : List A → Option (List A × St)
 | [] => some ([], st)
 | a :: r => match insA st a with
  | some (b, st1) => match insAs st1 r with
   | some (s, st2) => some (b :: s, st2)
   | none => none
  | none => none
def outC (st : St) : A → Option (A × St)
 | .ms (.x j) off len tot => some (.ms (.x j) off len tot, st)
 | .ref (.l k) 0 0 1 => match getB st.mem k with
  | some ⟨_, n, true, [v]⟩ => if plainL v.cells = true ∧ v.cells.length = n then some (.own v, st.kill k) else none
  | _ => none
 | a => insC st a
def outL (st : St) : List A → Option (List A × St)
 | [] => some ([], st)
 | a :: r => match outC st a with
  | some (b, st1) => match outL st1 r with
   | some (s, st2) => some (b :: s, st2)
   | none => none
  | none => none
def outA (st : St) : A → Option (A × St)
 | .agg cs => match outL st cs with
  | some (ds, st1) => some (.agg ds, st1)
  | none => none
 | a => outC st a
def outAs (st : St) : List A → Option (List A × St)
 | [] => some ([], st)
 | a :: r => match outA st a with
  | some (b, st1) => match outAs st1 r with
   | some (s, st2) => some (b :: s, st2)
   | none => none
  | none => none
def argC (st : St) : A → Option A
 | .v x => some (.v x)
 | .sl _ es => some (.sl .sh (dnL es))
 | .ifc => some .ifc
 | .ms b off len tot => match st.get b with
  | some blk => if blk.box = false ∧ tot = blk.es.length ∧ off + len ≤ tot then some (.sl .sh (dnL ((blk.es.drop off).take len))) else none
  | none => none
 | .ptr es i o => some (.ptr (dnL es) i o)
 | _ => none
def argL (st : St) : List A → Option (List A)
 | [] => some []
 | a :: r => match argC st a with
  | some b => match argL st r with
   | some s => some (b :: s)
   | none => none
  | none => none
def capC (st : St) : A → Option A
 | .ref b 0 0 1 => match st.get b with
  | some blk => match blk.es with
   | [e] => if blk.box = true then (match e with
    | .agg cs => (argL st cs).map fun ds => .ptr [.agg ds] 0 0
    | e => (argC st e).map fun d => .ptr [d] 0 0) else none
   | _ => none
  | none => none
 | a => argC st a
def capL (st : St) : List A → Option (List A)
 | [] => some []
 | a :: r => match capC st a with
  | some b => match capL st r with
   | some s => some (b :: s)
   | none => none
  | none => none
def argA (st : St) : A → Option A
 | .agg cs => (argL st cs).map .agg
 | .fn f fs cs => match argL st fs, capL st cs with
  | some fs', some cs' => some (.fn f fs' cs')
  | _, _ => none
 | a => argC st a
def argAs (st : St) : List A → Option (List A)
 | [] => some []
 | a :: r => match argA st a with
  | some b => match argAs st r with
   | some s => some (b :: s)
   | none => none
  | none => none
def hasMs : A → Bool
 | .ms .. => true
 | .ref .. => true
 | .agg cs => cs.any fun | .ms .. => true | .ref .. => true | _ => false
 | .fn _ fs cs => (fs.any fun | .ms .. => true | .ref .. => true | _ => false) || cs.any fun | .ref .. => true | .ms .. => true | _ => false
 | _ => false
mutual
def A.free : A → Bool
 | .ifc => true
 | .v _ => true
 | .agg cs => freeL cs
 | .tup cs => freeL cs
 | .sl (.ow _) es => freeL es
 | .sl _ _ => false
 | _ => false
def freeL : List A → Bool
 | [] => true
 | a :: r => a.free && freeL r
end
def inC (st : St) (k : Nat) : A → Option (A × St)
 | .sl (.ow n) es => match findB st.mem k with
  | none => some (.ms (.l k) 0 es.length es.length, st.new k ⟨true, n, false, es⟩)
  | some _ => none
 | .v x => some (.v x, st)
 | .sl .sh es => some (.sl .sh es, st)
 | .sl .fr es => some (.sl .fr es, st)
 | .ifc => some (.ifc, st)
 | .agg _ => none
 | .tup _ => none
 | .own v => match findB st.mem k with
  | none => some (.ref (.l k) 0 0 1, st.new k ⟨true, v.cells.length, true, [v]⟩)
  | some _ => none
 | a => some (a, st)
def inL (st : St) (k : Nat) : List A → Option (List A × St)
 | [] => some ([], st)
 | a :: r => match inC st k a with
  | some (b, st1) => match inL st1 (k + 1) r with
   | some (s, st2) => some (b :: s, st2)
   | none => none
  | none => none
def inA (st : St) (k : Nat) : A → Option (A × St)
 | .agg cs => match inL st k cs with
  | some (ds, st1) => some (.agg ds, st1)
  | none => none
 | a => inC st k a
def inT (st : St) (k : Nat) : List A → Option (List A × St)
 | [] => some ([], st)
 | a :: r => match inA st k a with
  | some (b, st1) => match inT st1 (k + a.cells.length) r with
   | some (s, st2) => some (b :: s, st2)
   | none => none
  | none => none
def inR (st : St) (k : Nat) : A → Option (A × St)
 | .tup vs => match inT st k vs with
  | some (ds, st1) => some (.tup ds, st1)
  | none => none
 | a => inA st k a
end Go.AM

namespace Go.AM
open Go
def TRow.loadFrom (r : TRow) (e : A) (off : Nat) : A :=
 if r.isAgg then .agg ((e.cells.drop off).take r.size) else e.cells.getD off .any
def setCells : List A → Nat → List A → List A
 | cs, _, [] => cs
 | cs, off, v :: r => setCells (cs.set off v) (off + 1) r
def storeIn (e : A) (off : Nat) (v : A) : A :=
 match e with
 | .agg cs => .agg (setCells cs off v.cells)
 | _ => v
def byteA (b : UInt8) : A := .v (.int .u8 b.toNat)
def isByte : A → Bool
 | .v (.int .u8 n) => decide (0 ≤ n ∧ n < 256)
 | _ => false
def byteOf : A → UInt8
 | .v (.int .u8 n) => UInt8.ofNat n.toNat
 | _ => 0
def eqCell : A → A → Option Bool
 | .v (.int k a), .v (.int k' b) => if k = k' then some (a == b) else none
 | .v (.bool a), .v (.bool b) => some (a == b)
 | _, _ => none
def eqCells : List A → List A → Option Bool
 | [], [] => some true
 | a :: r, b :: s => match eqCell a b, eqCells r s with
  | some x, some y => some (x && y)
  | _, _ => none
 | _, _ => none
def kindInt : TK → Bool
 | .int _ => true
 | _ => false
def kindBool : TK → Bool
 | .bool => true
 | _ => false
def Tab.flat (T : Tab) : List (Nat × Nat × Nat) → Nat → List A → Bool
 | [], _, [] => true
 | f :: fs, k, .v (.int _ _) :: r => f.1 == k && kindInt (T.row f.2.2).kind && T.flat fs (k + 1) r
 | f :: fs, k, .v (.bool _) :: r => f.1 == k && kindBool (T.row f.2.2).kind && T.flat fs (k + 1) r
 | _, _, _ => false
def sliceOf (x : A) (lo hi : Nat) : A :=
 match x with
 | .sl s es => .sl s ((es.take hi).drop lo)
 | .ms b off _ tot => .ms b (off + lo) (hi - lo) tot
 | a => a
def cellIds : A → List Id
 | .ms b _ _ _ => [b]
 | .ref b _ _ _ => [b]
 | _ => []
def A.ids : A → List Id
 | .agg cs => cs.flatMap cellIds
 | .tup vs => vs.flatMap fun | .agg cs => cs.flatMap cellIds | a => cellIds a
 | .fn _ fs cs => fs.flatMap cellIds ++ cs.flatMap cellIds
 | a => cellIds a
mutual
def A.rd (g : Id → Option Id) : A → A
 | .ms b off len tot => match g b with | some c => .ms c off len tot | none => .any
 | .ref b i o tot => match g b with | some c => .ref c i o tot | none => .any
 | .sl _ es => .sl .sh (dnL es)
 | .ptr es i o => .ptr (dnL es) i o
 | .agg cs => .agg (rdL g cs)
 | .tup cs => .tup (rdL g cs)
 | .fn f fs cs => .fn f (rdL g fs) (rdL g cs)
 | .v x => .v x
 | .ifc => .ifc
 | .own _ => .any
 | .any => .any
def rdL (g : Id → Option Id) : List A → List A
 | [] => []
 | a :: r => a.rd g :: rdL g r
end
mutual
def A.md : A → A
 | .sl (.ow k) es => .sl (.ow k) (mdL es)
 | .sl .fr es => .sl .fr (dnL es)
 | .sl _ es => .sl .sh (dnL es)
 | .agg cs => .agg (mdL cs)
 | .tup cs => .tup (mdL cs)
 | .ptr es i o => .ptr (dnL es) i o
 | .v x => .v x
 | .ifc => .ifc
 | .own v => .own v
 | _ => .any
def mdL : List A → List A
 | [] => []
 | a :: r => a.md :: mdL r
end
mutual
def A.rn (g : Id → Id) : A → A
 | .ms b off len tot => .ms (g b) off len tot
 | .ref b i o tot => .ref (g b) i o tot
 | .sl s es => .sl s es
 | .ptr es i o => .ptr es i o
 | .agg cs => .agg (rnL g cs)
 | .tup cs => .tup (rnL g cs)
 | .fn f fs cs => .fn f (rnL g fs) (rnL g cs)
 | .v x => .v x
 | .ifc => .ifc
 | .own v => .own v
 | .any => .any
def rnL (g : Id → Id) : List A → List A
 | [] => []
 | a :: r => a.rn g :: rnL g r
end
def Blk.rd (g : Id → Option Id) (b : Blk) : Blk := ⟨b.on, b.k, b.box, if b.box then rdL g b.es else if plainL b.es = true then dnL b.es else mdL b.es⟩
def Blk.rn (g : Id → Id) (b : Blk) : Blk := ⟨b.on, b.k, b.box, if b.box then rnL g b.es else b.es⟩
def Blk.ids (b : Blk) : List Id := if b.box then b.es.flatMap A.ids else []
def idsAdd (l : List Id) : List Id → List Id
 | [] => l
 | i :: r => idsAdd (if i ∈ l then l else l ++ [i]) r
def St.idsOf (st : St) (args : List A) : List Id :=
 let l := idsAdd [] (args.flatMap A.ids)
 idsAdd l (l.flatMap fun i => match st.get i with | some b => b.ids | none => [])
def idxOf : List Id → Id → Nat
 | [], _ => 0
 | i :: r, j => if i = j then 0 else idxOf r j + 1
def St.blks (st : St) : List Id → Option (List Blk)
 | [] => some []
 | i :: r => match st.get i, st.blks r with
  | some b, some s => some (b :: s)
  | _, _ => none
def St.puts (st : St) : List Id → List Blk → St
 | i :: r, b :: s => (st.put i b).puts r s
 | _, _ => st
def isX (n : Nat) : Id → Bool
 | .x j => decide (j < n)
 | .l _ => false
def St.live (st : St) (b : Id) (tot : Nat) : Bool := match st.get b with
 | some blk => decide (tot = blk.es.length)
 | none => false
def St.lenOf (st : St) : A → Option Nat
 | .sl _ es => some es.length
 | .v (.slice none 0 0) => some 0
 | .ms b _ len tot => if st.live b tot then some len else none
 | _ => none
def natOf : A → Option Int
 | .v (.int _ n) => some n
 | _ => none
def nilQ : A → Option (Option Bool)
 | .v (.slice none 0 0) => some (some true)
 | .sl _ [] => some none
 | .sl _ (_ :: _) => some (some false)
 | _ => none
section
variable (T : Tab) (by_ : Nat → Mode)
def opBin (st : St) (d : Option Nat) (xt : Nat) (op : BinOp) (x y : A) (K : St → Free) : Free :=
 match x, y with
 | .v (.int k a), .v (.int k' b) =>
  match op with
  | .shl => .chk (decide (0 ≤ b)) (K (st.dst d (.v (.int k (k.wrap (a * 2 ^ (min b.toNat k.bits)))))))
  | .shr => .chk (decide (0 ≤ b)) (K (st.dst d (.v (.int k (a.fdiv (2 ^ (min b.toNat k.bits)))))))
  | op => if k = k' then (match intBin op k a b with
    | some r => if isDiv op then .chk (decide (b ≠ 0)) (K (st.dst d (.v r))) else K (st.dst d (.v r))
    | none => .bad) else .bad
 | .v (.string a), .v (.string b) =>
  match op with
  | .add => .chk (decide (a.size + b.size ≤ 1073741824)) (K (st.dst d (.v (.string (a ++ b)))))
  | .eql => K (st.dst d (.v (.bool (a.toList == b.toList))))
  | .neq => K (st.dst d (.v (.bool !(a.toList == b.toList))))
  | _ => .bad
 | .v (.bool a), .v (.bool b) =>
  match op, (T.row xt).kind with
  | .eql, .bool => K (st.dst d (.v (.bool (a == b))))
  | .neq, .bool => K (st.dst d (.v (.bool !(a == b))))
  | _, _ => .bad
 | x, .v (.slice none 0 0) =>
  match op, (T.row xt).kind, nilQ x with
  | .eql, .slice _, some (some b) => K (st.dst d (.v (.bool b)))
  | .neq, .slice _, some (some b) => K (st.dst d (.v (.bool !b)))
  | .eql, .slice _, some none => .both (K (st.dst d (.v (.bool true)))) (K (st.dst d (.v (.bool false))))
  | .neq, .slice _, some none => .both (K (st.dst d (.v (.bool true)))) (K (st.dst d (.v (.bool false))))
  | _, _, _ => .bad
 | .agg xs, .agg ys =>
  match op, (T.row xt).kind, eqCells xs ys with
  | .eql, .struct fs, some b => if T.flat fs 0 xs = true then K (st.dst d (.v (.bool b))) else .bad
  | .neq, .struct fs, some b => if T.flat fs 0 xs = true then K (st.dst d (.v (.bool !b))) else .bad
  | _, _, _ => .bad
 | _, _ => .bad
def opLoad (st : St) (d : Option Nat) (t : Nat) (p : A) (K : St → Free) : Free :=
 let r := T.row t
 if r.size = 0 then .bad else
 match p with
 | .ref b i off tot => match st.get b with
  | some blk =>
   let a := r.loadFrom (blk.es.getD i .any) off
   if tot = blk.es.length ∧ off + r.size ≤ (blk.es.getD i .any).cells.length ∧ (blk.box || a.plain) = true then K (st.dst d a) else .bad
  | none => .bad
 | .ptr es i off =>
  if off + r.size ≤ (es.getD i .any).cells.length then K (st.dst d (r.loadFrom (es.getD i .any) off)) else .bad
 | _ => .bad
def storeTo (r : TRow) (st : St) (bx : Bool) (b : Id) (i off tot : Nat) (v : A) (K : St → Free) : Free :=
 match st.get b with
 | some blk =>
  if blk.box = bx ∧ tot = blk.es.length ∧ off + r.size ≤ (blk.es.getD i .any).cells.length ∧ v.cells.length = r.size ∧ r.size ≠ 0 then
   K (st.put b { blk with es := blk.es.set i (storeIn (blk.es.getD i .any) off v) })
  else .bad
 | none => .bad
def opStore (st : St) (t : Nat) (p v : A) (K : St → Free) : Free :=
 match p with
 | .ref b i off tot => match st.get b with
  | some blk =>
   if blk.box = true then (if v.cells.all A.one = true then storeTo (T.row t) st true b i off tot v K else .bad)
   else match insA st v with
    | some (w, st1) => storeTo (T.row t) st1 false b i off tot w K
    | none => .bad
  | none => .bad
 | _ => .bad
def opIndexAddr (st : St) (d : Option Nat) (t : Nat) (x ix : A) (K : St → Free) : Free :=
 match natOf ix with
 | none => .bad
 | some n =>
  match (T.row t).kind with
  | .slice e =>
   match x with
   | .sl _ es => .chk (decide (0 ≤ n ∧ n < es.length))
     (if (es.getD n.toNat .any).cells.length = (T.row e).size ∧ (T.row e).size ≠ 0 then K (st.dst d (.ptr es n.toNat 0)) else .bad)
   | .ms b off len tot => match st.get b with
    | some blk => if tot = blk.es.length ∧ blk.k = (T.row e).size ∧ (T.row e).size ≠ 0 then
      .chk (decide (0 ≤ n ∧ n < len)) (K (st.dst d (.ref b (off + n.toNat) 0 tot))) else .bad
    | none => .bad
   | _ => .bad
  | .array m e =>
   if (T.row e).size = 0 then .bad else
   match x with
   | .ref b i o tot => if st.live b tot then .chk (decide (0 ≤ n ∧ n < m)) (K (st.dst d (.ref b i (o + n.toNat * (T.row e).size) tot))) else .bad
   | .ptr es i o => .chk (decide (0 ≤ n ∧ n < m)) (K (st.dst d (.ptr es i (o + n.toNat * (T.row e).size))))
   | _ => .bad
  | _ => .bad
def St.fits (st : St) (k : Nat) : A → Bool
 | .sl _ es => es.all fun a => a.cells.length == k
 | .ms b _ _ tot => match st.get b with
  | some blk => decide (tot = blk.es.length ∧ blk.k = k)
  | none => false
 | .v (.slice none 0 0) => true
 | _ => false
def optNat (d : Int) : Option A → Option Int
 | none => some d
 | some a => natOf a
def opSliceS (st : St) (d : Option Nat) (s : ByteArray) (lo hi mx : Option A) (K : St → Free) : Free :=
 match optNat 0 lo, optNat s.size hi, mx with
 | some l, some h, none => .chk (decide (0 ≤ l ∧ l ≤ h ∧ h ≤ s.size)) (K (st.dst d (.v (.string (s.extract l.toNat h.toNat)))))
 | _, _, _ => .bad
def isNilL : A → Bool
 | .sl _ [] => true
 | _ => false
def opSliceN (st : St) (d : Option Nat) (k : Nat) (lo hi mx : Option A) (K : St → Free) : Free :=
 match lo, hi, mx, findB st.mem (keyOf d) with
 | none, some (.v (.int _ h)), some (.v (.int _ m)), none => if k ≠ 0 then .chk (decide (h = 0 ∧ m = 0)) (K ((st.new (keyOf d) ⟨true, k, false, []⟩).dst d (.ms (.l (keyOf d)) 0 0 0))) else .bad
 | _, _, _, _ => .bad
def opSliceL (st : St) (d : Option Nat) (k : Nat) (x : A) (lo hi mx : Option A) (K : St → Free) : Free :=
 match st.lenOf x with
 | none => .bad
 | some len => match optNat 0 lo, optNat len hi with
  | some l, some h => match optNat h mx with
   | some m => if k ≠ 0 ∧ st.fits k x = true ∧ (mx.isNone || hi.isSome) = true then
     .chk (decide (0 ≤ l ∧ l ≤ h ∧ h ≤ len ∧ h ≤ m ∧ m ≤ len)) (K (st.dst d (sliceOf x l.toNat h.toNat))) else .bad
   | none => .bad
  | _, _ => .bad
def appElems (st : St) : A → Option (List A × St)
 | .sl _ es => some (es, st)
 | .v (.slice none 0 0) => some ([], st)
 | .v (.string s) => some (s.data.toList.map byteA, st)
 | .ms b off len tot => match st.get b with
  | some blk =>
   if blk.box = false ∧ tot = blk.es.length ∧ off + len ≤ tot then
    (if plainL ((blk.es.drop off).take len) then some ((blk.es.drop off).take len, st)
    else match b with
     | .l k => if off = 0 then some (blk.es.take len, st.kill k) else none
     | .x _ => none)
   else none
  | none => none
 | _ => none
def opAppend (st : St) (d : Option Nat) (t t2 : Nat) (s x : A) (K : St → Free) : Free :=
 let k := (T.row (T.row t).elem).size
 match (T.row t).kind, (match (T.row t2).kind with | .slice _ => true | .string => true | _ => false), appElems st x with
 | .slice _, true, some (xs, st1) =>
  if k ≠ 0 ∧ xs.all (fun a => a.cells.length == k) = true then
   match s with
   | .v (.slice none 0 0) => match findB st1.mem (keyOf d) with
    | none => .chk (decide (xs.length ≤ 1073741824)) (K ((st1.new (keyOf d) ⟨true, k, false, xs⟩).dst d (.ms (.l (keyOf d)) 0 xs.length xs.length)))
    | some _ => .bad
   | .ms b off len tot => match st1.get b with
    | some blk => if blk.box = false ∧ tot = blk.es.length ∧ off = 0 ∧ len = tot ∧ blk.k = k then
      .chk (decide (tot + xs.length ≤ 1073741824))
       (K ((st1.put b { blk with es := blk.es ++ xs }).dst d (.ms b 0 (tot + xs.length) (tot + xs.length)))) else .bad
    | none => .bad
   | _ => .bad
  else .bad
 | _, _, _ => .bad
def opCopy (st : St) (d : Option Nat) (to x : A) (K : St → Free) : Free :=
 match to, appElems st x with
 | .ms b off len tot, some (xs, st1) => match st1.get b with
  | some blk => if blk.box = false ∧ tot = blk.es.length ∧ off + len ≤ tot ∧ plainL xs then
    let ys := xs.take len
    K ((st1.put b { blk with es := blk.es.take off ++ ys ++ blk.es.drop (off + ys.length) }).dst d (.v (.int .i64 ys.length))) else .bad
  | none => .bad
 | _, _ => .bad
def opMake (st : St) (d : Option Nat) (t : Nat) (l c : A) (K : St → Free) : Free :=
 match (T.row t).kind, natOf l, natOf c, findB st.mem (keyOf d) with
 | .slice e, some n, some m, none => if (T.row e).size ≠ 0 then .chk (decide (0 ≤ n ∧ n ≤ 1073741824 ∧ m = n))
   (K ((st.new (keyOf d) ⟨true, (T.row e).size, false, List.replicate n.toNat (T.row e).zeroA⟩).dst d (.ms (.l (keyOf d)) 0 n.toNat n.toNat))) else .bad
 | _, _, _, _ => .bad
def fillA (k : Nat) : List A → List (Nat × A) → List A
 | es, [] => es
 | es, (i, a) :: r => fillA k (es.set i a) r
def opBuildSlice (st : St) (d : Option Nat) (t len : Nat) (ps : List (Nat × A)) (K : St → Free) : Free :=
 match (T.row t).kind, insAs st (ps.map (·.2)) with
 | .slice e, some (as, st1) => match findB st1.mem (keyOf d) with
  | some _ => .bad
  | none =>
   if (T.row e).size ≠ 0 ∧ len * (T.row e).size ≤ 16777216 ∧ ps.all (fun p => decide (p.1 < len)) = true ∧ as.all (fun a => a.cells.length == (T.row e).size) = true then
    K ((st1.new (keyOf d) ⟨true, (T.row e).size, false, fillA (T.row e).size (List.replicate len (T.row e).zeroA) ((ps.map (·.1)).zip as)⟩).dst d (.ms (.l (keyOf d)) 0 len len))
   else .bad
 | _, _ => .bad
def buildCells (fs : List (Nat × Nat × Nat)) : List A → List (Nat × A) → Option (List A)
 | cs, [] => some cs
 | cs, (i, a) :: r => match fs[i]? with
  | some (off, size, _) => if a.cells.length = size ∧ off + size ≤ cs.length ∧ a.cells.all A.one = true then buildCells fs (setCells cs off a.cells) r else none
  | none => none
def opBuild (st : St) (d : Option Nat) (t : Nat) (ps : List (Nat × A)) (K : St → Free) : Free :=
 let r := T.row t
 match r.kind with
 | .struct fs => match buildCells fs (r.zero.map .v) ps with
  | some cs => K (st.dst d (.agg cs))
  | none => .bad
 | .array n e =>
  match (if (T.row e).size ≠ 0 then buildCells ((List.range n).map fun i => (i * (T.row e).size, (T.row e).size, e)) (r.zero.map .v) ps else none) with
  | some cs => K (st.dst d (.agg cs))
  | none => .bad
 | _ => .bad
def opBuildF (st : St) (d : Option Nat) (t len : Nat) (ps : List (Nat × A)) (K : St → Free) : Free :=
 match (T.row t).kind with
 | .slice e =>
  if (T.row e).size ≠ 0 ∧ len * (T.row e).size ≤ 16777216 ∧ len ≠ 0 ∧ ps.all (fun p => decide (p.1 < len)) = true ∧ (ps.map (·.2)).all (fun a => a.cells.length == (T.row e).size && a.cells.all A.one && plainL a.cells) = true ∧
    plainL (fillA (T.row e).size (List.replicate len (T.row e).zeroA) ((ps.map (·.1)).zip (ps.map (·.2)))) = true then
   K (st.dst d (.sl .fr (fillA (T.row e).size (List.replicate len (T.row e).zeroA) ((ps.map (·.1)).zip (ps.map (·.2))))))
  else .bad
 | _ => .bad
def opBox (st : St) (d : Option Nat) (x : A) (K : St → Free) : Free :=
 match findB st.mem (keyOf d) with
 | some _ => .bad
 | none => if x.cells.all A.one = true then K ((st.new (keyOf d) ⟨true, x.cells.length, true, [x]⟩).dst d (.ref (.l (keyOf d)) 0 0 1)) else .bad
def nilK (fs : List (Nat × Nat × Nat)) (o : Nat) : Nat := match fs.find? (fun f => f.1 == o) with
 | some f => (T.row (T.row f.2.2).elem).size
 | none => 0
def nilsGo (fs : List (Nat × Nat × Nat)) (key : Nat) : Nat → List A → St → List A × St
 | _, [], st => ([], st)
 | o, .v (.slice none 0 0) :: r, st => match findB st.mem (key + 1 + o) with
  | none => (.ms (.l (key + 1 + o)) 0 0 0 :: (nilsGo fs key (o + 1) r (st.new (key + 1 + o) ⟨true, nilK T fs o, false, []⟩)).1, (nilsGo fs key (o + 1) r (st.new (key + 1 + o) ⟨true, nilK T fs o, false, []⟩)).2)
  | some _ => (.v (.slice none 0 0) :: (nilsGo fs key (o + 1) r st).1, (nilsGo fs key (o + 1) r st).2)
 | o, a :: r, st => (a :: (nilsGo fs key (o + 1) r st).1, (nilsGo fs key (o + 1) r st).2)
def opBoxN (st : St) (d : Option Nat) (row : TRow) (x : A) (K : St → Free) : Free := match row.kind, x with
 | .struct fs, .agg cs => opBox (nilsGo T fs (keyOf d) 0 cs st).2 d (.agg (nilsGo T fs (keyOf d) 0 cs st).1) K
 | _, _ => .bad
def opBoxF (st : St) (d : Option Nat) (x : A) (K : St → Free) : Free :=
 if x.cells.all A.one = true ∧ plainL x.cells = true then K (st.dst d (.ptr [x] 0 0)) else .bad
def opConvert (st : St) (d : Option Nat) (src dst : Nat) (x : A) (K : St → Free) : Free :=
 if (T.row src).size = 0 then .bad else
 match (T.row dst).kind, x with
 | .int k, .v (.int _ n) => K (st.dst d (.v (.int k (k.wrap n))))
 | .string, .v (.string s) => K (st.dst d (.v (.string s)))
 | .slice e, .v (.string s) => match (T.row e).kind, findB st.mem (keyOf d) with
  | .int .u8, none => .chk (decide (s.size ≤ 1073741824))
    (K ((st.new (keyOf d) ⟨true, 1, false, s.data.toList.map byteA⟩).dst d (.ms (.l (keyOf d)) 0 s.size s.size)))
  | _, _ => .bad
 | .string, x => match (T.row src).kind, st.elems x with
  | .slice e, some es => match (T.row e).kind with
   | .int .u8 => if es.all isByte then K (st.dst d (.v (.string ⟨(es.map byteOf).toArray⟩))) else .bad
   | _ => .bad
  | _, _ => .bad
 | _, _ => .bad
def max2A : A → A → Option A
 | .v (.int k x), .v (.int _ y) => some (.v (.int k (if y > x then y else x)))
 | _, _ => none
def min2A : A → A → Option A
 | .v (.int k x), .v (.int _ y) => some (.v (.int k (if y < x then y else x)))
 | _, _ => none
def foldA (f : A → A → Option A) : A → List A → Option A
 | a, [] => some a
 | a, b :: r => match f a b with | some c => foldA f c r | none => none
def backI (ids : List Id) : Id → Id
 | .x j => ids.getD j (.l 0)
 | i => i
def idxO (ids : List Id) (i : Id) : Option Id := if i ∈ ids then some (.x (idxOf ids i)) else none
def refK (st : St) (d : Option Nat) (ids : List Id) (K : St → Free) : A → List Blk → Free := fun r xs =>
 if xs.length = ids.length then
  match inR (st.puts ids (xs.map (Blk.rn (backI ids)))) (keyOf d) (r.rn (backI ids)) with
  | some (a, st2) => K (st2.dst d a)
  | none => .bad
 else .bad
def opCallRef (st : St) (d : Option Nat) (f : Nat) (args : List A) (K : St → Free) : Free :=
 match st.blks (st.idsOf args) with
 | none => .bad
 | some bs => .call f (rdL (idxO (st.idsOf args)) args) (bs.map (Blk.rd (idxO (st.idsOf args)))) (refK st d (st.idsOf args) K)
def mvK (st : St) (d : Option Nat) (K : St → Free) : A → List Blk → Free := fun r xs =>
 if xs.length = 0 then
  match inR st (keyOf d) r with
  | some (a, st1) => K (st1.dst d a)
  | none => .bad
 else .bad
def opCallMv (st : St) (d : Option Nat) (f : Nat) (args : List A) (K : St → Free) : Free :=
 match insAs st args with
 | none => .bad
 | some (as, st1) => .call f (mdL as) [] (mvK st1 d K)
def opCallMix (st : St) (d : Option Nat) (f : Nat) (args caps : List A) (K : St → Free) : Free :=
 match insAs st args with
 | none => .bad
 | some (as, st1) => match st1.blks (st1.idsOf caps) with
  | none => .bad
  | some bs => .call f (mdL as ++ rdL (idxO (st1.idsOf caps)) caps) (bs.map (Blk.rd (idxO (st1.idsOf caps)))) (refK st1 d (st1.idsOf caps) K)
def opCallFn (st : St) (d : Option Nat) (f : Nat) (args : List A) (K : St → Free) : Free :=
 match by_ f with
 | .ref => opCallRef st d f args K
 | .mv => opCallMv st d f args K
 | .mix => .bad
 | .keep _ => .bad
 | .val =>
  match argAs st args with
  | none => .bad
  | some as => .call f as [] fun r xs =>
   if xs.length = 0 ∧ ((!(args.any hasMs)) || r.free) = true then
    match inR st (keyOf d) r with
    | some (a, st1) => K (st1.dst d a)
    | none => .bad
   else .bad
def opCall (st : St) (d : Option Nat) (c : Call) (K : St → Free) : Free :=
 let args := c.args.toList.map (ev st.env)
 match c.callee with
 | .builtin .len => match args, c.argTypes.toList with
  | [x], [t] => match (T.row t).kind with
   | .string => match x with
    | .v (.string s) => K (st.dst d (.v (.int .i64 s.size)))
    | _ => .bad
   | .slice _ => match st.lenOf x with
    | some n => K (st.dst d (.v (.int .i64 n)))
    | none => .bad
   | _ => .bad
  | _, _ => .bad
 | .builtin .append => match args, c.argTypes.toList with
  | [s, x], [t, t2] => opAppend T st d t t2 s x K
  | _, _ => .bad
 | .builtin .max => if c.args.size = 1 then .bad else match args with
  | x :: r => match foldA max2A x r with
   | some a => K (st.dst d a)
   | none => .bad
  | _ => .bad
 | .builtin .min => if c.args.size = 1 then .bad else match args with
  | x :: r => match foldA min2A x r with
   | some a => K (st.dst d a)
   | none => .bad
  | _ => .bad
 | .value f => match ev st.env f with
  | .v (.func (.func g) fs cs) => if fs.size = 0 ∧ cs.size = 0 then opCallFn by_ st d g args K else .bad
  | .fn (.func g) fs cs => match by_ g with
   | .mix => if fs.isEmpty then opCallMix st d g args cs K else .bad
   | _ => opCallFn by_ st d g (fs ++ args ++ cs) K
  | _ => .bad
 | _ => .bad
def opUn (st : St) (d : Option Nat) (op : UnOp) (x : A) (K : St → Free) : Free :=
 match op, x with
 | .not, .v (.bool b) => K (st.dst d (.v (.bool !b)))
 | .neg, .v (.int k n) => K (st.dst d (.v (.int k (k.wrap (0 - n)))))
 | .xor, .v (.int k n) => K (st.dst d (.v (.int k (k.wrap (BitVec.ofInt k.bits (if k.signed then -1 else k.max) ^^^ BitVec.ofInt k.bits n).toNat))))
 | _, _ => .bad
def op1 (st : St) (o : Oper) (K : St → Free) : Free :=
 let e := ev st.env
 match o.op with
 | .move x => K (st.dst o.dst (e x))
 | .assign x => K (st.dst o.dst (e x))
 | .pick c a b => match e c with
  | .v (.bool t) => .ask t fun y => match y with
   | true => K (st.dst o.dst (e a))
   | false => K (st.dst o.dst (e b))
  | _ => .bad
 | .alloc t => match by_ (1000000 + o.dst.getD 0) with
  | .mv => if (T.row t).size = 0 then .bad else opBoxN T st o.dst (T.row t) (T.row t).zeroA K
  | _ => if (T.row t).size = 0 then .bad else opBox st o.dst (T.row t).zeroA K
 | .box t x => match by_ (1000000 + o.dst.getD 0) with
  | .mv => opBoxF st o.dst (e x) K
  | .ref => opBoxN T st o.dst (T.row t) (e x) K
  | _ => opBox st o.dst (e x) K
 | .build t ps => opBuild T st o.dst t (ps.toList.map fun p => (p.1, e p.2)) K
 | .buildSlice t len ps => match by_ (1000000 + o.dst.getD 0) with
  | .mv => opBuildF T st o.dst t len (ps.toList.map fun p => (p.1, evC st.env p.2)) K
  | _ => opBuildSlice T st o.dst t len (ps.toList.map fun p => (p.1, evC st.env p.2)) K
 | .load t p => opLoad T st o.dst t (e p) K
 | .store t p v => match o.dst with
  | none => opStore T st t (e p) (e v) K
  | some _ => .bad
 | .binOp op xt x y _ => opBin T st o.dst xt op (e x) (e y) K
 | .unOp op _ x => opUn st o.dst op (e x) K
 | .convert s t x => opConvert T st o.dst s t (e x) K
 | .makeFunc fn fs cs => K (st.dst o.dst (.fn fn (fs.toList.map e) (cs.toList.map e)))
 | .makeSlice t l c => opMake T st o.dst t (e l) (e c) K
 | .slice t x lo hi mx => match (T.row t).kind with
  | .slice et => if (isNilL (e x) && mx.isSome) = true then opSliceN st o.dst (T.row et).size (lo.map e) (hi.map e) (mx.map e) K else opSliceL st o.dst (T.row et).size (e x) (lo.map e) (hi.map e) (mx.map e) K
  | .string => match e x with
   | .v (.string s) => opSliceS st o.dst s (lo.map e) (hi.map e) (mx.map e) K
   | _ => .bad
  | _ => .bad
 | .fieldAddr t p f => match (T.row t).kind with
  | .struct fs => match fs[f]?, e p with
   | some (off, _, _), .ref b i o' tot => if st.live b tot then K (st.dst o.dst (.ref b i (o' + off) tot)) else .bad
   | some (off, _, _), .ptr es i o' => K (st.dst o.dst (.ptr es i (o' + off)))
   | _, _ => .bad
  | _ => .bad
 | .field t x f => match (T.row t).kind with
  | .struct fs => match fs[f]?, e x with
   | some (off, size, ft), .agg cs => if off + size ≤ cs.length ∧ size = (T.row ft).size ∧ size ≠ 0 then K (st.dst o.dst ((T.row ft).loadFrom (.agg cs) off)) else .bad
   | _, _ => .bad
  | _ => .bad
 | .indexAddr t x ix => opIndexAddr T st o.dst t (e x) (e ix) K
 | .index t x ix => match (T.row t).kind, e x, natOf (e ix) with
  | .string, .v (.string s), some n => .chk (decide (0 ≤ n ∧ n < s.size)) (K (st.dst o.dst (byteA (s.data.toList.getD n.toNat 0))))
  | .array m et, .agg cs, some n => .chk (decide (0 ≤ n ∧ n < m))
    (if (T.row et).size = 1 ∧ (T.row et).isAgg = false ∧ cs.length = m then K (st.dst o.dst (cs.getD n.toNat .any)) else .bad)
  | _, _, _ => .bad
 | .extract x i => match e x with
  | .tup vs => match vs[i]? with
   | some a => K (st.dst o.dst a)
   | none => .bad
  | _ => .bad
 | .nilCheck x => match e x with
  | .ref b i o' tot => if st.live b tot then K (st.dst o.dst (.ref b i o' tot)) else .bad
  | .ptr es i o' => K (st.dst o.dst (.ptr es i o'))
  | _ => .bad
 | .call c => opCall T by_ st o.dst c K
 | _ => .bad
def opG (ops : Array Oper) (st : St) (o : Oper) (K : St → Free) : Free :=
 match o.guard with
 | none => op1 T by_ st o K
 | some (j, want) => match (ops[j]?).bind (·.dst) with
  | none => .bad
  | some t => match st.env.getD t .any with
   | .v (.bool b) => .ask b fun y =>
     if y = want then op1 T by_ (st.dst (some t) (.v (.bool y))) o K
     else K ((st.dst (some t) (.v (.bool y))).dst o.dst (.v (.tuple #[])))
   | .v (.tuple _) => K (st.dst o.dst (.v (.tuple #[])))
   | _ => .bad
def opsG (ops : Array Oper) (K : St → Free) : List Oper → St → Free
 | [], st => K st
 | o :: r, st => opG T by_ ops st o (opsG ops K r)
abbrev Ann := List (Nat × List Nat)
def Ann.of : Ann → Nat → List Nat
 | [], _ => []
 | (m, l) :: r, n => if m = n then l else Ann.of r n
end
mutual
def A.okI (p : Id → Bool) : A → Bool
 | .ms b _ _ _ => p b
 | .ref b _ _ _ => p b
 | .agg cs => okIL p cs
 | .tup vs => okIL p vs
 | .fn _ fs cs => okIL p fs && okIL p cs
 | _ => true
def okIL (p : Id → Bool) : List A → Bool
 | [] => true
 | a :: r => a.okI p && okIL p r
end
def St.kept (st : St) (ks : List Nat) : Id → Bool
 | .l k => (getB st.mem k).isSome && ks.contains k
 | .x _ => true
def keepC (st : St) (ks : List Nat) (a : A) : A := if a.okI (st.kept ks) then a else .any
def keepEnv (keep : List Nat) : Nat → List A → List A
 | _, [] => []
 | n, a :: r => (if keep.contains n then a else .any) :: keepEnv keep (n + 1) r
def keyL : Id → List Nat
 | .l k => [k]
 | .x _ => []
def idKeys (l : List A) : List Nat := l.flatMap fun a => a.ids.flatMap keyL
def keepCells (st : St) (ks : List Nat) : A → A
 | .agg cs => .agg (cs.map (keepC st ks))
 | a => keepC st ks a
def Blk.keep (st : St) (ks : List Nat) (b : Blk) : Blk := if b.box then { b with es := b.es.map (keepCells st ks) } else b
mutual
def A.ro (g : Id → Option Id) : A → A
 | .ms b off len tot => match g b with | some c => .ms c off len tot | none => .any
 | .ref b i o tot => match g b with | some c => .ref c i o tot | none => .any
 | .sl s es => .sl s es
 | .ptr es i o => .ptr es i o
 | .agg cs => .agg (roL g cs)
 | .tup cs => .tup (roL g cs)
 | .fn f fs cs => .fn f (roL g fs) (roL g cs)
 | .v x => .v x
 | .ifc => .ifc
 | .own v => .own v
 | .any => .any
def roL (g : Id → Option Id) : List A → List A
 | [] => []
 | a :: r => a.ro g :: roL g r
end
def Blk.ro (g : Id → Option Id) (b : Blk) : Blk := ⟨b.on, b.k, b.box, if b.box then roL g b.es else b.es⟩
def Id.loc : Id → Bool
 | .l _ => true
 | .x _ => false
def St.canonIds (st : St) : List Id :=
 let l := idsAdd [] (st.env.flatMap A.ids ++ st.ext.flatMap Blk.ids)
 (idsAdd l (l.flatMap fun i => match st.get i with | some b => b.ids | none => [])).filter fun i => i.loc && (st.get i).isSome
def canonG (ids : List Id) : Id → Option Id
 | .x j => some (.x j)
 | .l k => if .l k ∈ ids then some (.l (idxOf ids (.l k))) else none
def canonW (st : St) (ids : List Id) : Option (List Blk) → St
 | none => st
 | some bs => ⟨roL (canonG ids) st.env, bs.mapIdx fun i b => (i, b.ro (canonG ids)), st.ext.map (Blk.ro (canonG ids))⟩
def canonV (st : St) (ids : List Id) : St := canonW st ids (st.blks ids)
def St.canon (st : St) : St := canonV st st.canonIds
def St.onlyK (st : St) (e : List A) (ks : List Nat) : St :=
 { env := e.map (keepC st ks), mem := (st.mem.filter fun p => p.2.on && ks.contains p.1).map fun p => (p.1, p.2.keep st ks), ext := st.ext.map (Blk.keep st ks) }
def St.keys (st : St) (e : List A) : List Nat :=
 let ks := idKeys e ++ st.ext.flatMap (fun b => if b.box then idKeys b.es else [])
 ks ++ ks.flatMap fun k => match getB st.mem k with | some b => if b.box then idKeys b.es else [] | none => []
def St.only (keep : List Nat) (st : St) : St := (st.onlyK (keepEnv keep 0 st.env) (st.keys (keepEnv keep 0 st.env))).canon
inductive Sched where
 | fin
 | take (i : Nat) (s : Sched)
 | ld (i : Nat) (s : Sched)
 | lds (k : Nat) (is : List Nat) (s : Sched)
 | cv (i : Nat) (s : Sched)
 | alt (i : Nat) (s rest : Sched)
 | jn (keep : List Nat) (s : Sched)
 | alf (i j : Nat) (s : Sched)
 | nil
section
variable (T : Tab) (by_ : Nat → Mode) (ann : Ann)
def skipV : Bool → A → Bool
 | true, .v (.bool true) => false
 | true, .v (.bool false) => true
 | false, .v (.bool true) => true
 | false, .v (.bool false) => false
 | _, .v (.tuple _) => true
 | _, _ => false
def skipO (st : St) (want : Bool) : Option Nat → Bool
 | none => false
 | some t => skipV want (st.env.getD t .any)
def skipG (ops : Array Oper) (st : St) (o : Oper) : Bool :=
 match o.guard with
 | none => false
 | some (j, want) => skipO st want ((ops[j]?).bind (·.dst))
def ldsS (ops : Array Oper) (k : Nat) : List Nat → St → (St → Free) → Free
 | [], st, K => K st
 | i :: r, st, K => match ops[i]? with
  | some o => match o.op, o.guard with
   | .load _ p, none => match ev st.env p with
    | .ref (.l k') _ _ _ => if k' = k then opG T by_ ops st o fun st' => ldsS ops k r st' K else .bad
    | _ => .bad
   | _, _ => .bad
  | none => .bad
def alfV (t t' d d' : Nat) (v : A) (st : St) (K : St → Free) : Free :=
 if d = d' ∧ t = t' ∧ (T.row t).size ≠ 0 ∧ v.cells.length = (T.row t).size ∧ d < st.env.length ∧ v.cells.all A.one = true ∧ plainL v.cells = true then K (st.dst (some d) (.ptr [v] 0 0)) else .bad
def alfO (st : St) (K : St → Free) : Op → Option (Nat × Bool) → Option Nat → Op → Option (Nat × Bool) → Option Nat → Free
 | .alloc t, none, some d, .store t' (.tmp d') x, none, none => alfV T t t' d d' (ev (st.dst (some d) .any).env x) st K
 | _, _, _, _, _, _ => .bad
def alfS (ops : Array Oper) (i j : Nat) (st : St) (K : St → Free) : Free := match ops[i]?, ops[j]? with
 | some oi, some oj => alfO T st K oi.op oi.guard oi.dst oj.op oj.guard oj.dst
 | _, _ => .bad
def opsF (ops : Array Oper) (K : St → Free) : List Oper → St → Free
 | [], st => K st
 | [o], st => opG T by_ ops st o K
 | oi :: oj :: r, st => match oi.op with
  | .alloc _ => alfO T st (opsF ops K r) oi.op oi.guard oi.dst oj.op oj.guard oj.dst
  | _ => opG T by_ ops st oi (opsF ops K (oj :: r))
def drawS (ops : Array Oper) : Sched → St → (St → Free) → Free
 | .fin, st, K => K st
 | .take i s, st, K => match ops[i]? with
  | some o => opG T by_ ops st o fun st' => drawS ops s st' K
  | none => .bad
 | .ld i s, st, K => match ops[i]? with
  | some o => match o.op with
   | .load _ p => if skipG ops st o = true then opG T by_ ops st o fun st' => drawS ops s st' K else match ev st.env p with
    | .ptr .. => opG T by_ ops st o fun st' => drawS ops s st' K
    | _ => .bad
   | _ => .bad
  | none => .bad
 | .cv i s, st, K => match ops[i]? with
  | some o => match o.op, o.guard with
   | .convert _ _ p, none => match ev st.env p with
    | .v (.int _ _) => opG T by_ ops st o fun st' => drawS ops s st' K
    | _ => .bad
   | _, _ => .bad
  | none => .bad
 | .lds k is s, st, K => ldsS T by_ ops k is st fun st' => match st'.get (.l k) with
  | some blk => if blk.es.isEmpty then .bad else drawS ops s (st'.kill k) K
  | none => .bad
 | .alt i s rest, st, K => .both (match ops[i]? with
  | some o => opG T by_ ops st o fun st' => drawS ops s st' K
  | none => .bad) (drawS ops rest st K)
 | .jn keep s, st, K => .join keep st fun st' => drawS ops s st' K
 | .alf i j s, st, K => alfS T ops i j st fun st' => drawS ops s st' K
 | .nil, _, _ => .done
def exec : Code → Nat → St → (Ex → St → Free) → Free
 | .skip, _, st, K => K .normal st
 | .seq a b, n, st, K => exec a n st fun x s => match x with
  | .normal => exec b n s K
  | x => K x s
 | .region id ops draw, _, st, K => match by_ (3000000 + id) with
  | .keep l => .join l st fun st' => if draw then .draw ops st' (K .normal) else opsG T by_ ops (K .normal) ops.toList st'
  | .mix => if draw then .draw ops st (K .normal) else opsF T by_ ops (K .normal) ops.toList st
  | _ => if draw then .draw ops st (K .normal) else opsG T by_ ops (K .normal) ops.toList st
 | .cond c t f, n, st, K => match ev st.env c with
  | .v (.bool b) => .ask b fun y => match y with
   | true => exec t n st K
   | false => exec f n st K
  | _ => .bad
 | .block m c, _, st, K => exec c m st fun x s => match x with
  | .exit j => if j = m then K .normal s else K (.exit j) s
  | x => K x s
 | .loop c, n, st, K => .loop (ann.of n) n c st K
 | .exit j, _, st, K => K (.exit j) st
 | .ret, _, st, K => K .ret st
 | _, _, _, _ => .bad
def back (keep : List Nat) (n : Nat) (c : Code) (K : Ex → St → Free) : Ex → St → Free := fun x s => match x with
 | .normal => .loop keep n c s K
 | x => K x s
structure Known where
 calls : Nat → List A → List Blk → A → List Blk → Prop
 draws : Array Oper → St → St → Prop
inductive LeD : List A → List A → Prop
 | nil : LeD [] []
 | same (a : A) {r s : List A} (h : LeD r s) : LeD (a :: r) (a :: s)
 | nils (s0 : Sh) {r s : List A} (h : LeD r s) : LeD (.v (.slice none 0 0) :: r) (.sl s0 [] :: s)
 | agg {cs ds r s : List A} (h1 : LeD cs ds) (h : LeD r s) : LeD (.agg cs :: r) (.agg ds :: s)
 | tup {cs ds r s : List A} (h1 : LeD cs ds) (h : LeD r s) : LeD (.tup cs :: r) (.tup ds :: s)
 | sl (s0 : Sh) {es es' r s : List A} (h1 : LeD es es') (h : LeD r s) : LeD (.sl s0 es :: r) (.sl s0 es' :: s)
def Le (a b : A) : Prop := LeD [a] [b]
theorem LeD.refl : ∀ l : List A, LeD l l
 | [] => .nil
 | a :: r => .same a (LeD.refl r)
theorem Le.refl (a : A) : Le a a := LeD.refl _
theorem Le.of_eq {a b : A} (h : a = b) : Le a b := h ▸ Le.refl a
def RunsN (Φ : Known) : Nat → Free → A → List Blk → Prop
 | 0, _, _, _ => False
 | m + 1, t, r, X => match t with
  | .ret a x => Le a r ∧ x = X
  | .ask b k => RunsN Φ m (k b) r X
  | .chk p k => p = true ∧ RunsN Φ m k r X
  | .call f as x k => ∃ a x', Φ.calls f as x a x' ∧ RunsN Φ m (k a x') r X
  | .draw ops st k => ∃ st1, Φ.draws ops st st1 ∧ RunsN Φ m (k st1) r X
  | .both a b => RunsN Φ m a r X ∧ RunsN Φ m b r X
  | .join keep st k => RunsN Φ m (k (st.only keep)) r X
  | .done => True
  | .loop keep n c st K => RunsN Φ m (exec T by_ ann c n (st.only keep) (back keep n c K)) r X
  | .bad => False
def Runs (Φ : Known) (t : Free) (r : A) (X : List Blk) : Prop := ∃ m, RunsN T by_ ann Φ m t r X
def resultOf (st : St) : ResultVar → Option A
 | .tmp t => some (st.env.getD t .any)
 | .cell t ty => match st.env.getD t .any with
  | .ref b 0 0 1 => match st.get b with
   | some blk => if blk.box = true ∧ blk.es.length = 1 ∧ (T.row ty).size ≠ 0 ∧ (T.row ty).size ≤ (blk.es.getD 0 .any).cells.length then some ((T.row ty).loadFrom (blk.es.getD 0 .any) 0) else none
   | none => none
  | _ => none
def resultsOf (st : St) : List ResultVar → Option (List A)
 | [] => some []
 | v :: r => match resultOf T st v, resultsOf st r with
  | some a, some s => some (a :: s)
  | _, _ => none
def isXp : Id → Bool
 | .l _ => false
 | .x _ => true
def isXB (b : Blk) : Bool := !b.box || okIL isXp b.es
def finish (rs : List ResultVar) (st : St) : Free :=
 match resultsOf T st rs with
 | none => .bad
 | some vs => match outAs st vs with
  | none => .bad
  | some (ws, st1) => if (st1.ext.all isXB) = true then
    (match ws with
    | [a] => .ret a st1.ext
    | ws => .ret (.tup ws) st1.ext) else .bad
def execFun (fn : Func) (as : List A) (X : List Blk) : Free :=
 match fn.body with
 | none => .bad
 | some c => match inT ⟨[], [], X⟩ 0 as with
  | none => .bad
  | some (bs, st) => exec T by_ ann c 0 ⟨bs ++ List.replicate (fn.ntmps - bs.length) .any, st.mem, st.ext⟩ fun x st => match x with
   | .exit _ => .bad
   | _ => finish T fn.results.toList st
end
section
variable {T : Tab} {by_ : Nat → Mode} {ann : Ann} {Φ : Known}
theorem Runs.ret {a r x X} (h : Le a r) (hx : x = X) : Runs T by_ ann Φ (.ret a x) r X := ⟨1, h, hx⟩
theorem Runs.ask {b k r X} (h : Runs T by_ ann Φ (k b) r X) : Runs T by_ ann Φ (.ask b k) r X := let ⟨m, h⟩ := h; ⟨m + 1, h⟩
theorem Runs.split {b k r X} (h1 : b = true → Runs T by_ ann Φ (k true) r X) (h2 : b = false → Runs T by_ ann Φ (k false) r X) : Runs T by_ ann Φ (.ask b k) r X := by
 cases b
 ·exact Runs.ask (h2 rfl)
 ·exact Runs.ask (h1 rfl)
theorem Runs.chk {p k r X} (hp : p = true) (h : Runs T by_ ann Φ k r X) : Runs T by_ ann Φ (.chk p k) r X := let ⟨m, h⟩ := h; ⟨m + 1, hp, h⟩
theorem Runs.call {f as x k a x' r X} (hc : Φ.calls f as x a x') (h : Runs T by_ ann Φ (k a x') r X) : Runs T by_ ann Φ (.call f as x k) r X :=
 let ⟨m, h⟩ := h; ⟨m + 1, a, x', hc, h⟩
theorem Runs.draw {ops st st1 k r X} (hd : Φ.draws ops st st1) (h : Runs T by_ ann Φ (k st1) r X) : Runs T by_ ann Φ (.draw ops st k) r X :=
 let ⟨m, h⟩ := h; ⟨m + 1, st1, hd, h⟩
theorem Runs.join {keep st k r X} (h : Runs T by_ ann Φ (k (st.only keep)) r X) : Runs T by_ ann Φ (.join keep st k) r X :=
 let ⟨m, h⟩ := h; ⟨m + 1, h⟩
theorem Runs.done {r X} : Runs T by_ ann Φ .done r X := ⟨1, trivial⟩
theorem Runs.loop {keep n c st K r X} (h : Runs T by_ ann Φ (exec T by_ ann c n (st.only keep) (back keep n c K)) r X) : Runs T by_ ann Φ (.loop keep n c st K) r X :=
 let ⟨m, h⟩ := h; ⟨m + 1, h⟩
theorem RunsN.mono {m m' t r X} (h : RunsN T by_ ann Φ m t r X) (hm : m ≤ m') : RunsN T by_ ann Φ m' t r X := by
 induction m generalizing m' t with
 | zero => exact h.elim
 | succ m ih =>
  obtain ⟨m', rfl⟩ : ∃ k, m' = k + 1 := ⟨m' - 1, by omega⟩
  cases t with
  | ret a x => exact h
  | ask b k => exact ih (t := k b) h (by omega)
  | chk p k => exact ⟨h.1, ih h.2 (by omega)⟩
  | call f as x k => obtain ⟨a, x', h1, h2⟩ := h; exact ⟨a, x', h1, ih h2 (by omega)⟩
  | draw ops st k => obtain ⟨st1, h1, h2⟩ := h; exact ⟨st1, h1, ih h2 (by omega)⟩
  | both a b => exact ⟨ih h.1 (by omega), ih h.2 (by omega)⟩
  | done => trivial
  | join keep st k => exact ih (t := k (st.only keep)) h (by omega)
  | loop keep n c st K => exact ih (t := exec T by_ ann c n (st.only keep) (back keep n c K)) h (by omega)
  | bad => exact h
theorem Runs.both {a b r X} (h1 : Runs T by_ ann Φ a r X) (h2 : Runs T by_ ann Φ b r X) : Runs T by_ ann Φ (.both a b) r X := by
 obtain ⟨m1, h1⟩ := h1
 obtain ⟨m2, h2⟩ := h2
 exact ⟨m1 + m2 + 1, h1.mono (by omega), h2.mono (by omega)⟩
end
end Go.AM

namespace Go.AM
open Go
structure Loc where
 blk : Nat
 base : Nat
 cap : Nat
structure Ctx where
 μ : Id → Loc
 B : Id → Option Blk
 I : Nat → Prop
 F : Nat
def flat (es : List A) : List A := es.flatMap A.cells
def Ones (l : List Value) : Prop := ∀ v ∈ l, v.oneCell' = true
def Free0 (c : Array Value) (fz : Nat × Nat) : Prop := ∀ o, o < c.size → ¬ (fz.1 ≤ o ∧ o < fz.2)
def MsOk (l : Loc) (b : Blk) (off len tot : Nat) (x : Value) : Prop :=
 ∃ a cp, x = .slice a len cp ∧ len ≤ cp ∧ off + cp ≤ l.cap ∧ off + len ≤ tot ∧ (0 < cp → a = some ⟨l.blk, l.base + off * b.k, none⟩)
def RefOk (l : Loc) (b : Blk) (i o tot : Nat) (x : Value) : Prop :=
 x = .pointer (some ⟨l.blk, l.base + i * b.k + o, none⟩) ∧ i < tot
def Ctx.bare (C : Ctx) : Ctx := { C with B := fun _ => none }
def capM : Nat := 9223372036854775807
inductive RepL : Ctx → World → List A → List Value → (Nat → Nat) → Prop
 | nil {C w} {f} (h : ∀ b, f b = 0) : RepL C w [] [] f
 | any {C w} {x r xs f} (h : RepL C w r xs f) : RepL C w (.any :: r) (x :: xs) f
 | v {C w} {x r xs f} (h : RepL C w r xs f) : RepL C w (.v x :: r) (x :: xs) f
 | ifc {C w} {t y r xs f} (h : RepL C w r xs f) : RepL C w (.ifc :: r) (.iface t y :: xs) f
 | agg {C w} {cs ys r xs f f1 f2} (hf : ∀ b, f b = f1 b + f2 b) (h1 : RepL C w cs ys f1) (h : RepL C w r xs f2) : RepL C w (.agg cs :: r) (.agg ys.toArray :: xs) f
 | tup {C w} {cs ys r xs f f1 f2} (hf : ∀ b, f b = f1 b + f2 b) (h1 : RepL C w cs ys f1) (h : RepL C w r xs f2) : RepL C w (.tup cs :: r) (.tuple ys.toArray :: xs) f
 | nils {C w} {s} {a : Option Addr} {r xs f} (h : RepL C w r xs f) : RepL C w (.sl s [] :: r) (.slice a 0 0 :: xs) f
 | sl {C w} {s es} {a : Addr} {cap k : Nat} {c : Array Value} {e : TypeId} {fz : Nat × Nat} {r xs f f1} (hrow : w.heap[a.block]? = some (.cells c e fz)) (hsp : a.spot = none) (hk : ∀ x ∈ es, x.cells.length = k)
   (hcap : es.length ≤ cap) (hsz : a.off + es.length * k ≤ c.size) (hI : C.I a.block) (hs : s = .sh ∨ s = .fr ∧ fz.2 ≤ fz.1) (ho : Ones ((c.toList.drop a.off).take (es.length * k)))
   (hf : ∀ b, f1 b = 0) (h1 : RepL C.bare w (flat es) ((c.toList.drop a.off).take (es.length * k)) f1) (h : RepL C w r xs f) :
   RepL C w (.sl s es :: r) (.slice (some a) es.length cap :: xs) f
 | ow {C w} {k es} {a : Addr} {cap : Nat} {c : Array Value} {e : TypeId} {fz : Nat × Nat} {r xs f f1 f2} (hrow : w.heap[a.block]? = some (.cells c e fz)) (hsp : a.spot = none) (hk : ∀ x ∈ es, x.cells.length = k)
   (hcap : es.length ≤ cap) (hsz : a.off + cap * k ≤ c.size) (hF : cap ≤ capM) (hfz : Free0 c fz) (ho : Ones ((c.toList.drop a.off).take (es.length * k)))
   (hf : ∀ b, f b = (if b = a.block then 1 else 0) + f1 b + f2 b) (h1 : RepL C.bare w (flat es) ((c.toList.drop a.off).take (es.length * k)) f1) (h : RepL C w r xs f2) :
   RepL C w (.sl (.ow k) es :: r) (.slice (some a) es.length cap :: xs) f
 | ms {C w} {b off len tot x r xs f blk} (hb : C.B b = some blk) (h1 : x.oneCell' = true) (hm : blk.on = true → tot ≤ blk.es.length ∧ (tot = blk.es.length → MsOk (C.μ b) blk off len tot x))
   (h : RepL C w r xs f) : RepL C w (.ms b off len tot :: r) (x :: xs) f
 | ref {C w} {b i o tot x r xs f blk} (hb : C.B b = some blk) (h1 : x.oneCell' = true) (hm : blk.on = true → tot ≤ blk.es.length ∧ (tot = blk.es.length → RefOk (C.μ b) blk i o tot x))
   (h : RepL C w r xs f) : RepL C w (.ref b i o tot :: r) (x :: xs) f
 | ptr {C w} {es} {i o : Nat} {a : Addr} {k : Nat} {c : Array Value} {e : TypeId} {fz : Nat × Nat} {r xs f f1} (hrow : w.heap[a.block]? = some (.cells c e fz)) (hsp : a.spot = none) (hk : ∀ x ∈ es, x.cells.length = k)
   (hsz : a.off + es.length * k ≤ c.size) (hI : C.I a.block) (hi : i < es.length) (ho : Ones ((c.toList.drop a.off).take (es.length * k)))
   (hf : ∀ b, f1 b = 0) (h1 : RepL C.bare w (flat es) ((c.toList.drop a.off).take (es.length * k)) f1) (h : RepL C w r xs f) :
   RepL C w (.ptr es i o :: r) (.pointer (some ⟨a.block, a.off + i * k + o, none⟩) :: xs) f
 | fn {C w} {g fs cs ys zs r xs f f1 f2} (hf1 : ∀ b, f1 b = 0) (hf2 : ∀ b, f2 b = 0) (h1 : RepL C w fs ys f1) (h2 : RepL C w cs zs f2) (h : RepL C w r xs f) :
   RepL C w (.fn g fs cs :: r) (.func g ys.toArray zs.toArray :: xs) f
 | own {C w} {v : A} {n : Nat} {c : Array Value} {e : TypeId} {fz : Nat × Nat} {r xs f f2} {o : Nat} (hrow : w.heap[n]? = some (.cells c e fz)) (hsz : o + v.cells.length ≤ c.size) (hfz : Free0 c fz) (ho : Ones ((c.toList.drop o).take v.cells.length))
   (hp : plainL v.cells = true) (hf : ∀ b, f b = (if b = n then 1 else 0) + f2 b) (h1 : RepL C.bare w v.cells ((c.toList.drop o).take v.cells.length) fun _ => 0) (h : RepL C w r xs f2) :
   RepL C w (.own v :: r) (.pointer (some ⟨n, o, none⟩) :: xs) f
def Rep1 (C : Ctx) (w : World) (a : A) (x : Value) (f : Nat → Nat) : Prop := RepL C w [a] [x] f
theorem RepL.congr {C w l xs f g} (h : RepL C w l xs f) (hg : ∀ b, g b = f b) : RepL C w l xs g := by
 induction h generalizing g with
 | nil h => exact .nil fun b => by rw [hg, h]
 | any _ ih => exact .any (ih hg)
 | v _ ih => exact .v (ih hg)
 | ifc _ ih => exact .ifc (ih hg)
 | agg hf h1 _ _ ih => exact .agg (fun b => by rw [hg]; exact hf b) h1 (ih fun _ => rfl)
 | tup hf h1 _ _ ih => exact .tup (fun b => by rw [hg]; exact hf b) h1 (ih fun _ => rfl)
 | nils _ ih => exact .nils (ih hg)
 | sl hrow hsp hk hcap hsz hI hs ho hf h1 _ _ ih => exact .sl hrow hsp hk hcap hsz hI hs ho hf h1 (ih hg)
 | ow hrow hsp hk hcap hsz hF hfz ho hf h1 _ _ ih => exact .ow hrow hsp hk hcap hsz hF hfz ho (fun b => by rw [hg]; exact hf b) h1 (ih fun _ => rfl)
 | ms hb h1 hm _ ih => exact .ms hb h1 hm (ih hg)
 | ref hb h1 hm _ ih => exact .ref hb h1 hm (ih hg)
 | ptr hrow hsp hk hsz hI hi ho hf h1 _ _ ih => exact .ptr hrow hsp hk hsz hI hi ho hf h1 (ih hg)
 | fn hf1 hf2 h1 h2 _ _ _ ih => exact .fn hf1 hf2 h1 h2 (ih hg)
 | own hrow hsz hfz ho hp hf h1 _ _ ih => exact .own hrow hsz hfz ho hp (fun b => by rw [hg]; exact hf b) h1 (ih fun _ => rfl)
theorem RepL.length {C w l xs f} (h : RepL C w l xs f) : l.length = xs.length := by
 induction h <;> first | (simp only [List.length_cons, *]; done) | simp_all
theorem RepL.app {C w l xs f m ys g k} (h : RepL C w l xs f) (h' : RepL C w m ys g) (hk : ∀ b, k b = f b + g b) : RepL C w (l ++ m) (xs ++ ys) k := by
 induction h generalizing k with
 | nil h => exact h'.congr fun b => by rw [hk, h]; omega
 | any _ ih => exact .any (ih h' hk)
 | v _ ih => exact .v (ih h' hk)
 | ifc _ ih => exact .ifc (ih h' hk)
 | agg hf h1 _ _ ih => exact .agg (fun b => by rw [hk, hf]; exact Nat.add_assoc _ _ _) h1 (ih h' fun _ => rfl)
 | tup hf h1 _ _ ih => exact .tup (fun b => by rw [hk, hf]; exact Nat.add_assoc _ _ _) h1 (ih h' fun _ => rfl)
 | nils _ ih => exact .nils (ih h' hk)
 | sl hrow hsp hk' hcap hsz hI hs ho hf h1 _ _ ih => exact .sl hrow hsp hk' hcap hsz hI hs ho hf h1 (ih h' hk)
 | ow hrow hsp hk' hcap hsz hF hfz ho hf h1 _ _ ih => exact .ow hrow hsp hk' hcap hsz hF hfz ho (fun b => by rw [hk, hf]; exact Nat.add_assoc _ _ _) h1 (ih h' fun _ => rfl)
 | ms hb h1 hm _ ih => exact .ms hb h1 hm (ih h' hk)
 | ref hb h1 hm _ ih => exact .ref hb h1 hm (ih h' hk)
 | ptr hrow hsp hk' hsz hI hi ho hf h1 _ _ ih => exact .ptr hrow hsp hk' hsz hI hi ho hf h1 (ih h' hk)
 | fn hf1 hf2 h1 h2 _ _ _ ih => exact .fn hf1 hf2 h1 h2 (ih h' hk)
 | own hrow hsz hfz ho hp hf h1 _ _ ih => exact .own hrow hsz hfz ho hp (fun b => by rw [hk, hf]; exact Nat.add_assoc _ _ _) h1 (ih h' fun _ => rfl)
theorem z0 {C : Ctx} {w : World} : RepL C w [] [] fun _ => 0 := .nil fun _ => rfl
theorem RepL.cons {C w a r xs f} (h : RepL C w (a :: r) xs f) : ∃ x ys f1 f2, xs = x :: ys ∧ (∀ b, f b = f1 b + f2 b) ∧ Rep1 C w a x f1 ∧ RepL C w r ys f2 := by
 cases h with
 | any h => exact ⟨_, _, fun _ => 0, f, rfl, fun b => by simp, .any z0, h⟩
 | v h => exact ⟨_, _, fun _ => 0, f, rfl, fun b => by simp, .v z0, h⟩
 | ifc h => exact ⟨_, _, fun _ => 0, f, rfl, fun b => by simp, .ifc z0, h⟩
 | agg hf h1 h => exact ⟨_, _, _, _, rfl, hf, .agg (fun b => rfl) h1 z0, h⟩
 | tup hf h1 h => exact ⟨_, _, _, _, rfl, hf, .tup (fun b => rfl) h1 z0, h⟩
 | nils h => exact ⟨_, _, fun _ => 0, f, rfl, fun b => by simp, .nils z0, h⟩
 | sl hrow hsp hk hcap hsz hI hs ho hf h1 h => exact ⟨_, _, fun _ => 0, f, rfl, fun b => by simp, .sl hrow hsp hk hcap hsz hI hs ho hf h1 z0, h⟩
 | ow hrow hsp hk hcap hsz hF hfz ho hf h1 h => exact ⟨_, _, _, _, rfl, hf, .ow hrow hsp hk hcap hsz hF hfz ho (fun b => rfl) h1 z0, h⟩
 | ms hb h1 hm h => exact ⟨_, _, fun _ => 0, f, rfl, fun b => by simp, .ms hb h1 hm z0, h⟩
 | ref hb h1 hm h => exact ⟨_, _, fun _ => 0, f, rfl, fun b => by simp, .ref hb h1 hm z0, h⟩
 | ptr hrow hsp hk hsz hI hi ho hf h1 h => exact ⟨_, _, fun _ => 0, f, rfl, fun b => by simp, .ptr hrow hsp hk hsz hI hi ho hf h1 z0, h⟩
 | fn hf1 hf2 h1 h2 h => exact ⟨_, _, fun _ => 0, f, rfl, fun b => by simp, .fn hf1 hf2 h1 h2 z0, h⟩
 | @own _ _ _ n _ _ _ _ _ _ f2 _ hrow hsz hfz ho hp hf h1 h => exact ⟨_, _, fun b => if b = n then 1 else 0, f2, rfl, hf, .own hrow hsz hfz ho hp (f2 := fun _ => 0) (fun b => rfl) h1 z0, h⟩
theorem Rep1.cons {C w a r x xs f f1 f2} (h : Rep1 C w a x f1) (h' : RepL C w r xs f2) (hf : ∀ b, f b = f1 b + f2 b) : RepL C w (a :: r) (x :: xs) f :=
 RepL.app h h' hf
theorem RepL.split {C w} : ∀ {l m : List A} {xs f}, RepL C w (l ++ m) xs f → ∃ ys zs f1 f2, xs = ys ++ zs ∧ (∀ b, f b = f1 b + f2 b) ∧ RepL C w l ys f1 ∧ RepL C w m zs f2 ∧ ys.length = l.length
 | [], m, xs, f, h => ⟨[], xs, fun _ => 0, f, rfl, fun b => by simp, z0, h, rfl⟩
 | a :: l, m, xs, f, h => by
  obtain ⟨x, ys, f1, f2, rfl, hf, h1, h2⟩ := RepL.cons h
  obtain ⟨us, vs, g1, g2, rfl, hg, h3, h4, hl⟩ := RepL.split h2
  exact ⟨x :: us, vs, fun b => f1 b + g1 b, g2, rfl, fun b => by show f b = f1 b + g1 b + g2 b; rw [hf, hg]; omega, h1.cons h3 (fun _ => rfl), h4, by simp [hl]⟩
theorem RepL.frame {C w w' l xs f} (h : RepL C w l xs f) (hI : ∀ b, C.I b → w'.heap[b]? = w.heap[b]?) (hf : ∀ b, 1 ≤ f b → w'.heap[b]? = w.heap[b]?) : RepL C w' l xs f := by
 induction h with
 | nil h => exact .nil h
 | any _ ih => exact .any (ih hI hf)
 | v _ ih => exact .v (ih hI hf)
 | ifc _ ih => exact .ifc (ih hI hf)
 | agg he _ _ ih1 ih => exact .agg he (ih1 hI fun b hb => hf b (by rw [he]; omega)) (ih hI fun b hb => hf b (by rw [he]; omega))
 | tup he _ _ ih1 ih => exact .tup he (ih1 hI fun b hb => hf b (by rw [he]; omega)) (ih hI fun b hb => hf b (by rw [he]; omega))
 | nils _ ih => exact .nils (ih hI hf)
 | sl hrow hsp hk hcap hsz hI' hs ho hz _ _ ih1 ih => exact .sl (by rw [hI _ hI']; exact hrow) hsp hk hcap hsz hI' hs ho hz (ih1 hI fun b hb => by rw [hz] at hb; omega) (ih hI hf)
 | @ow _ _ k es a cap c e fz r xs f f1 f2 hrow hsp hk hcap hsz hF hfz ho he _ _ ih1 ih =>
  exact .ow (by rw [hf a.block (by rw [he]; simp; omega)]; exact hrow) hsp hk hcap hsz hF hfz ho he (ih1 hI fun b hb => hf b (by rw [he]; omega)) (ih hI fun b hb => hf b (by rw [he]; omega))
 | ms hb h1 hm _ ih => exact .ms hb h1 hm (ih hI hf)
 | ref hb h1 hm _ ih => exact .ref hb h1 hm (ih hI hf)
 | ptr hrow hsp hk hsz hI' hi ho hz _ _ ih1 ih => exact .ptr (by rw [hI _ hI']; exact hrow) hsp hk hsz hI' hi ho hz (ih1 hI fun b hb => by rw [hz] at hb; omega) (ih hI hf)
 | fn hf1 hf2 _ _ _ ih1 ih2 ih => exact .fn hf1 hf2 (ih1 hI fun b hb => by rw [hf1] at hb; omega) (ih2 hI fun b hb => by rw [hf2] at hb; omega) (ih hI hf)
 | @own _ _ _ n _ _ _ _ _ _ _ _ hrow hsz hfz ho hp he _ _ ih1 ih => exact .own (by rw [hf n (by rw [he]; simp)]; exact hrow) hsz hfz ho hp he (ih1 hI fun b hb => by simp at hb) (ih hI fun b hb => hf b (by rw [he]; omega))
structure Ctx.To (C D : Ctx) : Prop where
 I : ∀ b, C.I b → D.I b
 F : D.F = C.F
 B : ∀ i blk, C.B i = some blk → ∃ blk', D.B i = some blk' ∧ (blk'.on = true → blk.on = true ∧ blk.es.length ≤ blk'.es.length ∧
  (blk.es.length = blk'.es.length → blk'.k = blk.k ∧ D.μ i = C.μ i) ∧ (D.μ i = C.μ i ∨ C.F ≤ (D.μ i).blk))
theorem Ctx.To.refl (C : Ctx) : C.To C := ⟨fun _ h => h, rfl, fun i blk h => ⟨blk, h, fun ho => ⟨ho, Nat.le_refl _, fun _ => ⟨rfl, rfl⟩, .inl rfl⟩⟩⟩
theorem Ctx.To.trans {C D E : Ctx} (h : C.To D) (k : D.To E) : C.To E :=
 ⟨fun b hb => k.I b (h.I b hb), k.F.trans h.F, fun i blk hb => by
  obtain ⟨b1, h1, g1⟩ := h.B i blk hb
  obtain ⟨b2, h2, g2⟩ := k.B i b1 h1
  refine ⟨b2, h2, fun ho => ?_⟩
  obtain ⟨o1, l1, e1, m1⟩ := g2 ho
  obtain ⟨o0, l0, e0, m0⟩ := g1 o1
  refine ⟨o0, by omega, fun e => ?_, ?_⟩
  ·obtain ⟨a, b⟩ := e1 (by omega)
   obtain ⟨c, d⟩ := e0 (by omega)
   exact ⟨a.trans c, b.trans d⟩
  ·rcases m1 with m1 | m1
   ·rw [m1]; exact m0
   ·exact .inr (by rw [← h.F]; exact m1)⟩
theorem Ctx.To.bare {C D : Ctx} (t : C.To D) : C.bare.To D.bare := ⟨t.I, t.F, fun i blk h => by cases h⟩
def Ctx.for (C : Ctx) (box : Bool) : Ctx := if box then C else C.bare
theorem Ctx.To.for {C D : Ctx} (t : C.To D) (b : Bool) : (C.for b).To (D.for b) := by cases b; exact t.bare; exact t
theorem Ctx.bareTo (C : Ctx) : C.bare.To C := ⟨fun _ h => h, rfl, fun i blk h => by cases h⟩
theorem Ctx.forTo (C : Ctx) (b : Bool) : (C.for b).To C := by cases b; exact C.bareTo; exact .refl C
theorem Ctx.for_I (C : Ctx) (b : Bool) : (C.for b).I = C.I := by cases b <;> rfl
theorem Ctx.for_true (C : Ctx) : C.for true = C := rfl
theorem Ctx.for_false (C : Ctx) : C.for false = C.bare := rfl
theorem RepL.to {C D w l xs f} (h : RepL C w l xs f) (t : C.To D) : RepL D w l xs f := by
 induction h generalizing D with
 | nil h => exact .nil h
 | any _ ih => exact .any (ih t)
 | v _ ih => exact .v (ih t)
 | ifc _ ih => exact .ifc (ih t)
 | agg he _ _ ih1 ih => exact .agg he (ih1 t) (ih t)
 | tup he _ _ ih1 ih => exact .tup he (ih1 t) (ih t)
 | nils _ ih => exact .nils (ih t)
 | sl hrow hsp hk hcap hsz hI hs ho hz _ _ ih1 ih => exact .sl hrow hsp hk hcap hsz (t.I _ hI) hs ho hz (ih1 t.bare) (ih t)
 | ow hrow hsp hk hcap hsz hF hfz ho he _ _ ih1 ih => exact .ow hrow hsp hk hcap hsz hF hfz ho he (ih1 t.bare) (ih t)
 | ms hb h1 hm _ ih =>
  obtain ⟨blk', hb', g⟩ := t.B _ _ hb
  refine .ms hb' h1 (fun ho => ?_) (ih t)
  obtain ⟨o, l, e, _⟩ := g ho
  obtain ⟨m1, m2⟩ := hm o
  refine ⟨by omega, fun et => ?_⟩
  obtain ⟨ek, em⟩ := e (by omega)
  have := m2 (by omega)
  rw [em]
  unfold MsOk at *
  rw [ek]; exact this
 | ref hb h1 hm _ ih =>
  obtain ⟨blk', hb', g⟩ := t.B _ _ hb
  refine .ref hb' h1 (fun ho => ?_) (ih t)
  obtain ⟨o, l, e, _⟩ := g ho
  obtain ⟨m1, m2⟩ := hm o
  refine ⟨by omega, fun et => ?_⟩
  obtain ⟨ek, em⟩ := e (by omega)
  have := m2 (by omega)
  rw [em]
  unfold RefOk at *
  rw [ek]; exact this
 | ptr hrow hsp hk hsz hI hi ho hz _ _ ih1 ih => exact .ptr hrow hsp hk hsz (t.I _ hI) hi ho hz (ih1 t.bare) (ih t)
 | fn hf1 hf2 _ _ _ ih1 ih2 ih => exact .fn hf1 hf2 (ih1 t) (ih2 t) (ih t)
 | own hrow hsz hfz ho hp he _ _ ih1 ih => exact .own hrow hsz hfz ho hp he (ih1 t.bare) (ih t)
def BlkOk (C : Ctx) (w : World) (i : Id) (b : Blk) (f : Nat → Nat) : Prop :=
 ∃ c e fz, w.heap[(C.μ i).blk]? = some (.cells c e fz) ∧ (Free0 c fz ∧ (C.μ i).cap ≤ capM) ∧ (∀ x ∈ b.es, x.cells.length = b.k) ∧ b.es.length ≤ (C.μ i).cap ∧
  (C.μ i).base + (C.μ i).cap * b.k ≤ c.size ∧ (b.box = true → ∀ n, f n = 0) ∧ Ones ((c.toList.drop (C.μ i).base).take (b.es.length * b.k)) ∧ RepL (C.for b.box) w (flat b.es) ((c.toList.drop (C.μ i).base).take (b.es.length * b.k)) f
inductive MemR (C : Ctx) (w : World) : List (Id × Blk) → (Nat → Nat) → Prop
 | nil {f} (h : ∀ b, f b = 0) : MemR C w [] f
 | off {i b r f} (ho : b.on = false) (h : MemR C w r f) : MemR C w ((i, b) :: r) f
 | nul {i b r f} (ho : b.on = true) (he : b.es = []) (hc : (C.μ i).cap = 0) (h : MemR C w r f) : MemR C w ((i, b) :: r) f
 | row {i b r f f1 f2} (ho : b.on = true) (hb : BlkOk C w i b f1) (hf : ∀ n, f n = (if n = (C.μ i).blk then 1 else 0) + f1 n + f2 n) (h : MemR C w r f2) : MemR C w ((i, b) :: r) f
theorem MemR.congr {C w l f g} (h : MemR C w l f) (hg : ∀ b, g b = f b) : MemR C w l g := by
 induction h generalizing g with
 | nil h => exact .nil fun b => by rw [hg, h]
 | off ho _ ih => exact .off ho (ih hg)
 | nul ho he hc _ ih => exact .nul ho he hc (ih hg)
 | row ho hb hf _ ih => exact .row ho hb (fun n => by rw [hg]; exact hf n) (ih fun _ => rfl)
theorem MemR.app {C w l f m g k} (h : MemR C w l f) (h' : MemR C w m g) (hk : ∀ b, k b = f b + g b) : MemR C w (l ++ m) k := by
 induction h generalizing k with
 | nil h => exact h'.congr fun b => by rw [hk, h]; omega
 | off ho _ ih => exact .off ho (ih hk)
 | nul ho he hc _ ih => exact .nul ho he hc (ih hk)
 | row ho hb hf _ ih => exact .row ho hb (fun n => by rw [hk, hf]; exact Nat.add_assoc _ _ _) (ih fun _ => rfl)
theorem MemR.split {C w} : ∀ {l m : List (Id × Blk)} {f}, MemR C w (l ++ m) f → ∃ f1 f2, (∀ b, f b = f1 b + f2 b) ∧ MemR C w l f1 ∧ MemR C w m f2
 | [], m, f, h => ⟨fun _ => 0, f, fun b => by simp, .nil fun _ => rfl, h⟩
 | (i, b) :: l, m, f, h => by
  cases h with
  | off ho h => obtain ⟨f1, f2, hf, h1, h2⟩ := MemR.split h; exact ⟨f1, f2, hf, .off ho h1, h2⟩
  | nul ho he hc h => obtain ⟨f1, f2, hf, h1, h2⟩ := MemR.split h; exact ⟨f1, f2, hf, .nul ho he hc h1, h2⟩
  | row ho hb hf h =>
   obtain ⟨f1, f2, hg, h1, h2⟩ := MemR.split h
   exact ⟨_, f2, fun b => by rw [hf, hg]; exact (Nat.add_assoc _ _ _).symm, .row ho hb (fun _ => rfl) h1, h2⟩
theorem BlkOk.frame {C w w' i b f} (h : BlkOk C w i b f) (hI : ∀ b, C.I b → w'.heap[b]? = w.heap[b]?) (hf : ∀ b, 1 ≤ f b → w'.heap[b]? = w.heap[b]?)
  (hb : w'.heap[(C.μ i).blk]? = w.heap[(C.μ i).blk]?) : BlkOk C w' i b f := by
 obtain ⟨c, e, fz, h1, h2, h3, h4, h5, hx, h5', h6⟩ := h
 exact ⟨c, e, fz, by rw [hb]; exact h1, h2, h3, h4, h5, hx, h5', h6.frame (by rw [Ctx.for_I]; exact hI) hf⟩
theorem MemR.frame {C w w' l f} (h : MemR C w l f) (hI : ∀ b, C.I b → w'.heap[b]? = w.heap[b]?) (hf : ∀ b, 1 ≤ f b → w'.heap[b]? = w.heap[b]?) : MemR C w' l f := by
 induction h with
 | nil h => exact .nil h
 | off ho _ ih => exact .off ho (ih hf)
 | nul ho he hc _ ih => exact .nul ho he hc (ih hf)
 | row ho hb he _ ih =>
  exact .row ho (hb.frame hI (fun b h => hf b (by rw [he]; omega)) (hf _ (by rw [he]; simp; omega))) he (ih fun b h => hf b (by rw [he]; omega))
theorem BlkOk.to {C D w i b f} (h : BlkOk C w i b f) (t : C.To D) (hm : D.μ i = C.μ i) : BlkOk D w i b f := by
 obtain ⟨c, e, fz, h1, h2, h3, h4, h5, hx, h5', h6⟩ := h
 exact ⟨c, e, fz, by rw [hm]; exact h1, ⟨h2.1, by rw [hm]; exact h2.2⟩, h3, by rw [hm]; exact h4, by rw [hm]; exact h5, hx, by rw [hm]; exact h5', by rw [hm]; exact h6.to (t.for _)⟩
theorem MemR.to {C D w l f} (h : MemR C w l f) (t : C.To D) (hm : ∀ i b, (i, b) ∈ l → b.on = true → D.μ i = C.μ i) : MemR D w l f := by
 induction h with
 | nil h => exact .nil h
 | off ho _ ih => exact .off ho (ih fun i b h => hm i b (List.mem_cons_of_mem _ h))
 | nul ho he hc _ ih => exact .nul ho he (by rw [hm _ _ (List.mem_cons_self ..) ho]; exact hc) (ih fun i b h => hm i b (List.mem_cons_of_mem _ h))
 | row ho hb he _ ih =>
  have e := hm _ _ (List.mem_cons_self ..) ho
  exact .row ho (hb.to t e) (by rw [e]; exact he) (ih fun i b h => hm i b (List.mem_cons_of_mem _ h))
end Go.AM

namespace Go.AM
open Go
def TK.is : TK → TypeDesc → Program → Bool
 | .int k, .int k', _ => k == k'
 | .bool, .bool, _ => true
 | .string, .string, _ => true
 | .slice e, .slice e', _ => e == e'
 | .array n e, .array n' e', _ => n == n' && e == e'
 | .struct fs, .struct gs, P => fs == (gs.toList.map fun g => (g.offset, P.cellsOf g.type, g.type)) && fs.all fun f => f.2.1 != 0
 | .pointer e, .pointer e', _ => e == e'
 | .func, .func .., _ => true
 | _, _, _ => false
def simpleEq : Value → Value → Bool
 | .int k a, .int k' b => k == k' && a == b
 | .bool a, .bool b => a == b
 | .string a, .string b => a.data.toList == b.data.toList
 | .slice none 0 0, .slice none 0 0 => true
 | .pointer none, .pointer none => true
 | .nilFunc, .nilFunc => true
 | .nilIface, .nilIface => true
 | _, _ => false
theorem simpleEq_eq {a b : Value} (h : simpleEq a b = true) : a = b ∧ a.oneCell' = true := by
 unfold simpleEq at h
 split at h <;> simp_all [Value.oneCell']
 rename_i x y
 cases x; cases y; simp_all
def simpleEqs : List Value → List Value → Bool
 | [], [] => true
 | a :: r, b :: s => simpleEq a b && simpleEqs r s
 | _, _ => false
theorem simpleEqs_eq : ∀ {l m : List Value}, simpleEqs l m = true → l = m ∧ Ones m
 | [], [], _ => ⟨rfl, by simp [Ones]⟩
 | a :: r, b :: s, h => by
  simp only [simpleEqs, Bool.and_eq_true] at h
  obtain ⟨rfl, h1⟩ := simpleEq_eq h.1
  obtain ⟨rfl, h2⟩ := simpleEqs_eq h.2
  refine ⟨rfl, ?_⟩
  intro v hv
  cases hv with
  | head => exact h1
  | tail _ hv => exact h2 v hv
 | [], _ :: _, h => by simp [simpleEqs] at h
 | _ :: _, [], h => by simp [simpleEqs] at h
def flatB (P : Program) (gs : Array Field) : Bool := gs.toList.all fun g => match P.underlying g.type with | some (.int _) => true | some .bool => true | _ => false
def cmpB (P : Program) (t : Nat) : TypeDesc → Bool
 | .struct gs => !flatB P gs || (gs.toList.all (fun g => !(g.name == "_")) && !P.stoodInHeld t && !P.eqGuardType P.depth t)
 | _ => true
def rowB (P : Program) (t : Nat) (r : TRow) : Bool :=
 (r.size == 0 && (match r.kind with | .other => true | _ => false)) ||
 match P.info? t, P.underlying t with
 | some i, some d => cmpB P t d && r.kind.is d P && i.size == r.size && i.bytes == r.bytes && r.size != 0 && decide (r.bytes ≤ 65536) &&
   (match i.zero with
   | some (.agg cs) => r.isAgg && simpleEqs cs.toList r.zero
   | some x => !r.isAgg && simpleEqs [x] r.zero
   | none => false) && r.zero.length == r.size
 | _, _ => false
def tabB (P : Program) (T : Tab) : Bool := (T.all fun l => l.length == 16) && (List.range (16 * T.length)).all fun t => rowB P t (T.row t)
structure RowOk (P : Program) (t : Nat) (r : TRow) (i : TypeInfo) (d : TypeDesc) (z : Value) : Prop where
 info : P.info? t = some i
 under : P.underlying t = some d
 kind : r.kind.is d P = true
 size : i.size = r.size
 bytes : i.bytes = r.bytes
 small : r.bytes ≤ 65536
 zero : i.zero = some z
 zeros : z.cells.toList = r.zero
 agg : if r.isAgg then z = .agg r.zero.toArray else r.zero = [z]
 ones : Ones r.zero
 len : r.zero.length = r.size
 cmp : cmpB P t d = true
def TabOk (P : Program) (T : Tab) : Prop := ∀ t, ((T.row t).size = 0 ∧ (T.row t).kind = .other) ∨ ∃ i d z, RowOk P t (T.row t) i d z
theorem tab_other {T : Tab} {t : Nat} (h : 16 * T.length ≤ t) : T.row t = default := by
 unfold Tab.row
 have : T.length ≤ t / 16 := by omega
 simp [List.getD, List.getElem?_eq_none this]
theorem tabOk_of {P : Program} {T : Tab} (h : tabB P T = true) : TabOk P T := by
 intro t
 simp only [tabB, Bool.and_eq_true, List.all_eq_true, List.mem_range] at h
 by_cases ht : t < 16 * T.length
 ·have := h.2 t ht
  simp only [rowB, Bool.or_eq_true] at this
  rcases this with h0 | h1
  ·left
   simp only [Bool.and_eq_true, beq_iff_eq] at h0
   refine ⟨h0.1, ?_⟩
   have := h0.2
   split at this
   ·assumption
   ·simp at this
  ·right
   split at h1
   ·rename_i i d hi hd
    simp only [Bool.and_eq_true, beq_iff_eq, bne_iff_ne, decide_eq_true_eq] at h1
    obtain ⟨⟨⟨⟨⟨⟨⟨h0, h1⟩, h2⟩, h3⟩, h4⟩, h5⟩, h6⟩, h7⟩ := h1
    split at h6
    ·rename_i cs hz
     simp only [Bool.and_eq_true] at h6
     obtain ⟨e1, e2⟩ := simpleEqs_eq h6.2
     exact ⟨i, d, _, hi, hd, h1, h2, h3, h5, hz, by simp [Value.cells, e1], by rw [if_pos h6.1, ← e1], e2, h7, h0⟩
    ·rename_i x hx hz
     simp only [Bool.and_eq_true, Bool.not_eq_true'] at h6
     obtain ⟨e1, e2⟩ := simpleEqs_eq h6.2
     refine ⟨i, d, x, hi, hd, h1, h2, h3, h5, hz, ?_, by rw [if_neg (by simp [h6.1])]; exact e1.symm, e2, h7, h0⟩
     rw [← e1]
     unfold Value.cells
     split
     ·rename_i cs
      exact absurd rfl (hx cs)
     ·rfl
    ·simp at h6
   ·simp at h1
 ·left
  rw [tab_other (by omega)]
  exact ⟨rfl, rfl⟩
section
variable {P : Program} {T : Tab} (hT : TabOk P T)
include hT
theorem TabOk.get {t : Nat} (h : (T.row t).size ≠ 0) : ∃ i d z, RowOk P t (T.row t) i d z := by
 rcases hT t with ⟨h0, _⟩ | h1
 ·exact absurd h0 h
 ·exact h1
theorem TabOk.ofKind {t : Nat} (h : (T.row t).kind ≠ .other) : ∃ i d z, RowOk P t (T.row t) i d z := by
 rcases hT t with ⟨_, h0⟩ | h1
 ·exact absurd h0 h
 ·exact h1
theorem TabOk.run_size {t : Nat} (h : (T.row t).size ≠ 0) (w : World) : (sizeOf t).run P w = .ok (T.row t).size w := by
 obtain ⟨i, d, z, r⟩ := hT.get h
 simp [sizeOf, typeInfo, r.info, r.size]
theorem TabOk.run_agg {t : Nat} (h : (T.row t).size ≠ 0) (w : World) : (isAgg t).run P w = .ok (T.row t).isAgg w := by
 obtain ⟨i, d, z, r⟩ := hT.get h
 have hk := r.kind
 simp only [isAgg, underlying, Sem.run_bind, run_program, Result.andThen_ok, r.under, Sem.run_pure]
 unfold TRow.isAgg
 cases hkk : (T.row t).kind <;> rw [hkk] at hk <;> cases d <;> simp_all [TK.is]
theorem TabOk.run_zero {t : Nat} (h : (T.row t).size ≠ 0) (w : World) : ∃ z, (zeroValue t).run P w = .ok z w ∧ z.cells.toList = (T.row t).zero ∧
  (if (T.row t).isAgg then z = .agg (T.row t).zero.toArray else (T.row t).zero = [z]) := by
 obtain ⟨i, d, z, r⟩ := hT.get h
 exact ⟨z, by simp [zeroValue, typeInfo, r.info, r.zero], r.zeros, r.agg⟩
theorem TabOk.bytes {t : Nat} (h : (T.row t).size ≠ 0) (w : World) : ∃ i, (typeInfo t).run P w = .ok i w ∧ i.bytes ≤ 65536 ∧ i.size = (T.row t).size ∧ P.info? t = some i := by
 obtain ⟨i, d, z, r⟩ := hT.get h
 exact ⟨i, by simp [typeInfo, r.info], by rw [r.bytes]; exact r.small, r.size, r.info⟩
theorem TabOk.slice {t e : Nat} (h : (T.row t).kind = .slice e) : P.underlying t = some (.slice e) := by
 obtain ⟨i, d, z, r⟩ := hT.ofKind (t := t) (by rw [h]; simp)
 have hk := r.kind
 rw [h] at hk
 cases d <;> simp_all [TK.is]
 rw [r.under]
theorem TabOk.array {t n e : Nat} (h : (T.row t).kind = .array n e) : P.underlying t = some (.array n e) := by
 obtain ⟨i, d, z, r⟩ := hT.ofKind (t := t) (by rw [h]; simp)
 have hk := r.kind
 rw [h] at hk
 cases d <;> simp_all [TK.is]
 rw [r.under]
theorem TabOk.string {t : Nat} (h : (T.row t).kind = .string) : P.underlying t = some .string := by
 obtain ⟨i, d, z, r⟩ := hT.ofKind (t := t) (by rw [h]; simp)
 have hk := r.kind
 rw [h] at hk
 cases d <;> simp_all [TK.is]
 rw [r.under]
theorem TabOk.bool {t : Nat} (h : (T.row t).kind = .bool) : P.underlying t = some .bool := by
 obtain ⟨i, d, z, r⟩ := hT.ofKind (t := t) (by rw [h]; simp)
 have hk := r.kind
 rw [h] at hk
 cases d <;> simp_all [TK.is]
 rw [r.under]
theorem TabOk.int {t : Nat} {k : IntKind} (h : (T.row t).kind = .int k) : P.underlying t = some (.int k) := by
 obtain ⟨i, d, z, r⟩ := hT.ofKind (t := t) (by rw [h]; simp)
 have hk := r.kind
 rw [h] at hk
 cases d <;> simp_all [TK.is]
 rw [r.under]
theorem TabOk.struct {t : Nat} {fs : List (Nat × Nat × Nat)} (h : (T.row t).kind = .struct fs) :
  ∃ gs : Array Field, P.underlying t = some (.struct gs) ∧ fs = (gs.toList.map fun g => (g.offset, P.cellsOf g.type, g.type)) ∧ ∀ f ∈ fs, f.2.1 ≠ 0 := by
 obtain ⟨i, d, z, r⟩ := hT.ofKind (t := t) (by rw [h]; simp)
 have hk := r.kind
 rw [h] at hk
 cases d with
 | struct gs =>
  refine ⟨gs, r.under, ?_⟩
  simp only [TK.is, Bool.and_eq_true, beq_iff_eq, List.all_eq_true, bne_iff_ne] at hk
  exact hk
 | _ => simp [TK.is] at hk
theorem TabOk.flat {t : Nat} {gs : Array Field} (h : (T.row t).kind ≠ .other) (hu : P.underlying t = some (.struct gs)) (hf : flatB P gs = true) :
  (∀ g ∈ gs.toList, (g.name == "_") = false) ∧ P.stoodInHeld t = false ∧ P.eqGuardType P.depth t = false := by
 obtain ⟨i, d, z, r⟩ := hT.ofKind h
 have hc := r.cmp
 have hd := r.under
 rw [hu] at hd
 cases hd
 simp only [cmpB, hf, Bool.not_true, Bool.false_or, Bool.and_eq_true, Bool.not_eq_true', List.all_eq_true] at hc
 exact ⟨hc.1.1, hc.1.2, hc.2⟩
end
structure Same (E : Nat → Prop) (w w' : World) : Prop where
 os : w'.os = w.os
 tape : w'.tape = w.tape
 output : w'.output = w.output
 size : w.heap.size ≤ w'.heap.size
 block : ∀ b, b < w.heap.size → ¬ E b → w'.heap[b]? = w.heap[b]?
theorem Same.refl (E : Nat → Prop) (w : World) : Same E w w := ⟨rfl, rfl, rfl, Nat.le_refl _, fun _ _ _ => rfl⟩
theorem Same.trans {E a b c} (h : Same E a b) (k : Same E b c) : Same E a c :=
 ⟨k.os.trans h.os, k.tape.trans h.tape, k.output.trans h.output, Nat.le_trans h.size k.size, fun n hn he => (k.block n (Nat.lt_of_lt_of_le hn h.size) he).trans (h.block n hn he)⟩
def St.entries (st : St) : List (Id × Blk) := st.mem.map (fun p => (.l p.1, p.2)) ++ st.ext.mapIdx (fun j b => (.x j, b))
def St.raw (st : St) : Id → Option Blk
 | .l k => findB st.mem k
 | .x j => st.ext[j]?
def Ctx.ToX (C D : Ctx) : Prop := ∀ j blk, C.B (.x j) = some blk → ∃ blk', D.B (.x j) = some blk' ∧ (blk'.on = true → blk.on = true ∧ blk.es.length ≤ blk'.es.length ∧
  (blk.es.length = blk'.es.length → blk'.k = blk.k ∧ D.μ (.x j) = C.μ (.x j)) ∧ (D.μ (.x j) = C.μ (.x j) ∨ C.F ≤ (D.μ (.x j)).blk))
theorem Ctx.To.x {C D : Ctx} (t : C.To D) : C.ToX D := fun j blk h => t.B (.x j) blk h
theorem Ctx.ToX.refl (C : Ctx) : C.ToX C := (Ctx.To.refl C).x
theorem Ctx.ToX.trans {C D E : Ctx} (hF : D.F = C.F) (h : C.ToX D) (k : D.ToX E) : C.ToX E := fun j blk hb => by
 obtain ⟨b1, h1, g1⟩ := h j blk hb
 obtain ⟨b2, h2, g2⟩ := k j b1 h1
 refine ⟨b2, h2, fun ho => ?_⟩
 obtain ⟨o1, l1, e1, m1⟩ := g2 ho
 obtain ⟨o0, l0, e0, m0⟩ := g1 o1
 refine ⟨o0, by omega, fun e => ?_, ?_⟩
 ·obtain ⟨a, b⟩ := e1 (by omega)
  obtain ⟨c, d⟩ := e0 (by omega)
  exact ⟨a.trans c, b.trans d⟩
 ·rcases m1 with m1 | m1
  ·rw [m1]; exact m0
  ·exact .inr (by rw [← hF]; exact m1)
structure Inv (w0 : World) (E : Nat → Prop) (I0 : Ctx) (C : Ctx) (st : St) (a : Act) (w : World) (f : Nat → Nat) : Prop where
 defers : a.defers = []
 raw : ∀ i, C.B i = st.raw i
 first : C.F ≤ w0.heap.size
 firstX : I0.F = C.F
 below : ∀ b, C.I b → b < w.heap.size
 old : ∀ b, C.I b → I0.I b ∨ w0.heap.size ≤ b
 keep : ∀ b, I0.I b → C.I b
 ext0 : I0.ToX C
 extOn : ∀ b ∈ st.ext, b.on = true
 uniq : (st.entries.map (·.1)).Nodup
 env : RepL C w st.env a.tmps.toList fun _ => 0
 mem : MemR C w st.entries f
 one : ∀ b, f b ≤ 1
 own : ∀ b, 1 ≤ f b → ¬ C.I b ∧ (E b ∨ w0.heap.size ≤ b)
 same : Same E w0 w
theorem RepL.cons0 {C w a r xs} (h : RepL C w (a :: r) xs fun _ => 0) : ∃ x ys, xs = x :: ys ∧ (Rep1 C w a x fun _ => 0) ∧ RepL C w r ys fun _ => 0 := by
 obtain ⟨x, ys, f1, f2, rfl, hf, h1, h2⟩ := RepL.cons h
 have hf' : ∀ b, 0 = f1 b + f2 b := hf
 exact ⟨x, ys, rfl, RepL.congr h1 fun b => by have := hf' b; show 0 = f1 b; omega, h2.congr fun b => by have := hf' b; show 0 = f2 b; omega⟩
theorem Rep1.cons0 {C w a r x xs} (h : Rep1 C w a x fun _ => 0) (h' : RepL C w r xs fun _ => 0) : RepL C w (a :: r) (x :: xs) fun _ => 0 :=
 Rep1.cons h h' (fun _ => rfl)
theorem RepL.getD {C w} : ∀ {l : List A} {xs : List Value} (_ : RepL C w l xs fun _ => 0) (t : Nat), Rep1 C w (l.getD t .any) (xs.getD t undef) fun _ => 0
 | [], xs, h, t => by
  cases h
  simp
  exact .any z0
 | a :: r, xs, h, t => by
  obtain ⟨x, ys, rfl, h1, h2⟩ := h.cons0
  cases t with
  | zero => exact h1
  | succ t => simpa using RepL.getD h2 t
theorem RepL.set {C w} : ∀ {l : List A} {xs : List Value} (_ : RepL C w l xs fun _ => 0) (t : Nat) {a x} (_ : Rep1 C w a x fun _ => 0), RepL C w (l.set t a) (xs.set t x) fun _ => 0
 | [], xs, h, t, a, x, _ => by
  cases h
  simpa using z0
 | b :: r, xs, h, t, a, x, ha => by
  obtain ⟨y, ys, rfl, h1, h2⟩ := h.cons0
  cases t with
  | zero => simpa using ha.cons0 h2
  | succ t => simpa using h1.cons0 (RepL.set h2 t ha)
theorem ev_rep {C w} {env : List A} {a : Act} (h : RepL C w env a.tmps.toList fun _ => 0) (o : Operand) : Rep1 C w (ev env o) (a.eval o) fun _ => 0 := by
 cases o with
 | tmp t =>
  have := h.getD t
  simp only [ev, Act.eval]
  rw [show a.tmps.getD t undef = a.tmps.toList.getD t undef from by simp [List.getD, Array.getD_eq_getD_getElem?]]
  exact this
 | const v => exact .v z0
 | global g => exact .v z0
 | func f => exact .v z0
section
variable {w0 : World} {E : Nat → Prop} {I0 : Ctx} {C : Ctx} {st : St} {a : Act} {w : World} {f : Nat → Nat}
theorem Inv.dst (h : Inv w0 E I0 C st a w f) (d : Option Nat) {x : A} {v : Value} (hx : Rep1 C w x v fun _ => 0) : Inv w0 E I0 C (st.dst d x) (a.put d v) w f := by
 cases d with
 | none => exact h
 | some t =>
  exact {
      defers := h.defers, raw := h.raw, first := h.first, firstX := h.firstX, below := h.below, old := h.old, keep := h.keep, ext0 := h.ext0, extOn := h.extOn, uniq := h.uniq, mem := h.mem, one := h.one, own := h.own, same := h.same
      env := by simpa [St.dst, Act.put] using h.env.set t hx }
theorem Inv.drew (h : Inv w0 E I0 C st a w f) : Inv w0 E I0 C st a w.drew f :=
 {defers := h.defers, raw := h.raw, first := h.first, firstX := h.firstX, below := h.below, old := h.old, keep := h.keep, ext0 := h.ext0, extOn := h.extOn, uniq := h.uniq, one := h.one, own := h.own
  same := h.same.trans ⟨rfl, rfl, rfl, Nat.le_refl _, fun _ _ _ => rfl⟩
  env := h.env.frame (fun _ _ => rfl) (fun _ _ => rfl), mem := h.mem.frame (fun _ _ => rfl) (fun _ _ => rfl) }
end
end Go.AM

namespace Go.AM
open Go
section
variable {C : Ctx} {w : World}
theorem inv_v {x y f} (h : Rep1 C w (.v x) y f) : y = x := by cases h; rfl
theorem inv_agg {cs y} (h : Rep1 C w (.agg cs) y fun _ => 0) : ∃ ys : List Value, y = .agg ys.toArray ∧ RepL C w cs ys fun _ => 0 := by
 cases h with
 | agg hf h1 h =>
  have hf' : ∀ b, 0 = _ + _ := hf
  exact ⟨_, rfl, h1.congr fun b => by have := hf' b; show 0 = _; omega⟩
theorem inv_tup {cs y} (h : Rep1 C w (.tup cs) y fun _ => 0) : ∃ ys : List Value, y = .tuple ys.toArray ∧ RepL C w cs ys fun _ => 0 := by
 cases h with
 | tup hf h1 h =>
  have hf' : ∀ b, 0 = _ + _ := hf
  exact ⟨_, rfl, h1.congr fun b => by have := hf' b; show 0 = _; omega⟩
theorem RepL.index {l : List A} {xs : List Value} (h : RepL C w l xs fun _ => 0) {i : Nat} {a : A} (ha : l[i]? = some a) : ∃ x, xs[i]? = some x ∧ Rep1 C w a x fun _ => 0 := by
 induction l generalizing xs i with
 | nil => simp at ha
 | cons b r ih =>
  obtain ⟨x, ys, rfl, h1, h2⟩ := h.cons0
  cases i with
  | zero => simp at ha; subst ha; exact ⟨x, rfl, h1⟩
  | succ i => simp at ha; simpa using ih h2 ha
end
def OpDone (T : Tab) (by_ : Nat → Mode) (ann : Ann) (Φ : Known) (P : Program) (w0 : World) (E : Nat → Prop) (I0 : Ctx)
  (o : Oper) (a : Act) (w : World) (m : Nat) (K : St → Free) (r : A) (X : List Blk) : Prop :=
 ∃ m' st' x w' C' f' n, m' ≤ m ∧ RunsN T by_ ann Φ m' (K st') r X ∧ (execOp a.eval o).run P w = .ok n w' ∧ (n = .value x ∨ n = .skip ∧ x = undef) ∧
  Inv w0 E I0 C' st' (a.put o.dst x) w' f'
def OpStill (T : Tab) (by_ : Nat → Mode) (ann : Ann) (Φ : Known) (P : Program) (C : Ctx) (st : St)
  (o : Oper) (a : Act) (w : World) (m : Nat) (K : St → Free) (r : A) (X : List Blk) : Prop :=
 ∃ m' x v, m' ≤ m ∧ RunsN T by_ ann Φ m' (K (st.dst o.dst x)) r X ∧ (∀ w', (execOp a.eval o).run P w' = .ok (.value v) w') ∧ Rep1 C w x v fun _ => 0
section
variable {T : Tab} {by_ : Nat → Mode} {ann : Ann} {Φ : Known} {P : Program} {w0 : World} {E : Nat → Prop} {I0 : Ctx}
 {o : Oper} {a : Act} {w : World} {m : Nat} {K : St → Free} {r : A} {X : List Blk} {C : Ctx} {st : St} {f : Nat → Nat}
theorem OpDone.value {x : A} {v : Value} {m'} (hI : Inv w0 E I0 C st a w f) (hm : m' ≤ m) (hR : RunsN T by_ ann Φ m' (K (st.dst o.dst x)) r X)
  (hrun : (execOp a.eval o).run P w = .ok (.value v) w) (hx : Rep1 C w x v fun _ => 0) : OpDone T by_ ann Φ P w0 E I0 o a w m K r X :=
 ⟨m', _, v, w, C, f, _, hm, hR, hrun, .inl rfl, hI.dst o.dst hx⟩
theorem OpStill.value {x : A} {v : Value} {m'} (hm : m' ≤ m) (hR : RunsN T by_ ann Φ m' (K (st.dst o.dst x)) r X)
  (hrun : ∀ w', (execOp a.eval o).run P w' = .ok (.value v) w') (hx : Rep1 C w x v fun _ => 0) : OpStill T by_ ann Φ P C st o a w m K r X :=
 ⟨m', x, v, hm, hR, hrun, hx⟩
theorem OpStill.done (h : OpStill T by_ ann Φ P C st o a w m K r X) (hI : Inv w0 E I0 C st a w f) : OpDone T by_ ann Φ P w0 E I0 o a w m K r X := by
 obtain ⟨m', x, v, hm, hR, hrun, hx⟩ := h
 exact OpDone.value hI hm hR (hrun w) hx
theorem RunsN.chk {p k} (h : RunsN T by_ ann Φ m (.chk p k) r X) : ∃ m', m = m' + 1 ∧ p = true ∧ RunsN T by_ ann Φ m' k r X := by
 cases m with
 | zero => exact h.elim
 | succ m => exact ⟨m, rfl, h.1, h.2⟩
theorem RunsN.ask {b k} (h : RunsN T by_ ann Φ m (.ask b k) r X) : ∃ m', m = m' + 1 ∧ RunsN T by_ ann Φ m' (k b) r X := by
 cases m with
 | zero => exact h.elim
 | succ m => exact ⟨m, rfl, h⟩
theorem RunsN.bad (h : RunsN T by_ ann Φ m .bad r X) : False := by
 cases m <;> exact h.elim
theorem move_ok {x : Operand} (ho : o.op = .move x ∨ o.op = .assign x) (hI : Inv w0 E I0 C st a w f) (hR : RunsN T by_ ann Φ m (K (st.dst o.dst (ev st.env x))) r X) :
  OpStill T by_ ann Φ P C st o a w m K r X := by
 refine OpStill.value (Nat.le_refl _) hR (fun w => ?_) (ev_rep hI.env x)
 rcases ho with h | h <;> simp [execOp, h]
theorem eqGuard_not {op : BinOp} {t : TypeId} {x y : Operand} {u v : Value} (h : ∀ p, u ≠ .agg p) (h' : u ≠ .nilIface) : (eqGuard op t x y u v).run P w = .ok () w := by
 cases u with
 | agg p => exact absurd rfl (h p)
 | nilIface => exact absurd rfl h'
 | _ => cases op <;> rfl
theorem intBin_run {op : BinOp} {k : IntKind} {i j : Int} {res : Value} {xt : TypeId} (h : intBin op k i j = some res) (hd : isDiv op = true → j ≠ 0) :
  (binOp op xt (.int k i) (.int k j)).run P w = .ok res w := by
 cases op <;> simp only [intBin, Option.some.injEq, reduceCtorEq] at h <;> subst h <;> first
  | (have := hd rfl; simp only [binOp, ne_eq, not_true_eq_false, if_false, Op.intDiv, if_neg this]; rfl)
  | (simp only [binOp, ne_eq, not_true_eq_false, if_false]; rfl)
theorem run_equalIn_bool {t : TypeId} (hu : P.underlying t = some .bool) (d : Nat) (b c : Bool) : (Op.equalIn (d + 1) t (.bool b) (.bool c)).run P w = .ok (b == c) w := by
 rw [Op.equalIn]
 simp only [underlying, Sem.run_bind, run_program, Result.andThen_ok, hu, Sem.run_pure]
theorem run_eql_bool {t : TypeId} (hu : P.underlying t = some .bool) (b c : Bool) : (binOp .eql t (.bool b) (.bool c)).run P w = .ok (.bool (b == c)) w := by
 have e : binOp .eql t (.bool b) (.bool c) = (do pure (.bool (← Op.equalIn (9999 + 1) t (.bool b) (.bool c)))) := rfl
 rw [e, Sem.run_bind, run_equalIn_bool hu]
 rfl
theorem run_neq_bool {t : TypeId} (hu : P.underlying t = some .bool) (b c : Bool) : (binOp .neq t (.bool b) (.bool c)).run P w = .ok (.bool !(b == c)) w := by
 have e : binOp .neq t (.bool b) (.bool c) = (do pure (.bool (!(← Op.equalIn (9999 + 1) t (.bool b) (.bool c))))) := rfl
 rw [e, Sem.run_bind, run_equalIn_bool hu]
 rfl
theorem run_equalIn_sl {t e : TypeId} (h : P.underlying t = some (.slice e)) (d : Nat) (a : Option Addr) (n c : Nat) : (Op.equalIn (d + 1) t (.slice a n c) (.slice none 0 0)).run P w = .ok a.isNone w := by
 cases a <;> simp [Op.equalIn, run_underlying h]
theorem run_eql_sl {t e : TypeId} (h : P.underlying t = some (.slice e)) (a : Option Addr) (n c : Nat) : (binOp .eql t (.slice a n c) (.slice none 0 0)).run P w = .ok (.bool a.isNone) w := by
 simp only [binOp]
 simp [Op.equal, Op.maxDepth, run_equalIn_sl h 9999 a n c]
theorem run_neq_sl {t e : TypeId} (h : P.underlying t = some (.slice e)) (a : Option Addr) (n c : Nat) : (binOp .neq t (.slice a n c) (.slice none 0 0)).run P w = .ok (.bool !a.isNone) w := by
 simp only [binOp]
 simp [Op.equal, Op.maxDepth, run_equalIn_sl h 9999 a n c]
theorem nilQ_sl {x : A} {v : Value} {q : Option Bool} {f : Nat → Nat} (h : nilQ x = some q) (hx : Rep1 C w x v f) : ∃ a n c, v = .slice a n c ∧ ∀ b, q = some b → a.isNone = b := by
 unfold nilQ at h
 split at h
 ·simp at h
  subst h
  obtain rfl := inv_v hx
  exact ⟨_, _, _, rfl, fun b hb => by simpa using hb⟩
 ·simp at h
  subst h
  cases hx with
  | nils h => exact ⟨_, _, _, rfl, fun b hb => by simp at hb⟩
  | sl => exact ⟨_, _, _, rfl, fun b hb => by simp at hb⟩
  | ow => exact ⟨_, _, _, rfl, fun b hb => by simp at hb⟩
 ·simp at h
  subst h
  cases hx with
  | sl => exact ⟨_, _, _, rfl, fun b hb => by simpa using hb⟩
  | ow => exact ⟨_, _, _, rfl, fun b hb => by simpa using hb⟩
 ·simp at h
theorem RunsN.both {a b : Free} (h : RunsN T by_ ann Φ m (.both a b) r X) : ∃ m', m' ≤ m ∧ RunsN T by_ ann Φ m' a r X ∧ RunsN T by_ ann Φ m' b r X := by
 cases m with
 | zero => exact h.elim
 | succ m => exact ⟨m, Nat.le_succ _, h.1, h.2⟩
theorem eqGuard_agg {op : BinOp} {t : TypeId} {x y : Operand} {u v : Array Value} (h : P.eqGuardType P.depth t = false) : (eqGuard op t x y (.agg u) (.agg v)).run P w = .ok () w := by
 cases op <;> simp [eqGuard, Sem.run_bind, run_program, h]
theorem run_eqF (hT : TabOk P T) {xs ys : List A} {us vs : List Value} (hx : RepL C w xs us fun _ => 0) (hy : RepL C w ys vs fun _ => 0) (w' : World) (d : Nat) :
  ∀ (gs : List Field) (k : Nat) (b : Bool), T.flat (gs.map fun g => (g.offset, P.cellsOf g.type, g.type)) k (xs.drop k) = true → (∀ g ∈ gs, (g.name == "_") = false) →
   eqCells (xs.drop k) (ys.drop k) = some b → (Op.eqFields (d + 1) us.toArray vs.toArray gs).run P w' = .ok b w'
 | [], k, b, hl, _, he => by
  cases e1 : xs.drop k with
  | cons a l => rw [e1] at hl; simp [Tab.flat] at hl
  | nil =>
   rw [e1] at he
   cases e2 : ys.drop k with
   | nil => rw [e2] at he; simp only [eqCells, Option.some.injEq] at he; subst he; simp [Op.eqFields]
   | cons a l => rw [e2] at he; simp [eqCells] at he
 | g :: gs, k, b, hl, hn, he => by
  rcases Nat.lt_or_ge k xs.length with hlt | hge
  case inr => rw [List.drop_of_length_le hge] at hl; simp [Tab.flat] at hl
  rw [List.drop_eq_getElem_cons hlt] at he hl
  rcases Nat.lt_or_ge k ys.length with hlt' | hge
  case inr => rw [List.drop_of_length_le hge] at he; simp [eqCells] at he
  rw [List.drop_eq_getElem_cons hlt'] at he
  simp only [eqCells] at he
  obtain ⟨u, hu, ru⟩ := hx.index (List.getElem?_eq_getElem hlt)
  obtain ⟨v, hv, rv⟩ := hy.index (List.getElem?_eq_getElem hlt')
  have hn' : g.name ≠ "_" := by simpa using hn g List.mem_cons_self
  have ih := run_eqF hT hx hy w' d gs (k + 1)
  rw [List.map_cons] at hl
  cases hq : eqCell xs[k] ys[k] with
  | none => rw [hq] at he; simp at he
  | some q =>
   rw [hq] at he
   cases hq2 : eqCells (xs.drop (k + 1)) (ys.drop (k + 1)) with
   | none => rw [hq2] at he; simp at he
   | some q2 =>
    rw [hq2] at he
    simp only [Option.some.injEq] at he
    have key : g.offset = k ∧ T.flat (gs.map fun g => (g.offset, P.cellsOf g.type, g.type)) (k + 1) (xs.drop (k + 1)) = true ∧ (T.row g.type).isAgg = false ∧ (T.row g.type).kind ≠ .other ∧ (Op.equalIn (d + 1) g.type u v).run P w' = .ok q w' := by
     generalize xs[k] = a1 at hq ru hl
     generalize ys[k] = a2 at hq rv
     generalize xs.drop (k + 1) = xr at hl
     unfold eqCell at hq
     split at hq
     ·obtain rfl := inv_v ru
      obtain rfl := inv_v rv
      simp only [Tab.flat, Bool.and_eq_true, beq_iff_eq] at hl
      obtain ⟨⟨l1, l2⟩, l3⟩ := hl
      cases hk : (T.row g.type).kind <;> rw [hk] at l2 <;> simp only [kindInt, Bool.false_eq_true] at l2
      split at hq
      ·rename_i hkk
       subst hkk
       simp only [Option.some.injEq] at hq
       subst hq
       exact ⟨l1, l3, by simp [TRow.isAgg, hk], by simp, run_equalIn_int w' d g.type _ _ _ _ (hT.int hk)⟩
      ·simp at hq
     ·obtain rfl := inv_v ru
      obtain rfl := inv_v rv
      simp only [Tab.flat, Bool.and_eq_true, beq_iff_eq] at hl
      obtain ⟨⟨l1, l2⟩, l3⟩ := hl
      cases hk : (T.row g.type).kind <;> rw [hk] at l2 <;> simp only [kindBool, Bool.false_eq_true] at l2
      simp only [Option.some.injEq] at hq
      subst hq
      exact ⟨l1, l3, by simp [TRow.isAgg, hk], by simp, run_equalIn_bool (hT.bool hk) d _ _⟩
     ·simp at hq
    obtain ⟨k1, k2, hagg, hkind, hE⟩ := key
    obtain ⟨i, dd, z, rr⟩ := hT.ofKind hkind
    have hsz : (T.row g.type).size ≠ 0 := by
     have h1 := rr.len
     have h2 := rr.agg
     rw [hagg] at h2
     simp at h2
     rw [h2] at h1
     simp at h1
     omega
    have pa : (part g.type us.toArray g.offset).run P w' = .ok u w' := by
     simp only [part, Sem.run_bind, hT.run_agg hsz, Result.andThen_ok, hagg, Bool.false_eq_true, if_false, k1]
     rw [show us.toArray[k]? = some u by simpa using hu]
     rfl
    have pb : (part g.type vs.toArray g.offset).run P w' = .ok v w' := by
     simp only [part, Sem.run_bind, hT.run_agg hsz, Result.andThen_ok, hagg, Bool.false_eq_true, if_false, k1]
     rw [show vs.toArray[k]? = some v by simpa using hv]
     rfl
    have ih' := ih q2 k2 (fun g hg => hn g (List.mem_cons_of_mem _ hg)) hq2
    rw [Op.eqFields, if_pos hn']
    simp only [Sem.run_bind, pa, pb, hE, Result.andThen_ok]
    subst he
    cases q
    ·simp
    ·simpa using ih'
theorem agg_eq (hT : TabOk P T) {xt : TypeId} {fs : List (Nat × Nat × Nat)} {xs ys : List A} {us vs : List Value} {b : Bool} (hk : (T.row xt).kind = .struct fs) (hf : T.flat fs 0 xs = true) (he : eqCells xs ys = some b)
  (hx : RepL C w xs us fun _ => 0) (hy : RepL C w ys vs fun _ => 0) :
  P.eqGuardType P.depth xt = false ∧ ∀ w', (binOp .eql xt (.agg us.toArray) (.agg vs.toArray)).run P w' = .ok (.bool b) w' ∧ (binOp .neq xt (.agg us.toArray) (.agg vs.toArray)).run P w' = .ok (.bool !b) w' := by
 obtain ⟨gs, hu, hfs, hsz⟩ := hT.struct hk
 have kinds : ∀ (gs : List Field) (k : Nat) (xs : List A), T.flat (gs.map fun g => (g.offset, P.cellsOf g.type, g.type)) k xs = true → ∀ g ∈ gs, (match P.underlying g.type with | some (.int _) => true | some .bool => true | _ => false) = true := by
  intro gs
  induction gs with
  | nil => intro k xs _ g hg; simp at hg
  | cons h gs ih =>
   intro k xs hl g hg
   rw [List.map_cons] at hl
   cases xs with
   | nil => simp [Tab.flat] at hl
   | cons a r => cases a with
    | v y => cases y with
     | int ι n =>
      simp only [Tab.flat, Bool.and_eq_true, beq_iff_eq] at hl
      cases hg with
      | head =>
       have := hl.1.2
       cases hk : (T.row h.type).kind <;> rw [hk] at this <;> simp only [kindInt, Bool.false_eq_true] at this
       rw [hT.int hk]
      | tail _ hg => exact ih _ _ hl.2 g hg
     | bool n =>
      simp only [Tab.flat, Bool.and_eq_true, beq_iff_eq] at hl
      cases hg with
      | head =>
       have := hl.1.2
       cases hk : (T.row h.type).kind <;> rw [hk] at this <;> simp only [kindBool, Bool.false_eq_true] at this
       rw [hT.bool hk]
      | tail _ hg => exact ih _ _ hl.2 g hg
     | _ => simp [Tab.flat] at hl
    | _ => simp [Tab.flat] at hl
 rw [hfs] at hf
 have flat : flatB P gs = true := by
  simp only [flatB, List.all_eq_true]
  exact kinds gs.toList 0 xs hf
 obtain ⟨n1, n2, n3⟩ := hT.flat (by rw [hk]; simp) hu flat
 refine ⟨n3, fun w' => ?_⟩
 have hE : (Op.equalIn (9999 + 1) xt (.agg us.toArray) (.agg vs.toArray)).run P w' = .ok b w' := by
  have hfo : P.fieldsOf xt = gs := by simp [Program.fieldsOf, hu]
  rw [run_equalIn_struct (P := P) w' 9999 xt _ _ (by rw [hfo]; exact hu) n2, hfo]
  exact run_eqF hT hx hy w' 9998 gs.toList 0 b (by simpa using hf) n1 (by simpa using he)
 have e1 : binOp .eql xt (.agg us.toArray) (.agg vs.toArray) = (do pure (.bool (← Op.equalIn (9999 + 1) xt (.agg us.toArray) (.agg vs.toArray)))) := rfl
 have e2 : binOp .neq xt (.agg us.toArray) (.agg vs.toArray) = (do pure (.bool (!(← Op.equalIn (9999 + 1) xt (.agg us.toArray) (.agg vs.toArray))))) := rfl
 rw [e1, e2, Sem.run_bind, Sem.run_bind, hE]
 exact ⟨rfl, rfl⟩
theorem bin_ok {op : BinOp} {xt yt : TypeId} {x y : Operand} (ho : o.op = .binOp op xt x y yt) (hT : TabOk P T) (hI : Inv w0 E I0 C st a w f)
  (hR : RunsN T by_ ann Φ m (opBin T st o.dst xt op (ev st.env x) (ev st.env y) K) r X) : OpStill T by_ ann Φ P C st o a w m K r X := by
 have hx := ev_rep hI.env x
 have hy := ev_rep hI.env y
 have hv : ∀ (w : World) {u v n}, a.eval x = u → a.eval y = v → (∀ p, u ≠ .agg p) → u ≠ .nilIface → (binOp op xt u v).run P w = .ok n w → (execOp a.eval o).run P w = .ok (.value n) w := by
  intro w u v n e1 e2 e3 e4 e5
  simp [execOp, ho, e1, e2, eqGuard_not e3 e4, e5]
 unfold opBin at hR
 split at hR
 ·rename_i k i k' j ex ey
  rw [ex] at hx; rw [ey] at hy
  have ex' := inv_v hx
  have ey' := inv_v hy
  split at hR
  ·obtain ⟨m', rfl, hp, hR⟩ := hR.chk
   have hp := of_decide_eq_true hp
   refine OpStill.value (Nat.le_succ _) hR (fun w => hv w ex' ey' (by simp) (by simp) ?_) (.v z0)
   simp only [binOp, Op.shift, if_neg (show ¬ j < 0 by omega)]; rfl
  ·obtain ⟨m', rfl, hp, hR⟩ := hR.chk
   have hp := of_decide_eq_true hp
   refine OpStill.value (Nat.le_succ _) hR (fun w => hv w ex' ey' (by simp) (by simp) ?_) (.v z0)
   simp only [binOp, Op.shift, if_neg (show ¬ j < 0 by omega)]; rfl
  ·split at hR
   case isFalse => exact hR.bad.elim
   rename_i hk
   subst hk
   split at hR
   case h_2 => exact hR.bad.elim
   rename_i res hres
   split at hR
   ·rename_i hd
    obtain ⟨m', rfl, hp, hR⟩ := hR.chk
    have hp := of_decide_eq_true hp
    refine OpStill.value (Nat.le_succ _) hR (fun w => hv w ex' ey' (by simp) (by simp) ?_) (.v z0)
    exact intBin_run hres (fun _ => hp)
   ·rename_i hd
    refine OpStill.value (Nat.le_refl _) hR (fun w => hv w ex' ey' (by simp) (by simp) ?_) (.v z0)
    exact intBin_run hres (fun e => absurd e hd)
 ·rename_i s t ex ey
  rw [ex] at hx; rw [ey] at hy
  have ex' := inv_v hx
  have ey' := inv_v hy
  split at hR
  ·obtain ⟨m', rfl, hp, hR⟩ := hR.chk
   have hp := of_decide_eq_true hp
   refine OpStill.value (Nat.le_succ _) hR (fun w => hv w ex' ey' (by simp) (by simp) ?_) (.v z0)
   have : ¬ (((s.size + t.size : Nat) : Int) > IntKind.i64.max) := by simp [IntKind.max, IntKind.bits, IntKind.signed]; omega
   simp only [binOp, Op.stringOp, if_neg this]; rfl
  ·refine OpStill.value (Nat.le_refl _) hR (fun w => hv w ex' ey' (by simp) (by simp) ?_) (.v z0)
   simp [binOp, Op.stringOp]
  ·refine OpStill.value (Nat.le_refl _) hR (fun w => hv w ex' ey' (by simp) (by simp) ?_) (.v z0)
   simp [binOp, Op.stringOp]
  ·exact hR.bad.elim
 ·rename_i s t ex ey
  rw [ex] at hx; rw [ey] at hy
  have ex' := inv_v hx
  have ey' := inv_v hy
  split at hR
  ·have hu := hT.bool (by assumption)
   refine OpStill.value (Nat.le_refl _) hR (fun w => hv w ex' ey' (by simp) (by simp) ?_) (.v z0)
   exact run_eql_bool hu _ _
  ·have hu := hT.bool (by assumption)
   refine OpStill.value (Nat.le_refl _) hR (fun w => hv w ex' ey' (by simp) (by simp) ?_) (.v z0)
   exact run_neq_bool hu _ _
  ·exact hR.bad.elim
 ·rename_i ey
  rw [ey] at hy
  have ey' := inv_v hy
  split at hR
  ·rename_i hk hq
   obtain ⟨a', n, c, hv', hb⟩ := nilQ_sl hq hx
   refine OpStill.value (Nat.le_refl _) hR (fun w => hv w hv' ey' (by simp) (by simp) ?_) (.v z0)
   rw [run_eql_sl (hT.slice hk), hb _ rfl]
  ·rename_i hk hq
   obtain ⟨a', n, c, hv', hb⟩ := nilQ_sl hq hx
   refine OpStill.value (Nat.le_refl _) hR (fun w => hv w hv' ey' (by simp) (by simp) ?_) (.v z0)
   rw [run_neq_sl (hT.slice hk), hb _ rfl]
  ·rename_i hk hq
   obtain ⟨a', n, c, hv', hb⟩ := nilQ_sl hq hx
   obtain ⟨m', hm', h1, h2⟩ := hR.both
   cases hz : a'.isNone with
   | true =>
    refine OpStill.value hm' h1 (fun w => hv w hv' ey' (by simp) (by simp) ?_) (.v z0)
    rw [run_eql_sl (hT.slice hk), hz]
   | false =>
    refine OpStill.value hm' h2 (fun w => hv w hv' ey' (by simp) (by simp) ?_) (.v z0)
    rw [run_eql_sl (hT.slice hk), hz]
  ·rename_i hk hq
   obtain ⟨a', n, c, hv', hb⟩ := nilQ_sl hq hx
   obtain ⟨m', hm', h1, h2⟩ := hR.both
   cases hz : a'.isNone with
   | true =>
    refine OpStill.value hm' h2 (fun w => hv w hv' ey' (by simp) (by simp) ?_) (.v z0)
    rw [run_neq_sl (hT.slice hk), hz]; rfl
   | false =>
    refine OpStill.value hm' h1 (fun w => hv w hv' ey' (by simp) (by simp) ?_) (.v z0)
    rw [run_neq_sl (hT.slice hk), hz]; rfl
  ·exact hR.bad.elim
 ·rename_i xs ys ex ey
  rw [ex] at hx; rw [ey] at hy
  obtain ⟨us, eu, ru⟩ := inv_agg hx
  obtain ⟨vs, ev', rv⟩ := inv_agg hy
  split at hR
  ·rename_i fs b hk he
   split at hR
   case isFalse => exact hR.bad.elim
   rename_i hf
   obtain ⟨hg, hq⟩ := agg_eq hT hk hf he ru rv
   refine OpStill.value (Nat.le_refl _) hR (fun w' => ?_) (.v z0)
   simp [execOp, ho, eu, ev', eqGuard_agg hg, (hq w').1]
  ·rename_i fs b hk he
   split at hR
   case isFalse => exact hR.bad.elim
   rename_i hf
   obtain ⟨hg, hq⟩ := agg_eq hT hk hf he ru rv
   refine OpStill.value (Nat.le_refl _) hR (fun w' => ?_) (.v z0)
   simp [execOp, ho, eu, ev', eqGuard_agg hg, (hq w').2]
  ·exact hR.bad.elim
 ·exact hR.bad.elim
theorem un_ok {op : UnOp} {xt : TypeId} {x : Operand} (ho : o.op = .unOp op xt x) (hI : Inv w0 E I0 C st a w f)
  (hR : RunsN T by_ ann Φ m (opUn st o.dst op (ev st.env x) K) r X) : OpStill T by_ ann Φ P C st o a w m K r X := by
 unfold opUn at hR
 have hx := ev_rep hI.env x
 split at hR
 ·rename_i b ex
  rw [ex] at hx
  refine OpStill.value (Nat.le_refl _) hR (fun w => ?_) (.v z0)
  simp [execOp, ho, inv_v hx, Op.unary]
 ·rename_i k n ex
  rw [ex] at hx
  refine OpStill.value (Nat.le_refl _) hR (fun w => ?_) (.v z0)
  simp [execOp, ho, inv_v hx, Op.unary, Op.intArith]
 ·rename_i k n ex
  rw [ex] at hx
  refine OpStill.value (Nat.le_refl _) hR (fun w => ?_) (.v z0)
  simp [execOp, ho, inv_v hx, Op.unary, Op.intBits]
 ·exact hR.bad.elim
theorem extract_ok {x : Operand} {i : Nat} (ho : o.op = .extract x i) (hI : Inv w0 E I0 C st a w f)
  (hR : RunsN T by_ ann Φ m (match ev st.env x with
   | .tup vs => match vs[i]? with
    | some b => K (st.dst o.dst b)
    | none => .bad
   | _ => .bad) r X) : OpStill T by_ ann Φ P C st o a w m K r X := by
 have hx := ev_rep hI.env x
 split at hR
 ·rename_i vs ex
  rw [ex] at hx
  obtain ⟨ys, ey, h1⟩ := inv_tup hx
  split at hR
  ·rename_i b hb
   obtain ⟨y, hy, h2⟩ := h1.index hb
   refine OpStill.value (Nat.le_refl _) hR (fun w => ?_) h2
   simp [execOp, ho, ey, Instr.extract, hy]
  ·exact hR.bad.elim
 ·exact hR.bad.elim
theorem pick_ok {c x y : Operand} (ho : o.op = .pick c x y) (hI : Inv w0 E I0 C st a w f)
  (hR : RunsN T by_ ann Φ m (match ev st.env c with
  | .v (.bool t) => .ask t fun z => match z with
   | true => K (st.dst o.dst (ev st.env x))
   | false => K (st.dst o.dst (ev st.env y))
  | _ => .bad) r X) : OpStill T by_ ann Φ P C st o a w m K r X := by
 have hc := ev_rep hI.env c
 split at hR
 ·rename_i t ec
  rw [ec] at hc
  obtain ⟨m', rfl, hR⟩ := hR.ask
  cases t with
  | true =>
   refine OpStill.value (Nat.le_succ _) hR (fun w => ?_) (ev_rep hI.env x)
   simp [execOp, ho, inv_v hc, asBool]
  | false =>
   refine OpStill.value (Nat.le_succ _) hR (fun w => ?_) (ev_rep hI.env y)
   simp [execOp, ho, inv_v hc, asBool]
 ·exact hR.bad.elim
end
end Go.AM

namespace Go.AM
open Go
theorem addr_add (b o n : Nat) : (⟨b, o, none⟩ : Addr).add n = ⟨b, o + n, none⟩ := by
 unfold Addr.add; split <;> simp_all
theorem addr_eq {a : Addr} (h : a.spot = none) : a = ⟨a.block, a.off, none⟩ := by cases a; simp_all
theorem RepL.extract {C w} {l : List A} {xs : List Value} {f} (h : RepL C w l xs f) (i n : Nat) (hl : i + n ≤ l.length) :
  ∃ f', (∀ b, f' b ≤ f b) ∧ RepL C w ((l.drop i).take n) ((xs.drop i).take n) f' := by
 have e : l = l.take i ++ ((l.drop i).take n ++ (l.drop i).drop n) := by rw [List.take_append_drop, List.take_append_drop]
 rw [e] at h
 obtain ⟨ys, zs, f1, f2, rfl, hf, h1, h2, hy⟩ := h.split
 obtain ⟨us, vs, g1, g2, rfl, hg, h3, h4, hu⟩ := h2.split
 refine ⟨g1, fun b => by rw [hf, hg]; omega, ?_⟩
 have l1 : ys.length = i := by rw [hy]; simp; omega
 have l2 : us.length = n := by rw [hu]; simp; omega
 have e2 : ((ys ++ (us ++ vs)).drop i).take n = us := by
  rw [← l1, List.drop_left, ← l2, List.take_left]
 rw [e2]
 exact h3
theorem flat_length {es : List A} {k : Nat} (hk : ∀ x ∈ es, x.cells.length = k) : (flat es).length = es.length * k := by
 induction es with
 | nil => simp [flat]
 | cons a r ih =>
  have := ih fun x hx => hk x (List.mem_cons_of_mem _ hx)
  simp only [flat, List.flatMap_cons, List.length_append, List.length_cons] at *
  rw [this, hk a (List.mem_cons_self ..), Nat.succ_mul]; omega
theorem flat_seg {es : List A} {k : Nat} (hk : ∀ x ∈ es, x.cells.length = k) {i o n : Nat} (hi : i < es.length) (ho : o + n ≤ k) :
  ((flat es).drop (i * k + o)).take n = ((es.getD i .any).cells.drop o).take n := by
 induction es generalizing i with
 | nil => simp at hi
 | cons a r ih =>
  have hka := hk a (List.mem_cons_self ..)
  have hkr := fun x hx => hk x (List.mem_cons_of_mem a hx)
  simp only [flat, List.flatMap_cons]
  cases i with
  | zero =>
   simp only [Nat.zero_mul, Nat.zero_add, List.getD_cons_zero]
   rw [List.drop_append_of_le_length (by omega), List.take_append_of_le_length (by simp; omega)]
  | succ i =>
   have := ih hkr (i := i) (by simpa using hi)
   simp only [flat] at this
   rw [List.getD_cons_succ, ← this]
   rw [show (i + 1) * k + o = a.cells.length + (i * k + o) by rw [hka, Nat.succ_mul]; omega]
   rw [← List.drop_drop, List.drop_left]
theorem getD_cells {es : List A} {k : Nat} (hk : ∀ x ∈ es, x.cells.length = k) {i : Nat} (hi : i < es.length) : (es.getD i .any).cells.length = k := by
 rw [List.getD_eq_getElem?_getD, List.getElem?_eq_getElem hi]
 exact hk _ (List.getElem_mem hi)
mutual
theorem plain_zero {C w} : ∀ {a : A} {x f}, a.plain = true → Rep1 C w a x f → Rep1 C w a x fun _ => 0 := by
 intro a x f hp h
 cases h with
 | any h => simp [A.plain] at hp
 | v h => exact .v z0
 | ifc h => exact .ifc z0
 | agg hf h1 h => exact .agg (fun _ => rfl) (plainL_zero (by simpa [A.plain] using hp) h1) z0
 | tup hf h1 h => simp [A.plain] at hp
 | nils h => exact .nils z0
 | sl hrow hsp hk hcap hsz hI hs ho hf h1 h => exact .sl hrow hsp hk hcap hsz hI hs ho hf h1 z0
 | ow hrow hsp hk hcap hsz hF hfz ho hf h1 h => simp [A.plain, Sh.own] at hp
 | ms hb h1 hm h => simp [A.plain] at hp
 | ref hb h1 hm h => simp [A.plain] at hp
 | ptr hrow hsp hk hsz hI hi ho hf h1 h => simp [A.plain] at hp
 | fn hf1 hf2 h1 h2 h => simp [A.plain] at hp
 | own hrow hsz hfz ho hp' hf h1 h => simp [A.plain] at hp
theorem plainL_zero {C w} : ∀ {l : List A} {xs f}, plainL l = true → RepL C w l xs f → RepL C w l xs fun _ => 0 := by
 intro l xs f hp h
 match l, hp, h with
 | [], _, h => cases h; exact z0
 | a :: r, hp, h =>
  simp only [plainL, Bool.and_eq_true] at hp
  obtain ⟨x, ys, f1, f2, rfl, hf, h1, h2⟩ := RepL.cons h
  exact (plain_zero hp.1 h1).cons0 (plainL_zero hp.2 h2)
end
theorem findB_split : ∀ {m : List (Nat × Blk)} {k : Nat} {b : Blk}, findB m k = some b → ∃ l1 l2, m = l1 ++ (k, b) :: l2 ∧ ∀ b', setB m k b' = l1 ++ (k, b') :: l2
 | [], k, b, h => by simp [findB] at h
 | (j, c) :: r, k, b, h => by
  simp only [findB] at h
  by_cases e : j = k
  ·subst e
   simp at h
   subst h
   exact ⟨[], r, rfl, fun b' => by simp [setB]⟩
  ·rw [if_neg e] at h
   obtain ⟨l1, l2, h1, h2⟩ := findB_split h
   exact ⟨(j, c) :: l1, l2, by rw [h1]; rfl, fun b' => by simp [setB, e, h2]⟩
theorem mapIdx_split {α β : Type} (g : Nat → α → β) : ∀ {l : List α} {j : Nat} {b : α}, l[j]? = some b →
  ∃ l1 l2, l.mapIdx g = l1 ++ g j b :: l2 ∧ ∀ b', (l.set j b').mapIdx g = l1 ++ g j b' :: l2 := by
 intro l
 induction l generalizing g with
 | nil => intro j b h; simp at h
 | cons a r ih =>
  intro j b h
  cases j with
  | zero =>
   simp at h; subst h
   exact ⟨[], r.mapIdx fun i => g (i + 1), by simp [List.mapIdx_cons], fun b' => by simp [List.mapIdx_cons]⟩
  | succ j =>
   simp at h
   obtain ⟨l1, l2, h1, h2⟩ := ih (fun i => g (i + 1)) h
   exact ⟨g 0 a :: l1, l2, by simp [List.mapIdx_cons, h1], fun b' => by simp [List.mapIdx_cons, h2]⟩
theorem St.entries_split {st : St} {i : Id} {b : Blk} (h : st.raw i = some b) :
  ∃ l1 l2, st.entries = l1 ++ (i, b) :: l2 ∧ ∀ b', (st.put i b').entries = l1 ++ (i, b') :: l2 := by
 cases i with
 | l k =>
  obtain ⟨l1, l2, h1, h2⟩ := findB_split (h : findB st.mem k = some b)
  exact ⟨l1.map (fun p => (.l p.1, p.2)), l2.map (fun p => (.l p.1, p.2)) ++ st.ext.mapIdx (fun j b => (.x j, b)),
   by simp [St.entries, h1], fun b' => by simp [St.entries, St.put, h2]⟩
 | x j =>
  obtain ⟨l1, l2, h1, h2⟩ := mapIdx_split (fun j b => ((.x j : Id), b)) (h : st.ext[j]? = some b)
  exact ⟨st.mem.map (fun p => (.l p.1, p.2)) ++ l1, l2, by simp [St.entries, h1], fun b' => by simp [St.entries, St.put, h2]⟩
section
variable {w0 : World} {E : Nat → Prop} {I0 : Ctx} {C : Ctx} {st : St} {a : Act} {w : World} {f : Nat → Nat}
theorem Inv.get (h : Inv w0 E I0 C st a w f) {i : Id} {b : Blk} (hb : st.get i = some b) : st.raw i = some b ∧ C.B i = some b ∧ b.on = true := by
 rw [h.raw]
 cases i with
 | l k =>
  simp only [St.get, getB] at hb
  split at hb
  ·rename_i b' hb'
   split at hb
   ·simp at hb; subst hb; exact ⟨hb', hb', by assumption⟩
   ·simp at hb
  ·simp at hb
 | x j => exact ⟨hb, hb, h.extOn _ (List.mem_of_getElem? hb)⟩
theorem Inv.blk (h : Inv w0 E I0 C st a w f) {i : Id} {b : Blk} (hb : st.get i = some b) :
  (b.es = [] ∧ (C.μ i).cap = 0) ∨ ∃ fb, BlkOk C w i b fb ∧ ∀ n, (if n = (C.μ i).blk then 1 else 0) + fb n ≤ f n := by
 obtain ⟨h1, h2, h3⟩ := h.get hb
 obtain ⟨l1, l2, e1, _⟩ := St.entries_split h1
 have hm := h.mem
 rw [e1] at hm
 obtain ⟨g1, g2, hg, m1, m2⟩ := hm.split
 cases m2 with
 | off ho _ => rw [h3] at ho; cases ho
 | nul ho he hc _ => exact .inl ⟨he, hc⟩
 | row ho hbk hf _ => exact .inr ⟨_, hbk, fun n => by rw [hg, hf]; omega⟩
end
section
variable {C : Ctx} {w : World}
theorem inv_ref {b i o tot x f} (h : Rep1 C w (.ref b i o tot) x f) : ∃ blk, C.B b = some blk ∧ (blk.on = true → tot ≤ blk.es.length ∧ (tot = blk.es.length → RefOk (C.μ b) blk i o tot x)) := by
 cases h with
 | ref hb h1 hm h => exact ⟨_, hb, hm⟩
theorem inv_ms {b off len tot x f} (h : Rep1 C w (.ms b off len tot) x f) : ∃ blk, C.B b = some blk ∧ (blk.on = true → tot ≤ blk.es.length ∧ (tot = blk.es.length → MsOk (C.μ b) blk off len tot x)) := by
 cases h with
 | ms hb h1 hm h => exact ⟨_, hb, hm⟩
theorem inv_ptr {es i o x f} (h : Rep1 C w (.ptr es i o) x f) : ∃ (ad : Addr) (k : Nat) (c : Array Value) (e : TypeId) (fz : Nat × Nat), x = .pointer (some ⟨ad.block, ad.off + i * k + o, none⟩) ∧ w.heap[ad.block]? = some (.cells c e fz) ∧ ad.spot = none ∧
  (∀ x ∈ es, x.cells.length = k) ∧ ad.off + es.length * k ≤ c.size ∧ C.I ad.block ∧ i < es.length ∧ Ones ((c.toList.drop ad.off).take (es.length * k)) ∧
  RepL C.bare w (flat es) ((c.toList.drop ad.off).take (es.length * k)) fun _ => 0 := by
 cases h with
 | ptr hrow hsp hk hsz hI hi ho hf h1 h => exact ⟨_, _, _, _, _, rfl, hrow, hsp, hk, hsz, hI, hi, ho, h1.congr fun b => (hf b).symm⟩
theorem inv_sl {s es x f} (hs : s = .sh ∨ s = .fr) (h : Rep1 C w (.sl s es) x f) : (es = [] ∧ ∃ sa, x = .slice sa 0 0) ∨
  ∃ (ad : Addr) (cap k : Nat) (c : Array Value) (e : TypeId) (fz : Nat × Nat), x = .slice (some ad) es.length cap ∧ w.heap[ad.block]? = some (.cells c e fz) ∧ ad.spot = none ∧
  (∀ x ∈ es, x.cells.length = k) ∧ es.length ≤ cap ∧ ad.off + es.length * k ≤ c.size ∧ C.I ad.block ∧ (s = .sh ∨ s = .fr ∧ fz.2 ≤ fz.1) ∧ Ones ((c.toList.drop ad.off).take (es.length * k)) ∧
  RepL C.bare w (flat es) ((c.toList.drop ad.off).take (es.length * k)) fun _ => 0 := by
 cases h with
 | nils h => exact .inl ⟨rfl, _, rfl⟩
 | sl hrow hsp hk hcap hsz hI hs ho hf h1 h => exact .inr ⟨_, _, _, _, _, _, rfl, hrow, hsp, hk, hcap, hsz, hI, hs, ho, h1.congr fun b => (hf b).symm⟩
 | ow hrow hsp hk hcap hsz hF hfz ho hf h1 h => rcases hs with h | h <;> cases h
theorem getD_get {α : Type} {l : List α} {n : Nat} {d : α} (h : n < l.length) : l.getD n d = l[n] := by simp [List.getD, h]
def TRow.loadV (r : TRow) (c : Array Value) (off : Nat) : Value := if r.isAgg then .agg ((c.toList.drop off).take r.size).toArray else c.toList.getD off undef
theorem inv_sl0 {s es x} (h : Rep1 C w (.sl s es) x fun _ => 0) : (es = [] ∧ ∃ sa, x = .slice sa 0 0) ∨
  ∃ (ad : Addr) (cap k : Nat) (c : Array Value) (e : TypeId) (fz : Nat × Nat), x = .slice (some ad) es.length cap ∧ w.heap[ad.block]? = some (.cells c e fz) ∧ ad.spot = none ∧
  (∀ x ∈ es, x.cells.length = k) ∧ es.length ≤ cap ∧ ad.off + es.length * k ≤ c.size ∧ C.I ad.block ∧ (s = .sh ∨ s = .fr ∧ fz.2 ≤ fz.1) ∧ Ones ((c.toList.drop ad.off).take (es.length * k)) ∧
  RepL C.bare w (flat es) ((c.toList.drop ad.off).take (es.length * k)) fun _ => 0 := by
 by_cases hs : s = .sh ∨ s = .fr
 ·exact inv_sl hs h
 ·cases h with
  | nils h => exact .inl ⟨rfl, _, rfl⟩
  | sl hrow hsp hk2 hcap hsz hI' hs' ho hf h1 h => exact absurd (hs'.imp id And.left) hs
  | @ow _ _ _ _ ad _ _ _ _ _ _ _ _ _ hrow hsp hk2 hcap hsz hF hfz ho hf h1 h =>
   have hf' : ∀ b, 0 = (if b = ad.block then 1 else 0) + _ + _ := hf
   have := hf' ad.block
   rw [if_pos rfl] at this
   omega
theorem run_loadVar {P : Program} {T : Tab} (hT : TabOk P T) {t : Nat} (ht : (T.row t).size ≠ 0) {g off : Nat} {c : Array Value} {e : TypeId} {fz : Nat × Nat}
  (hrow : w.heap[g]? = some (.cells c e fz)) (hsz : off + (T.row t).size ≤ c.size) :
  (loadVar t ⟨g, off, none⟩).run P w = .ok ((T.row t).loadV c off) w := by
 unfold loadVar TRow.loadV
 rw [Sem.run_bind, hT.run_agg ht, Result.andThen_ok]
 cases hag : (T.row t).isAgg with
 | true =>
  simp only [if_true]
  rw [Sem.run_bind, hT.run_size ht, Result.andThen_ok, Sem.run_bind]
  have hlen : ((c.toList.drop off).take (T.row t).size).length = (T.row t).size := by simp; omega
  have hl := run_loadCells_list (P := P) w ⟨g, off, none⟩ ((c.toList.drop off).take (T.row t).size) (fun j v hv => by
   rw [addr_add, cell_of_row w g (off + j) c e fz hrow]
   rw [List.getElem?_take] at hv
   split at hv
   ·simpa [List.getElem?_drop] using hv
   ·simp at hv)
  rw [hlen] at hl
  rw [hl]
  rfl
 | false =>
  simp only [Bool.false_eq_true, if_false]
  have hs : off < c.size := by omega
  rw [run_load, cell_of_row w g off c e fz hrow]
  simp [List.getD, hs]
theorem rep_load {T : Tab} {t : Nat} {es : List A} {k i o base : Nat} {c : Array Value} {fb : Nat → Nat} (ht : (T.row t).size ≠ 0)
  (hk : ∀ x ∈ es, x.cells.length = k) (hi : i < es.length) (ho : o + (T.row t).size ≤ k) (hsz : base + es.length * k ≤ c.size)
  (hz : ((T.row t).isAgg = false → (T.row t).size = 1))
  (h : RepL C w (flat es) ((c.toList.drop base).take (es.length * k)) fb) :
  ∃ f', (∀ b, f' b ≤ fb b) ∧ Rep1 C w ((T.row t).loadFrom (es.getD i .any) o)
   ((T.row t).loadV c (base + i * k + o)) f' := by
 have hik : i * k + k ≤ es.length * k := by rw [← Nat.succ_mul]; exact Nat.mul_le_mul_right k hi
 obtain ⟨f', hf', h'⟩ := h.extract (i * k + o) (T.row t).size (by rw [flat_length hk]; omega)
 rw [flat_seg hk hi ho] at h'
 have e1 : ((((c.toList.drop base).take (es.length * k)).drop (i * k + o)).take (T.row t).size) = (c.toList.drop (base + i * k + o)).take (T.row t).size := by
  rw [List.drop_take, List.drop_drop, List.take_take, Nat.min_eq_left (by omega), Nat.add_assoc]
 rw [e1] at h'
 refine ⟨f', hf', ?_⟩
 unfold TRow.loadFrom TRow.loadV
 cases hag : (T.row t).isAgg with
 | true => exact .agg (fun b => by simp) h' z0
 | false =>
  have hs1 := hz hag
  rw [hs1] at h' ho
  simp only [Bool.false_eq_true, if_false]
  have hcl := getD_cells hk hi
  have hlt : o < (es.getD i .any).cells.length := by omega
  have hlc : base + i * k + o < c.toList.length := by simp; omega
  have e2 : ((es.getD i .any).cells.drop o).take 1 = [(es.getD i .any).cells.getD o .any] := by
   rw [List.drop_eq_getElem_cons hlt, getD_get hlt]
   rfl
  have e3 : (c.toList.drop (base + i * k + o)).take 1 = [c.toList.getD (base + i * k + o) undef] := by
   rw [List.drop_eq_getElem_cons hlc, getD_get hlc]
   rfl
  rw [e2, e3] at h'
  exact h'
theorem TabOk.one {P : Program} {T : Tab} (hT : TabOk P T) {t : Nat} (ht : (T.row t).size ≠ 0) : (T.row t).isAgg = false → (T.row t).size = 1 := by
 intro h
 obtain ⟨i, d, z, r⟩ := hT.get ht
 have ha := r.agg
 rw [h] at ha
 simp at ha
 have := r.len
 rw [ha] at this
 simpa using this.symm
end
section
variable {T : Tab} {by_ : Nat → Mode} {ann : Ann} {Φ : Known} {P : Program} {w0 : World} {E : Nat → Prop} {I0 : Ctx}
 {o : Oper} {a : Act} {w : World} {m : Nat} {K : St → Free} {r : A} {X : List Blk} {C : Ctx} {st : St} {f : Nat → Nat}
theorem load_ok {t : TypeId} {p : Operand} (hop : o.op = .load t p) (hT : TabOk P T) (hI : Inv w0 E I0 C st a w f)
  (hR : RunsN T by_ ann Φ m (opLoad T st o.dst t (ev st.env p) K) r X) : OpDone T by_ ann Φ P w0 E I0 o a w m K r X := by
 have hp := ev_rep hI.env p
 unfold opLoad at hR
 simp only at hR
 split at hR
 ·exact hR.bad.elim
 rename_i ht
 split at hR
 ·rename_i b i off tot ep
  rw [ep] at hp
  split at hR
  case h_2 => exact hR.bad.elim
  rename_i blk hb
  split at hR
  case isFalse => exact hR.bad.elim
  rename_i hc
  obtain ⟨hc1, hc2, hc3⟩ := hc
  obtain ⟨h1, h2, h3⟩ := hI.get hb
  obtain ⟨blk', hb', hm⟩ := inv_ref hp
  rw [h2] at hb'
  cases hb'
  obtain ⟨_, hm⟩ := hm h3
  obtain ⟨hx, hi⟩ := hm hc1
  rcases hI.blk hb with ⟨he, _⟩ | ⟨fb, ⟨c, e, fz, g1, g2, g3, g4, g5, gx, g6, g7⟩, hfb⟩
  ·rw [he] at hc1; simp at hc1; omega
  ·rw [hc1] at hi
   have hcl := getD_cells g3 hi
   have hcap : blk.es.length * blk.k ≤ (C.μ b).cap * blk.k := Nat.mul_le_mul_right _ g4
   have hik : i * blk.k + blk.k ≤ blk.es.length * blk.k := by rw [← Nat.succ_mul]; exact Nat.mul_le_mul_right _ hi
   obtain ⟨f', hf', hrep⟩ := rep_load (T := T) (t := t) (o := off) ht g3 hi (by omega) (by omega) (hT.one ht) g7
   have hrep : Rep1 C w _ _ f' := RepL.to hrep (C.forTo _)
   have hrun : (execOp a.eval o).run P w = .ok (.value ((T.row t).loadV c ((C.μ b).base + i * blk.k + off))) w := by
    simp only [execOp, hop, Instr.loadAt, hx, Instr.sureAddr, Sem.run_bind, Sem.run_pure, Result.andThen_ok]
    rw [run_loadVar hT ht g1 (by omega)]
    rfl
   refine OpDone.value hI (Nat.le_refl _) hR hrun ?_
   cases hbx : blk.box with
   | true => exact RepL.congr hrep fun n => by have := hf' n; have := gx hbx n; show 0 = _; omega
   | false => rw [hbx] at hc3; simp only [Bool.false_or] at hc3; exact plain_zero hc3 hrep
 ·rename_i es i off ep
  rw [ep] at hp
  split at hR
  case isFalse => exact hR.bad.elim
  rename_i hc
  obtain ⟨ad, k, c, e, fz, rfl', g1, g2, g3, g4, g5, g6, g7, g8⟩ := inv_ptr hp
  have hcl := getD_cells g3 g6
  have hik : i * k + k ≤ es.length * k := by rw [← Nat.succ_mul]; exact Nat.mul_le_mul_right _ g6
  obtain ⟨f', hf', hrep⟩ := rep_load (T := T) (t := t) (o := off) ht g3 g6 (by omega) g4 (hT.one ht) g8
  have hrep : Rep1 C w _ _ f' := RepL.to hrep C.bareTo
  refine OpDone.value hI (Nat.le_refl _) hR ?_ (RepL.congr hrep fun n => by have := hf' n; show 0 = _; simp at this; omega)
  simp only [execOp, hop, Instr.loadAt, rfl', Instr.sureAddr, Sem.run_bind, Sem.run_pure, Result.andThen_ok]
  rw [run_loadVar hT ht g1 (by omega)]
  rfl
 ·exact hR.bad.elim
end
end Go.AM

namespace Go.AM
open Go
theorem natOf_some {a : A} {n : Int} (h : natOf a = some n) : ∃ k, a = .v (.int k n) := by
 unfold natOf at h
 split at h
 ·simp at h; subst h; exact ⟨_, rfl⟩
 ·simp at h
section
variable {C : Ctx} {w : World} {P : Program}
theorem inv_nat {a : A} {n : Int} {x f} (h : natOf a = some n) (hr : Rep1 C w a x f) : ∃ k, x = .int k n := by
 obtain ⟨k, rfl⟩ := natOf_some h
 exact ⟨k, inv_v hr⟩
theorem run_underlying' {t : TypeId} {d : TypeDesc} (h : P.underlying t = some d) : (underlying t).run P w = .ok d w := by
 simp [underlying, h]
theorem run_field {t : TypeId} {T : Tab} {fs : List (Nat × Nat × Nat)} (hT : TabOk P T) (hk : (T.row t).kind = .struct fs) {i off size ft : Nat} (hi : fs[i]? = some (off, size, ft))
  (b o : Nat) : (Instr.fieldAt t (.pointer (some ⟨b, o, none⟩)) i).run P w = .ok (.pointer (some ⟨b, o + off, none⟩)) w := by
 obtain ⟨gs, hu, rfl, hnz⟩ := hT.struct hk
 have hnz := hnz _ (List.mem_of_getElem? hi)
 simp only [List.getElem?_map, Option.map_eq_some_iff, Prod.mk.injEq] at hi
 obtain ⟨g, hg, e1, e2, e3⟩ := hi
 subst e1 e2 e3
 have hg' : gs[i]? = some g := by simpa using hg
 have hsz : ∃ inf, P.info? g.type = some inf ∧ inf.size ≠ 0 := by
  unfold Program.cellsOf at hnz
  cases hinf : P.info? g.type with
  | none => simp [hinf] at hnz
  | some inf => simp [hinf] at hnz; exact ⟨inf, rfl, hnz⟩
 obtain ⟨inf, hinf, hs⟩ := hsz
 simp only [Instr.fieldAt, Sem.run_bind, run_underlying' hu, Result.andThen_ok, hg', Instr.sureAddr, Sem.run_pure, fieldPlace, sizeOf, typeInfo, run_program, hinf, Sem.run_ite, hs, if_false, addr_add]
end
section
variable {T : Tab} {by_ : Nat → Mode} {ann : Ann} {Φ : Known} {P : Program} {w0 : World} {E : Nat → Prop} {I0 : Ctx}
 {o : Oper} {a : Act} {w : World} {m : Nat} {K : St → Free} {r : A} {X : List Blk} {C : Ctx} {st : St} {f : Nat → Nat}
theorem Inv.live (hI : Inv w0 E I0 C st a w f) {b tot} (h : st.live b tot = true) : ∃ blk, st.get b = some blk ∧ tot = blk.es.length ∧ C.B b = some blk ∧ blk.on = true := by
 unfold St.live at h
 split at h
 ·rename_i blk hb
  exact ⟨blk, hb, by simpa using h, (hI.get hb).2.1, (hI.get hb).2.2⟩
 ·simp at h
theorem Inv.refOk (hI : Inv w0 E I0 C st a w f) {b i o tot x g} (h : st.live b tot = true) (hr : Rep1 C w (.ref b i o tot) x g) :
  ∃ blk, C.B b = some blk ∧ blk.on = true ∧ tot = blk.es.length ∧ RefOk (C.μ b) blk i o tot x := by
 obtain ⟨blk, hb, ht, hB, hon⟩ := hI.live h
 obtain ⟨blk', hb', hm⟩ := inv_ref hr
 rw [hB] at hb'; cases hb'
 exact ⟨blk, hB, hon, ht, (hm hon).2 ht⟩
theorem Inv.msOk (hI : Inv w0 E I0 C st a w f) {b off len tot x g} (h : st.live b tot = true) (hr : Rep1 C w (.ms b off len tot) x g) :
  ∃ blk, C.B b = some blk ∧ blk.on = true ∧ tot = blk.es.length ∧ MsOk (C.μ b) blk off len tot x := by
 obtain ⟨blk, hb, ht, hB, hon⟩ := hI.live h
 obtain ⟨blk', hb', hm⟩ := inv_ms hr
 rw [hB] at hb'; cases hb'
 exact ⟨blk, hB, hon, ht, (hm hon).2 ht⟩
theorem mk_ref {b i o tot x} {blk : Blk} (hB : C.B b = some blk) (ht : tot = blk.es.length) (h : RefOk (C.μ b) blk i o tot x) : Rep1 C w (.ref b i o tot) x fun _ => 0 :=
 .ref hB (by rw [h.1]; rfl) (fun _ => ⟨by omega, fun _ => h⟩) z0
theorem mk_ms {b off len tot x} {blk : Blk} (hB : C.B b = some blk) (ht : tot = blk.es.length) (h : MsOk (C.μ b) blk off len tot x) : Rep1 C w (.ms b off len tot) x fun _ => 0 :=
 .ms hB (by obtain ⟨_, _, rfl, _⟩ := h; rfl) (fun _ => ⟨by omega, fun _ => h⟩) z0
theorem fieldAddr_ok {t : TypeId} {p : Operand} {i : Nat} (hop : o.op = .fieldAddr t p i) (hT : TabOk P T) (hI : Inv w0 E I0 C st a w f)
  (hR : RunsN T by_ ann Φ m (match (T.row t).kind with
  | .struct fs => match fs[i]?, ev st.env p with
   | some (off, _, _), .ref b i o' tot => if st.live b tot then K (st.dst o.dst (.ref b i (o' + off) tot)) else .bad
   | some (off, _, _), .ptr es i o' => K (st.dst o.dst (.ptr es i (o' + off)))
   | _, _ => .bad
  | _ => .bad) r X) : OpStill T by_ ann Φ P C st o a w m K r X := by
 have hp := ev_rep hI.env p
 split at hR
 case h_2 => exact hR.bad.elim
 rename_i fs hk
 split at hR
 ·rename_i off size ft b j o' tot hi ep
  rw [ep] at hp
  split at hR
  case isFalse => exact hR.bad.elim
  rename_i hl
  obtain ⟨blk, hB, hon, ht, hx, hj⟩ := hI.refOk hl hp
  refine OpStill.value (Nat.le_refl _) hR (v := .pointer (some ⟨(C.μ b).blk, (C.μ b).base + j * blk.k + (o' + off), none⟩)) (fun w => ?_) (mk_ref hB ht ⟨rfl, hj⟩)
  simp only [execOp, hop, hx, Sem.run_bind, run_field hT hk hi, Result.andThen_ok, Sem.run_pure, Nat.add_assoc]
 ·rename_i off size ft es j o' hi ep
  rw [ep] at hp
  obtain ⟨ad, k, c, e, fz, hx, g1, g2, g3, g4, g5, g6, g7, g8⟩ := inv_ptr hp
  have : Rep1 C w (.ptr es j (o' + off)) (.pointer (some ⟨ad.block, ad.off + j * k + (o' + off), none⟩)) fun _ => 0 := .ptr g1 g2 g3 g4 g5 g6 g7 (fun _ => rfl) g8 z0
  refine OpStill.value (Nat.le_refl _) hR (fun w => ?_) this
  simp only [execOp, hop, hx, Sem.run_bind, run_field hT hk hi, Result.andThen_ok, Sem.run_pure, Nat.add_assoc]
 ·exact hR.bad.elim
theorem nilCheck_ok {p : Operand} (hop : o.op = .nilCheck p) (hI : Inv w0 E I0 C st a w f)
  (hR : RunsN T by_ ann Φ m (match ev st.env p with
  | .ref b i o' tot => if st.live b tot then K (st.dst o.dst (.ref b i o' tot)) else .bad
  | .ptr es i o' => K (st.dst o.dst (.ptr es i o'))
  | _ => .bad) r X) : OpStill T by_ ann Φ P C st o a w m K r X := by
 have hp := ev_rep hI.env p
 split at hR
 ·rename_i b j o' tot ep
  rw [ep] at hp
  split at hR
  case isFalse => exact hR.bad.elim
  rename_i hl
  obtain ⟨blk, hB, hon, ht, hx, hj⟩ := hI.refOk hl hp
  refine OpStill.value (Nat.le_refl _) hR (v := .pointer (some ⟨(C.μ b).blk, (C.μ b).base + j * blk.k + o', none⟩)) (fun w => ?_) (mk_ref hB ht ⟨rfl, hj⟩)
  simp only [execOp, hop, hx, Sem.run_pure]
 ·rename_i es j o' ep
  rw [ep] at hp
  obtain ⟨ad, k, c, e, fz, hx, g1, g2, g3, g4, g5, g6, g7, g8⟩ := inv_ptr hp
  have : Rep1 C w (.ptr es j o') (.pointer (some ⟨ad.block, ad.off + j * k + o', none⟩)) fun _ => 0 := .ptr g1 g2 g3 g4 g5 g6 g7 (fun _ => rfl) g8 z0
  refine OpStill.value (Nat.le_refl _) hR (fun w => ?_) this
  simp only [execOp, hop, hx, Sem.run_pure]
 ·exact hR.bad.elim
theorem run_index_slice {t e : Nat} {w : World} (hT : TabOk P T) (hk : (T.row t).kind = .slice e) (hs : (T.row e).size ≠ 0) {k : IntKind} {n : Int} {b off len cap : Nat} (h : 0 ≤ n ∧ n < len) :
  (Instr.indexAt t (.slice (some ⟨b, off, none⟩) len cap) (.int k n)).run P w = .ok (.pointer (some ⟨b, off + n.toNat * (T.row e).size, none⟩)) w := by
 simp only [Instr.indexAt, asIntOf, Sem.run_bind, Sem.run_pure, Result.andThen_ok, run_underlying' (hT.slice hk), Sem.run_ite, if_pos h, hT.run_size hs, addr_add]
theorem run_index_array {t e m' : Nat} {w : World} (hT : TabOk P T) (hk : (T.row t).kind = .array m' e) (hs : (T.row e).size ≠ 0) {k : IntKind} {n : Int} {b off : Nat} (h : 0 ≤ n ∧ n < m') :
  (Instr.indexAt t (.pointer (some ⟨b, off, none⟩)) (.int k n)).run P w = .ok (.pointer (some ⟨b, off + n.toNat * (T.row e).size, none⟩)) w := by
 simp only [Instr.indexAt, asIntOf, Sem.run_bind, Sem.run_pure, Result.andThen_ok, run_underlying' (hT.array hk), Instr.sureAddr, Sem.run_ite, if_pos h, hT.run_size hs, addr_add]
theorem indexAddr_ok {t : TypeId} {x ix : Operand} (hop : o.op = .indexAddr t x ix) (hT : TabOk P T) (hI : Inv w0 E I0 C st a w f)
  (hR : RunsN T by_ ann Φ m (opIndexAddr T st o.dst t (ev st.env x) (ev st.env ix) K) r X) : OpStill T by_ ann Φ P C st o a w m K r X := by
 have hx := ev_rep hI.env x
 have hix := ev_rep hI.env ix
 unfold opIndexAddr at hR
 split at hR
 ·exact hR.bad.elim
 rename_i n hn
 obtain ⟨ik, hix⟩ := inv_nat hn hix
 split at hR
 ·rename_i e hk
  split at hR
  ·rename_i s es ex
   rw [ex] at hx
   obtain ⟨m', rfl, hp, hR⟩ := hR.chk
   have hp := of_decide_eq_true hp
   split at hR
   case isFalse => exact hR.bad.elim
   rename_i hc
   have hlt : n.toNat < es.length := by omega
   rcases inv_sl0 hx with ⟨he, _⟩ | ⟨ad, cap, k, c, e', fz, h1, h2, h3, h4, h5, h6, h7, h8, h9, h10⟩
   ·rw [he] at hlt; simp at hlt
   ·have hk' := getD_cells h4 hlt
    have : Rep1 C w (.ptr es n.toNat 0) (.pointer (some ⟨ad.block, ad.off + n.toNat * k + 0, none⟩)) fun _ => 0 := .ptr h2 h3 h4 h6 h7 hlt h9 (fun _ => rfl) h10 z0
    refine OpStill.value (Nat.le_succ _) hR (fun w => ?_) this
    rw [addr_eq h3] at h1
    simp only [execOp, hop, h1, hix, Sem.run_bind, run_index_slice hT hk hc.2 hp, Result.andThen_ok, Sem.run_pure, Nat.add_zero, ← hk', hc.1]
  ·rename_i b off len tot ex
   rw [ex] at hx
   split at hR
   case h_2 => exact hR.bad.elim
   rename_i blk hb
   split at hR
   case isFalse => exact hR.bad.elim
   rename_i hc
   obtain ⟨m', rfl, hp, hR⟩ := hR.chk
   have hp := of_decide_eq_true hp
   have hl : st.live b tot = true := by simp [St.live, hb, hc.1]
   obtain ⟨blk', hB, hon, ht, sa, cp, g1, g2, g3, g4, g5⟩ := hI.msOk hl hx
   have hB' := (hI.get hb).2.1
   rw [hB] at hB'; cases hB'
   have hcp : 0 < cp := by omega
   have g5 := g5 hcp
   subst g5
   refine OpStill.value (Nat.le_succ _) hR (v := .pointer (some ⟨(C.μ b).blk, (C.μ b).base + (off + n.toNat) * blk.k + 0, none⟩)) (fun w => ?_) (mk_ref hB ht ⟨rfl, by omega⟩)
   simp only [execOp, hop, g1, hix, Sem.run_bind, run_index_slice hT hk hc.2.2 hp, Result.andThen_ok, Sem.run_pure, Nat.add_zero, ← hc.2.1, Nat.add_mul, Nat.add_assoc]
  ·exact hR.bad.elim
 ·rename_i m1 e hk
  split at hR
  ·exact hR.bad.elim
  rename_i hs
  split at hR
  ·rename_i b i o' tot ex
   rw [ex] at hx
   split at hR
   case isFalse => exact hR.bad.elim
   rename_i hl
   obtain ⟨m', rfl, hp, hR⟩ := hR.chk
   have hp := of_decide_eq_true hp
   obtain ⟨blk, hB, hon, ht, hx, hj⟩ := hI.refOk hl hx
   refine OpStill.value (Nat.le_succ _) hR (v := .pointer (some ⟨(C.μ b).blk, (C.μ b).base + i * blk.k + (o' + n.toNat * (T.row e).size), none⟩)) (fun w => ?_) (mk_ref hB ht ⟨rfl, hj⟩)
   simp only [execOp, hop, hx, hix, Sem.run_bind, run_index_array hT hk hs hp, Result.andThen_ok, Sem.run_pure, Nat.add_assoc]
  ·rename_i es i o' ex
   rw [ex] at hx
   obtain ⟨m', rfl, hp, hR⟩ := hR.chk
   have hp := of_decide_eq_true hp
   obtain ⟨ad, k, c, e', fz, hx, g1, g2, g3, g4, g5, g6, g7, g8⟩ := inv_ptr hx
   have : Rep1 C w (.ptr es i (o' + n.toNat * (T.row e).size)) (.pointer (some ⟨ad.block, ad.off + i * k + (o' + n.toNat * (T.row e).size), none⟩)) fun _ => 0 := .ptr g1 g2 g3 g4 g5 g6 g7 (fun _ => rfl) g8 z0
   refine OpStill.value (Nat.le_succ _) hR (fun w => ?_) this
   simp only [execOp, hop, hx, hix, Sem.run_bind, run_index_array hT hk hs hp, Result.andThen_ok, Sem.run_pure, Nat.add_assoc]
  ·exact hR.bad.elim
 ·exact hR.bad.elim
theorem index_ok {t : TypeId} {x ix : Operand} (hop : o.op = .index t x ix) (hT : TabOk P T) (hI : Inv w0 E I0 C st a w f)
  (hR : RunsN T by_ ann Φ m (match (T.row t).kind, ev st.env x, natOf (ev st.env ix) with
  | .string, .v (.string s), some n => .chk (decide (0 ≤ n ∧ n < s.size)) (K (st.dst o.dst (byteA (s.data.toList.getD n.toNat 0))))
  | .array m et, .agg cs, some n => .chk (decide (0 ≤ n ∧ n < m))
    (if (T.row et).size = 1 ∧ (T.row et).isAgg = false ∧ cs.length = m then K (st.dst o.dst (cs.getD n.toNat .any)) else .bad)
  | _, _, _ => .bad) r X) : OpStill T by_ ann Φ P C st o a w m K r X := by
 have hx := ev_rep hI.env x
 have hix := ev_rep hI.env ix
 split at hR
 ·rename_i s n hk ex hn
  rw [ex] at hx
  obtain ⟨ik, hix⟩ := inv_nat hn hix
  obtain ⟨m', rfl, hp, hR⟩ := hR.chk
  have hp := of_decide_eq_true hp
  have hx := inv_v hx
  refine OpStill.value (Nat.le_succ _) hR (fun w => ?_) (.v z0)
  have hlt : n.toNat < s.size := by omega
  have hlt' : n.toNat < s.data.toList.length := by simpa using hlt
  have e : (if 0 ≤ n then s[n.toNat]? else none) = some (s.data.toList.getD n.toNat 0) := by
   rw [if_pos hp.1, getD_get hlt']
   simp only [Array.getElem_toList]
   rw [getElem?_pos s n.toNat hlt]
   rfl
  simp only [execOp, hop, hx, hix, Instr.index, asIntOf, Sem.run_bind, Sem.run_pure, Result.andThen_ok, run_underlying' (hT.string hk), e]
 ·rename_i m1 et cs n hk ex hn
  rw [ex] at hx
  obtain ⟨ik, hix⟩ := inv_nat hn hix
  obtain ⟨m', rfl, hp, hR⟩ := hR.chk
  have hp := of_decide_eq_true hp
  split at hR
  case isFalse => exact hR.bad.elim
  rename_i hc
  obtain ⟨ys, hx, hys⟩ := inv_agg hx
  have hlen := hys.length
  have hlt : n.toNat < ys.length := by omega
  refine OpStill.value (Nat.le_succ _) hR (fun w => ?_) (hys.getD n.toNat)
  have hs : (T.row et).size ≠ 0 := by omega
  simp only [execOp, hop, hx, hix, Instr.index, asIntOf, Sem.run_bind, Sem.run_pure, Result.andThen_ok, run_underlying' (hT.array hk), Sem.run_ite, if_pos hp, hT.run_size hs, part, hT.run_agg hs, hc.1, hc.2.1]
  simp [hlt, List.getD]
 ·exact hR.bad.elim
theorem field_ok {t : TypeId} {x : Operand} {i : Nat} (hop : o.op = .field t x i) (hT : TabOk P T) (hI : Inv w0 E I0 C st a w f)
  (hR : RunsN T by_ ann Φ m (match (T.row t).kind with
  | .struct fs => match fs[i]?, ev st.env x with
   | some (off, size, ft), .agg cs => if off + size ≤ cs.length ∧ size = (T.row ft).size ∧ size ≠ 0 then K (st.dst o.dst ((T.row ft).loadFrom (.agg cs) off)) else .bad
   | _, _ => .bad
  | _ => .bad) r X) : OpStill T by_ ann Φ P C st o a w m K r X := by
 have hx := ev_rep hI.env x
 split at hR
 case h_2 => exact hR.bad.elim
 rename_i fs hk
 split at hR
 case h_2 => exact hR.bad.elim
 rename_i off size ft cs hi ex
 rw [ex] at hx
 split at hR
 case isFalse => exact hR.bad.elim
 rename_i hc
 obtain ⟨ys, hx, hys⟩ := inv_agg hx
 have hlen := hys.length
 obtain ⟨gs, hu, rfl, hnz⟩ := hT.struct hk
 simp only [List.getElem?_map, Option.map_eq_some_iff, Prod.mk.injEq] at hi
 obtain ⟨g, hg, e1, e2, e3⟩ := hi
 have hg' : gs[i]? = some g := by simpa using hg
 have hs : (T.row ft).size ≠ 0 := by omega
 obtain ⟨f', hf', h'⟩ := hys.extract off size hc.1
 have h' : RepL C w ((cs.drop off).take size) ((ys.drop off).take size) fun _ => 0 := h'.congr fun b => by have := hf' b; show 0 = _; simp at this; omega
 have hsz := fun w : World => hT.run_size hs w
 rw [← hc.2.1] at hsz
 cases hag : (T.row ft).isAgg with
 | true =>
  have hrep : Rep1 C w ((T.row ft).loadFrom (.agg cs) off) (.agg ((ys.drop off).take size).toArray) fun _ => 0 := by
   simp only [TRow.loadFrom, hag, if_true, A.cells, ← hc.2.1]
   exact .agg (fun _ => rfl) h' z0
  refine OpStill.value (Nat.le_refl _) hR (fun w => ?_) hrep
  simp only [execOp, hop, hx, Instr.field, Sem.run_bind, run_underlying' hu, Result.andThen_ok, hg', asAgg, Sem.run_pure, part, e3, hT.run_agg hs, hag, if_true, hsz, e1]
  congr 4
  simp [List.extract_eq_take_drop]
  try omega
 | false =>
  have h1 := hT.one hs hag
  have hlt : off < ys.length := by omega
  have hrep : Rep1 C w ((T.row ft).loadFrom (.agg cs) off) (ys.getD off undef) fun _ => 0 := by
   simp only [TRow.loadFrom, hag, Bool.false_eq_true, if_false, A.cells]
   exact hys.getD off
  refine OpStill.value (Nat.le_refl _) hR (fun w => ?_) hrep
  simp only [execOp, hop, hx, Instr.field, Sem.run_bind, run_underlying' hu, Result.andThen_ok, hg', asAgg, Sem.run_pure, part, e3, hT.run_agg hs, hag, e1]
  simp [hlt, List.getD]
theorem makeFunc_ok {g : Fn} {fs cs : Array Operand} (hop : o.op = .makeFunc g fs cs) (hI : Inv w0 E I0 C st a w f)
  (hR : RunsN T by_ ann Φ m (K (st.dst o.dst (.fn g (fs.toList.map (ev st.env)) (cs.toList.map (ev st.env))))) r X) : OpStill T by_ ann Φ P C st o a w m K r X := by
 have hl : ∀ l : List Operand, RepL C w (l.map (ev st.env)) (l.map a.eval) fun _ => 0 := by
  intro l
  induction l with
  | nil => exact z0
  | cons x l ih => exact (ev_rep hI.env x).cons0 ih
 refine OpStill.value (Nat.le_refl _) hR (v := .func g (fs.toList.map a.eval).toArray (cs.toList.map a.eval).toArray) (fun w => ?_) (.fn (fun _ => rfl) (fun _ => rfl) (hl _) (hl _) z0)
 simp [execOp, hop, Instr.makeFunc]
 constructor <;> (apply Array.ext'; simp)
end
end Go.AM

namespace Go.AM
open Go
theorem flat_sub {es : List A} {k : Nat} (hk : ∀ x ∈ es, x.cells.length = k) (l n : Nat) : flat ((es.drop l).take n) = ((flat es).drop (l * k)).take (n * k) := by
 have hd : ∀ (l : Nat) (es : List A), (∀ x ∈ es, x.cells.length = k) → flat (es.drop l) = (flat es).drop (l * k) := by
  intro l
  induction l with
  | zero => intro es _; simp
  | succ l ih =>
   intro es h
   cases es with
   | nil => simp [flat]
   | cons a r =>
    rw [List.drop_succ_cons, ih r fun x hx => h x (List.mem_cons_of_mem _ hx)]
    have := h a (List.mem_cons_self ..)
    rw [show (l + 1) * k = a.cells.length + l * k by rw [this, Nat.succ_mul]; omega]
    simp only [flat, List.flatMap_cons]
    rw [← List.drop_drop, List.drop_left]
 have ht : ∀ (n : Nat) (es : List A), (∀ x ∈ es, x.cells.length = k) → flat (es.take n) = (flat es).take (n * k) := by
  intro n
  induction n with
  | zero => intro es _; simp [flat]
  | succ n ih =>
   intro es h
   cases es with
   | nil => simp [flat]
   | cons a r =>
    have := h a (List.mem_cons_self ..)
    have ih := ih r fun x hx => h x (List.mem_cons_of_mem _ hx)
    simp only [flat] at ih
    rw [show (n + 1) * k = a.cells.length + n * k by rw [this, Nat.succ_mul]; omega]
    simp only [flat, List.take_succ_cons, List.flatMap_cons, ih]
    rw [List.take_append, Nat.add_sub_cancel_left]
    congr 1
    rw [List.take_of_length_le (by omega)]
 rw [ht n _ fun x hx => hk x (List.mem_of_mem_drop hx), hd l es hk]
section
variable {P : Program} {w : World} {C : Ctx}
theorem run_bound {x : Value} {k : IntKind} {i : Int} {y : Nat} {code : BoundsCode} (hx : x = .int k i) (h : 0 ≤ i ∧ i ≤ y) : (Instr.sliceBound x y code).run P w = .ok i.toNat w := by
 subst hx
 simp only [Instr.sliceBound, asIntOf, Sem.run_bind, Sem.run_pure, Result.andThen_ok, Sem.run_ite, if_pos h]
theorem run_bounds {isSlice : Bool} {len cap : Nat} {lo hi mx : Option Value} {l h : Int} {m : Int}
  (hl : (lo = none ∧ l = 0) ∨ ∃ k, lo = some (.int k l)) (hh : (hi = none ∧ h = len) ∨ ∃ k, hi = some (.int k h)) (hm : (mx = none ∧ m = cap) ∨ (∃ k, mx = some (.int k m)) ∧ hi.isSome)
  (h0 : 0 ≤ l ∧ l ≤ h ∧ h ≤ m ∧ m ≤ cap) : (Instr.sliceBounds isSlice len cap lo hi mx).run P w = .ok (l.toNat, h.toNat, m.toNat) w := by
 obtain ⟨h0, h1, h2, h3⟩ := h0
 unfold Instr.sliceBounds
 rcases hm with ⟨rfl, rfl⟩ | ⟨⟨km, rfl⟩, hs⟩
 ·rcases hh with ⟨rfl, rfl⟩ | ⟨kh, rfl⟩
  ·rcases hl with ⟨rfl, rfl⟩ | ⟨kl, rfl⟩
   ·simp
   ·simp only [Sem.run_bind, Sem.run_pure, Result.andThen_ok, Option.isSome_none, Bool.false_eq_true, if_false]
    rw [run_bound rfl ⟨h0, h1⟩]
    simp
  ·have e1 : ∀ c, (Instr.sliceBound (.int kh h) cap c).run P w = .ok h.toNat w := fun c => run_bound rfl ⟨by omega, h2⟩
   rcases hl with ⟨rfl, rfl⟩ | ⟨kl, rfl⟩
   ·simp [e1]
   ·have e2 : ∀ c, (Instr.sliceBound (.int kl l) h.toNat c).run P w = .ok l.toNat w := fun c => run_bound rfl ⟨h0, by omega⟩
    simp [e1, e2]
 ·have e0 : ∀ c, (Instr.sliceBound (.int km m) cap c).run P w = .ok m.toNat w := fun c => run_bound rfl ⟨by omega, h3⟩
  rcases hh with ⟨rfl, rfl⟩ | ⟨kh, rfl⟩
  ·simp at hs
  ·have e1 : ∀ c, (Instr.sliceBound (.int kh h) m.toNat c).run P w = .ok h.toNat w := fun c => run_bound rfl ⟨by omega, by omega⟩
   rcases hl with ⟨rfl, rfl⟩ | ⟨kl, rfl⟩
   ·simp [e0, e1]
   ·have e2 : ∀ c, (Instr.sliceBound (.int kl l) h.toNat c).run P w = .ok l.toNat w := fun c => run_bound rfl ⟨h0, by omega⟩
    simp [e0, e1, e2]
end
section
variable {T : Tab} {by_ : Nat → Mode} {ann : Ann} {Φ : Known} {P : Program} {w0 : World} {E : Nat → Prop} {I0 : Ctx}
 {o : Oper} {a : Act} {w : World} {m : Nat} {K : St → Free} {r : A} {X : List Blk} {C : Ctx} {st : St} {f : Nat → Nat}
theorem opt_nat (hI : Inv w0 E I0 C st a w f) {lo : Option Operand} {d l : Int} (h : optNat d (lo.map (ev st.env)) = some l) :
  (lo.map a.eval = none ∧ l = d) ∨ ∃ k, lo.map a.eval = some (.int k l) := by
 cases lo with
 | none => simp [optNat] at h; exact .inl ⟨rfl, h.symm⟩
 | some x =>
  simp [optNat] at h
  obtain ⟨k, hk⟩ := inv_nat h (ev_rep hI.env x)
  exact .inr ⟨k, by simp [hk]⟩
theorem rep_part {s : Sh} {es : List A} {x : Value} {k l h m cap' : Nat} (hx : Rep1 C w (.sl s es) x fun _ => 0) (hk : ∀ y ∈ es, y.cells.length = k) (h1 : l ≤ h) (h2 : h ≤ es.length) (h3 : h ≤ m)
  (hcap : ∀ sa len cap, x = .slice sa len cap → cap' = cap) (hm : m ≤ cap') :
  ∃ sa cap, x = .slice sa es.length cap ∧ Rep1 C w (.sl s ((es.take h).drop l)) (.slice (if m = l then sa else sa.map (·.add (l * k))) (h - l) (m - l)) fun _ => 0 := by
 rcases inv_sl0 hx with ⟨he, sa0, rfl⟩ | ⟨ad, cap, k', c, e', fz, rfl, g2, g3, g4, g5, g6, g7, g8, g9, g10⟩
 ·have := hcap _ _ _ rfl
  subst he
  simp at h2
  subst h2
  have : l = 0 := by omega
  subst this
  have : m = 0 := by omega
  subst this
  exact ⟨sa0, 0, rfl, by simpa using .nils z0⟩
 ·have := hcap _ _ _ rfl
  subst this
  refine ⟨some ad, cap', rfl, ?_⟩
  obtain ⟨bk, of, sp⟩ := ad
  obtain rfl : sp = none := g3
  have g3 : (⟨bk, of, none⟩ : Addr).spot = none := rfl
  simp only at g2 g6 g7 g8 g9 g10
  have hlen : ((es.take h).drop l).length = h - l := by simp; omega
  by_cases hml : m = l
  ·rw [if_pos hml]
   have hhl : h = l := by omega
   subst hhl
   have he : (es.take h).drop h = [] := by simp
   rw [he]
   have := RepL.sl (C := C) (w := w) (s := s) (es := []) (cap := m - h) (k := 0) g2 g3 (by simp) (by simp) (by simp; omega) g7 g8 (by intro v hv; simp at hv) (fun _ => rfl) (by simpa [flat] using z0) (z0 (C := C) (w := w))
   rw [Nat.sub_self]
   exact this
  ·rw [if_neg hml]
   have hdt : (es.take h).drop l = (es.drop l).take (h - l) := by rw [List.drop_take]
   rw [hdt]
   by_cases he : es = []
   ·subst he
    simp at h2
    subst h2
    have : l = 0 := by omega
    subst this
    have := RepL.sl (C := C) (w := w) (s := s) (es := []) (a := ⟨bk, of, none⟩) (cap := m) (k := 0) g2 g3 (by simp) (by simp) (by simp; omega) g7 g8 (by intro v hv; simp at hv) (fun _ => rfl) (by simpa [flat] using z0) (z0 (C := C) (w := w))
    simp only [Nat.sub_zero, Nat.zero_mul, Option.map_some, addr_add, Nat.add_zero, List.take_nil, List.drop_nil]
    exact this
   ·obtain ⟨y, hy⟩ := List.exists_mem_of_ne_nil es he
    have hkk : k' = k := by rw [← hk y hy, g4 y hy]
    subst hkk
    have hhk : h * k' ≤ es.length * k' := Nat.mul_le_mul_right _ h2
    have hsub : (h - l) * k' = h * k' - l * k' := Nat.mul_sub_right_distrib ..
    have hlk : l * k' ≤ h * k' := Nat.mul_le_mul_right _ h1
    obtain ⟨f', hf', hr⟩ := g10.extract (l * k') ((h - l) * k') (by rw [flat_length g4]; omega)
    rw [← flat_sub g4] at hr
    have e1 : (((c.toList.drop of).take (es.length * k')).drop (l * k')).take ((h - l) * k') = (c.toList.drop (of + l * k')).take ((h - l) * k') := by
     rw [List.drop_take, List.drop_drop, List.take_take, Nat.min_eq_left (by omega)]
    rw [e1] at hr
    have hl2 : ((es.drop l).take (h - l)).length = h - l := by simp; omega
    have hadd : (some (⟨bk, of, none⟩ : Addr)).map (fun z => z.add (l * k')) = some ⟨bk, of + l * k', none⟩ := by simp [addr_add]
    rw [hadd]
    have := RepL.sl (C := C) (w := w) (s := s) (es := (es.drop l).take (h - l)) (a := ⟨bk, of + l * k', none⟩) (cap := m - l) (k := k') (r := []) (xs := []) (f := fun _ => 0) g2 rfl
     (fun x hx => g4 x (List.mem_of_mem_drop (List.mem_of_mem_take hx))) (by rw [hl2]; omega) (by rw [hl2]; show of + l * k' + _ ≤ _; omega) g7 g8
     (by rw [hl2, ← e1]; intro v hv; exact g9 v (List.mem_of_mem_drop (List.mem_of_mem_take hv)))
     (fun b => by have := hf' b; simpa using this) (by rw [hl2]; exact hr) z0
    rw [hl2] at this
    exact this
theorem slice_ok {t e : TypeId} {x : Operand} {lo hi mx : Option Operand} (hop : o.op = .slice t x lo hi mx) (hT : TabOk P T) (hk : (T.row t).kind = .slice e) (hI : Inv w0 E I0 C st a w f)
  (hR : RunsN T by_ ann Φ m (opSliceL st o.dst (T.row e).size (ev st.env x) (lo.map (ev st.env)) (hi.map (ev st.env)) (mx.map (ev st.env)) K) r X) : OpDone T by_ ann Φ P w0 E I0 o a w m K r X := by
 have hx := ev_rep hI.env x
 unfold opSliceL at hR
 split at hR
 ·exact hR.bad.elim
 rename_i len hlen
 split at hR
 case h_2 => exact hR.bad.elim
 rename_i l h hl hh
 split at hR
 case h_2 => exact hR.bad.elim
 rename_i m1 hm
 split at hR
 case isFalse => exact hR.bad.elim
 rename_i hc
 obtain ⟨hk0, hfit, hsome⟩ := hc
 obtain ⟨m', rfl, hp, hR2⟩ := hR.chk
 clear hR
 have hp := of_decide_eq_true hp
 have hl := opt_nat hI hl
 have hh := opt_nat hI hh
 have hm := opt_nat hI hm
 have run : ∀ (sa : Option Addr) (cap : Nat), a.eval x = .slice sa len cap → len ≤ cap →
   ∃ cap', cap' ≤ cap ∧ h.toNat ≤ cap' ∧ (execOp a.eval o).run P w = .ok (.value (.slice (if cap' = l.toNat then sa else sa.map (·.add (l.toNat * (T.row e).size))) (h.toNat - l.toNat) (cap' - l.toNat))) w := by
  intro sa cap hv hcap
  have hm' : ∃ mm : Int, ((mx.map a.eval = none ∧ mm = cap) ∨ (∃ k, mx.map a.eval = some (.int k mm)) ∧ (hi.map a.eval).isSome) ∧ h ≤ mm ∧ mm ≤ cap := by
   rcases hm with ⟨e1, e2⟩ | ⟨k, e1⟩
   ·exact ⟨cap, .inl ⟨e1, rfl⟩, by omega, by omega⟩
   ·refine ⟨m1, .inr ⟨⟨k, e1⟩, ?_⟩, by omega, by omega⟩
    cases mx with
    | none => simp at e1
    | some _ => cases hi <;> simp_all
  obtain ⟨mm, hmm, h1, h2⟩ := hm'
  refine ⟨mm.toNat, by omega, by omega, ?_⟩
  simp only [execOp, hop, Instr.sliceAt, Sem.run_bind, run_underlying' (hT.slice hk), Result.andThen_ok, hv, Instr.slice, Sem.run_pure]
  rw [run_bounds hl hh hmm ⟨by omega, by omega, h1, h2⟩]
  simp only [Result.andThen_ok, hT.run_size hk0]
 cases ex : ev st.env x with
 | sl s es =>
  rw [ex] at hx hR2 hfit hlen
  simp only [St.lenOf, Option.some.injEq] at hlen
  subst hlen
  simp only [St.fits, List.all_eq_true, beq_iff_eq] at hfit
  have hcap : ∃ sa cap, a.eval x = .slice sa es.length cap ∧ es.length ≤ cap := by
   rcases inv_sl0 hx with ⟨he, sa0, h1⟩ | ⟨ad, cap, k', c, e', fz, h1, g2, g3, g4, g5, _⟩
   ·exact ⟨sa0, 0, by rw [h1, he]; rfl, by simp [he]⟩
   ·exact ⟨_, _, h1, g5⟩
  obtain ⟨sa, cap, hv, hcl⟩ := hcap
  obtain ⟨cap', h1, h2, hrun⟩ := run sa cap hv hcl
  obtain ⟨sa', cap'', hv', hrep⟩ := rep_part (l := l.toNat) (h := h.toNat) (m := cap') (cap' := cap) hx hfit (by omega) (by omega) h2 (by intro sa1 l1 c1 e1; rw [hv] at e1; cases e1; rfl) h1
  rw [hv] at hv'
  cases hv'
  exact OpDone.value hI (Nat.le_succ _) hR2 hrun hrep
 | ms b off ln tot =>
  rw [ex] at hx hR2 hfit hlen
  simp only [St.fits] at hfit
  split at hfit
  case h_2 => simp at hfit
  rename_i blk hb
  have hfit := of_decide_eq_true hfit
  have hlv : st.live b tot = true := by simp [St.live, hb, hfit.1]
  simp only [St.lenOf, hlv, if_true, Option.some.injEq] at hlen
  subst hlen
  obtain ⟨blk', hB, hon, ht, sa, cp, g1, g2, g3, g4, g5⟩ := hI.msOk hlv hx
  have hB' := (hI.get hb).2.1
  rw [hB] at hB'; cases hB'
  obtain ⟨cap', h1, h2, hrun⟩ := run sa cp g1 g2
  refine OpDone.value hI (Nat.le_succ _) hR2 hrun (mk_ms hB ht ⟨_, _, rfl, by omega, by omega, by omega, fun hpos => ?_⟩)
  rw [if_neg (by omega), g5 (by omega)]
  simp only [Option.map_some, addr_add, ← hfit.2, Nat.add_mul, Nat.add_assoc]
 | v y =>
  rw [ex] at hx hR2 hfit hlen
  have hy : y = .slice none 0 0 := by
   unfold St.fits at hfit
   split at hfit <;> simp_all
  subst hy
  simp only [St.lenOf, Option.some.injEq] at hlen
  subst hlen
  obtain ⟨cap', h1, h2, hrun⟩ := run none 0 (inv_v hx) (Nat.le_refl _)
  have hv := inv_v hx
  have e1 : h.toNat = 0 := by omega
  have e2 : cap' = 0 := by omega
  rw [e1, e2] at hrun
  refine OpDone.value hI (Nat.le_succ _) hR2 (v := .slice none 0 0) ?_ (.v z0)
  rw [hrun]
  simp
 | _ => rw [ex] at hfit; simp [St.fits] at hfit
theorem sliceS_ok {t : TypeId} {x : Operand} {lo hi mx : Option Operand} {s : ByteArray} (hop : o.op = .slice t x lo hi mx) (hT : TabOk P T) (hk : (T.row t).kind = .string) (hI : Inv w0 E I0 C st a w f)
  (ex : ev st.env x = .v (.string s))
  (hR : RunsN T by_ ann Φ m (opSliceS st o.dst s (lo.map (ev st.env)) (hi.map (ev st.env)) (mx.map (ev st.env)) K) r X) : OpDone T by_ ann Φ P w0 E I0 o a w m K r X := by
 have hx := ev_rep hI.env x
 rw [ex] at hx
 have hv := inv_v hx
 unfold opSliceS at hR
 split at hR
 case h_2 => exact hR.bad.elim
 rename_i l h hl hh hm
 obtain ⟨m', rfl, hp, hR⟩ := hR.chk
 have hp := of_decide_eq_true hp
 have hl := opt_nat hI hl
 have hh := opt_nat hI hh
 have hmn : mx.map a.eval = none := by cases mx <;> simp_all
 refine OpDone.value hI (Nat.le_succ _) hR (v := .string (s.extract l.toNat h.toNat)) ?_ (.v z0)
 simp only [execOp, hop, Instr.sliceAt, Sem.run_bind, run_underlying' (hT.string hk), Result.andThen_ok, hv, Instr.slice, Sem.run_pure, hmn, Option.isSome_none, Bool.false_eq_true, if_false]
 rw [run_bounds (m := s.size) hl hh (.inl ⟨rfl, rfl⟩) ⟨by omega, by omega, by omega, by omega⟩]
 simp
theorem Inv.len (hI : Inv w0 E I0 C st a w f) {x : Operand} {n : Nat} (hn : st.lenOf (ev st.env x) = some n) : ∃ sa cap, a.eval x = .slice sa n cap := by
 have hx := ev_rep hI.env x
 unfold St.lenOf at hn
 split at hn
 ·rename_i s es ex
  rw [ex] at hx
  simp at hn
  subst hn
  rcases inv_sl0 hx with ⟨he, sa0, h1⟩ | ⟨ad, cap, k', c, e', fz, h1, _⟩
  ·exact ⟨sa0, 0, by rw [h1, he]; rfl⟩
  ·exact ⟨_, _, h1⟩
 ·rename_i ex
  rw [ex] at hx
  simp at hn
  subst hn
  exact ⟨none, 0, inv_v hx⟩
 ·rename_i b off len tot ex
  rw [ex] at hx
  split at hn
  case isFalse => simp at hn
  rename_i hl
  simp at hn
  subst hn
  obtain ⟨blk', hB, hon, ht, sa, cp, g1, g2, g3, g4, g5⟩ := hI.msOk hl hx
  exact ⟨_, _, g1⟩
 ·simp at hn
theorem run_call_builtin {b : Builtin} {args : Array Operand} {ts : Array TypeId} {v : Value} {w' : World} (hop : o.op = .call ⟨.builtin b, args, ts⟩)
  (h : (builtin b ts o.type (args.map fun | .const _ => true | _ => false) (args.map a.eval)).run P w = .ok (.value v) w') : (execOp a.eval o).run P w = .ok (.value v) w' := by
 simp only [execOp, hop, resolve, Sem.run_bind, Sem.run_pure, Result.andThen_ok, invoke]
 exact h
theorem len_ok {args : Array Operand} {ts : Array TypeId} (hop : o.op = .call ⟨.builtin .len, args, ts⟩) (hT : TabOk P T) (hI : Inv w0 E I0 C st a w f)
  (hR : RunsN T by_ ann Φ m (match args.toList.map (ev st.env), ts.toList with
  | [x], [t] => match (T.row t).kind with
   | .string => match x with
    | .v (.string s) => K (st.dst o.dst (.v (.int .i64 s.size)))
    | _ => .bad
   | .slice _ => match st.lenOf x with
    | some n => K (st.dst o.dst (.v (.int .i64 n)))
    | none => .bad
   | _ => .bad
  | _, _ => .bad) r X) : OpStill T by_ ann Φ P C st o a w m K r X := by
 split at hR
 case h_2 => exact hR.bad.elim
 rename_i x t ex et
 obtain ⟨y, hy, rfl⟩ : ∃ y, args = #[y] ∧ ev st.env y = x := by
  obtain ⟨l⟩ := args
  match l, ex with
  | [y], ex => simp at ex; exact ⟨y, rfl, ex⟩
 obtain rfl : ts = #[t] := by obtain ⟨l⟩ := ts; simp at et; simp [et]
 subst hy
 split at hR
 ·rename_i hk
  split at hR
  case h_2 => exact hR.bad.elim
  rename_i s ex
  have hx := ev_rep hI.env y
  rw [ex] at hx
  refine OpStill.value (Nat.le_refl _) hR (fun w => run_call_builtin hop ?_) (.v z0)
  simp [builtin, Builtin.len_, run_underlying' (hT.string hk), inv_v hx, goInt]
 ·rename_i e hk
  split at hR
  case h_2 => exact hR.bad.elim
  rename_i n hn
  obtain ⟨sa, cap, hv⟩ := hI.len hn
  refine OpStill.value (Nat.le_refl _) hR (fun w => run_call_builtin hop ?_) (.v z0)
  simp [builtin, Builtin.len_, run_underlying' (hT.slice hk), hv, goInt]
 ·exact hR.bad.elim
theorem foldA_run {g : A → A → Option A} {h : Value → Value → Sem Value} (hg : ∀ x y z, g x y = some z → ∃ u v t, x = .v u ∧ y = .v v ∧ z = .v t ∧ ∀ w, (h u v).run P w = .ok t w) :
  ∀ (l : List A) (x z : A) (ys : List Value) (u : Value), foldA g x l = some z → x = .v u → RepL C w l ys (fun _ => 0) → ∃ t, z = .v t ∧ (ys.foldlM h u).run P w = .ok t w := by
 intro l
 induction l with
 | nil =>
  intro x z ys u h1 h2 h3
  cases h3
  simp [foldA] at h1
  exact ⟨u, by rw [← h1, h2], rfl⟩
 | cons b l ih =>
  intro x z ys u h1 h2 h3
  obtain ⟨y, ys, rfl, r1, r2⟩ := h3.cons0
  simp only [foldA] at h1
  split at h1
  case h_2 => simp at h1
  rename_i c hc
  obtain ⟨u', v', t', e1, e2, e3, hrun⟩ := hg _ _ _ hc
  rw [h2] at e1
  cases e1
  subst e2
  have := inv_v r1
  subst this
  obtain ⟨t, ht, hr⟩ := ih c z ys t' h1 e3 r2
  refine ⟨t, ht, ?_⟩
  simp only [List.foldlM_cons, Sem.run_bind, hrun, Result.andThen_ok, hr]
theorem evs_rep (hI : Inv w0 E I0 C st a w f) (l : List Operand) : RepL C w (l.map (ev st.env)) (l.map a.eval) fun _ => 0 := by
 induction l with
 | nil => exact z0
 | cons x l ih => exact (ev_rep hI.env x).cons0 ih
theorem max_ok {args : Array Operand} {ts : Array TypeId} (hop : o.op = .call ⟨.builtin .max, args, ts⟩) (hI : Inv w0 E I0 C st a w f)
  (hR : RunsN T by_ ann Φ m (match args.toList.map (ev st.env) with
  | x :: r => match foldA max2A x r with
   | some b => K (st.dst o.dst b)
   | none => .bad
  | _ => .bad) r X) (hne : args.size ≠ 1) : OpDone T by_ ann Φ P w0 E I0 o a w m K r X := by
 have he := evs_rep hI args.toList
 split at hR
 case h_2 => exact hR.bad.elim
 rename_i x l ex
 rw [ex] at he
 obtain ⟨u, ys, ey, r1, r2⟩ := he.cons0
 split at hR
 case h_2 => exact hR.bad.elim
 rename_i z hz
 have hlen : l ≠ [] := by
  intro e
  subst e
  have := congrArg List.length ex
  simp at this
  exact hne this
 obtain ⟨b, l', rfl⟩ := List.exists_cons_of_ne_nil hlen
 have hxu : x = .v u := by
  simp only [foldA] at hz
  split at hz
  ·rename_i c hc
   unfold max2A at hc
   split at hc
   ·rw [inv_v r1]
   ·simp at hc
  ·simp at hz
 obtain ⟨t, ht, hrun⟩ := foldA_run (P := P) (h := Builtin.max2) (by
  intro x y z hh
  unfold max2A at hh
  split at hh
  ·simp at hh
   exact ⟨_, _, _, rfl, rfl, hh.symm, fun _ => rfl⟩
  ·simp at hh) _ _ _ _ _ hz hxu r2
 subst ht
 refine OpDone.value hI (Nat.le_refl _) hR (run_call_builtin hop ?_) (.v z0)
 have e2 : (args.map a.eval).toList = u :: ys := by simpa using ey
 simp only [builtin, Builtin.max_, e2, Sem.run_bind, hrun, Result.andThen_ok, Sem.run_pure]
theorem min_ok {args : Array Operand} {ts : Array TypeId} (hop : o.op = .call ⟨.builtin .min, args, ts⟩) (hI : Inv w0 E I0 C st a w f)
  (hR : RunsN T by_ ann Φ m (match args.toList.map (ev st.env) with
  | x :: r => match foldA min2A x r with
   | some b => K (st.dst o.dst b)
   | none => .bad
  | _ => .bad) r X) (hne : args.size ≠ 1) : OpDone T by_ ann Φ P w0 E I0 o a w m K r X := by
 have he := evs_rep hI args.toList
 split at hR
 case h_2 => exact hR.bad.elim
 rename_i x l ex
 rw [ex] at he
 obtain ⟨u, ys, ey, r1, r2⟩ := he.cons0
 split at hR
 case h_2 => exact hR.bad.elim
 rename_i z hz
 have hlen : l ≠ [] := by
  intro e
  subst e
  have := congrArg List.length ex
  simp at this
  exact hne this
 obtain ⟨b, l', rfl⟩ := List.exists_cons_of_ne_nil hlen
 have hxu : x = .v u := by
  simp only [foldA] at hz
  split at hz
  ·rename_i c hc
   unfold min2A at hc
   split at hc
   ·rw [inv_v r1]
   ·simp at hc
  ·simp at hz
 obtain ⟨t, ht, hrun⟩ := foldA_run (P := P) (h := Builtin.min2) (by
  intro x y z hh
  unfold min2A at hh
  split at hh
  ·simp at hh
   exact ⟨_, _, _, rfl, rfl, hh.symm, fun _ => rfl⟩
  ·simp at hh) _ _ _ _ _ hz hxu r2
 subst ht
 refine OpDone.value hI (Nat.le_refl _) hR (run_call_builtin hop ?_) (.v z0)
 have e2 : (args.map a.eval).toList = u :: ys := by simpa using ey
 simp only [builtin, Builtin.min_, e2, Sem.run_bind, hrun, Result.andThen_ok, Sem.run_pure]
end
end Go.AM

namespace Go.AM
open Go
structure InvG (w0 : World) (E : Nat → Prop) (I0 : Ctx) (C : Ctx) (st : St) (a : Act) (w : World) (f g : Nat → Nat) : Prop where
 defers : a.defers = []
 raw : ∀ i, C.B i = st.raw i
 first : C.F ≤ w0.heap.size
 firstX : I0.F = C.F
 below : ∀ b, C.I b → b < w.heap.size
 old : ∀ b, C.I b → I0.I b ∨ w0.heap.size ≤ b
 keep : ∀ b, I0.I b → C.I b
 ext0 : I0.ToX C
 extOn : ∀ b ∈ st.ext, b.on = true
 uniq : (st.entries.map (·.1)).Nodup
 env : RepL C w st.env a.tmps.toList fun _ => 0
 mem : MemR C w st.entries f
 one : ∀ b, f b + g b ≤ 1
 own : ∀ b, 1 ≤ f b + g b → ¬ C.I b ∧ (E b ∨ w0.heap.size ≤ b) ∧ b < w.heap.size
 same : Same E w0 w
section
variable {w0 : World} {E : Nat → Prop} {I0 : Ctx} {C : Ctx} {st : St} {a : Act} {w : World} {f g : Nat → Nat}
theorem heap_lt {w : World} {b : Nat} {o : Obj} (h : w.heap[b]? = some o) : b < w.heap.size := (Array.getElem?_eq_some_iff.1 h).1
theorem RepL.lt {C w l xs f} (h : RepL C w l xs f) : ∀ b, 1 ≤ f b → b < w.heap.size := by
 induction h with
 | nil h => intro b hb; rw [h] at hb; omega
 | any _ ih => exact ih
 | v _ ih => exact ih
 | ifc _ ih => exact ih
 | @agg _ _ _ _ _ _ _ f1 f2 hf _ _ ih1 ih =>
  intro b hb
  rw [hf] at hb
  by_cases h1 : 1 ≤ f1 b
  ·exact ih1 b h1
  ·exact ih b (by omega)
 | @tup _ _ _ _ _ _ _ f1 f2 hf _ _ ih1 ih =>
  intro b hb
  rw [hf] at hb
  by_cases h1 : 1 ≤ f1 b
  ·exact ih1 b h1
  ·exact ih b (by omega)
 | nils _ ih => exact ih
 | sl _ _ _ _ _ _ _ _ _ _ _ _ ih => exact ih
 | @ow _ _ _ _ ad _ _ _ _ _ _ _ f1 f2 hrow hsp hk hcap hsz hF hfz ho hf _ _ ih1 ih =>
  intro b hb
  rw [hf] at hb
  by_cases h0 : b = ad.block
  ·rw [h0]; exact heap_lt hrow
  ·rw [if_neg h0] at hb
   by_cases h1 : 1 ≤ f1 b
   ·exact ih1 b h1
   ·exact ih b (by omega)
 | ms _ _ _ _ ih => exact ih
 | ref _ _ _ _ ih => exact ih
 | ptr _ _ _ _ _ _ _ _ _ _ _ ih => exact ih
 | fn _ _ _ _ _ _ _ ih => exact ih
 | @own _ _ _ n _ _ _ _ _ _ f2 _ hrow hsz hfz ho hp hf _ _ ih1 ih =>
  intro b hb
  rw [hf] at hb
  by_cases h0 : b = n
  ·rw [h0]; exact heap_lt hrow
  ·rw [if_neg h0] at hb
   exact ih b (by omega)
theorem MemR.lt {C w l f} (h : MemR C w l f) : ∀ b, 1 ≤ f b → b < w.heap.size := by
 induction h with
 | nil h => intro b hb; rw [h] at hb; omega
 | off _ _ ih => exact ih
 | nul _ _ _ _ ih => exact ih
 | @row i bl r f f1 f2 ho hb hf _ ih =>
  intro b hlt
  rw [hf] at hlt
  obtain ⟨c, e, fz, h1, h2, h3, h4, h5, hx, h5', h6⟩ := hb
  by_cases h0 : b = (C.μ i).blk
  ·rw [h0]; exact heap_lt h1
  ·rw [if_neg h0] at hlt
   by_cases h1 : 1 ≤ f1 b
   ·exact h6.lt b h1
   ·exact ih b (by omega)
theorem Inv.toG (h : Inv w0 E I0 C st a w f) : InvG w0 E I0 C st a w f fun _ => 0 :=
 {defers := h.defers, raw := h.raw, first := h.first, firstX := h.firstX, below := h.below, old := h.old, keep := h.keep, ext0 := h.ext0, extOn := h.extOn, uniq := h.uniq, env := h.env, mem := h.mem, same := h.same
  one := fun b => by simpa using h.one b
  own := fun b hb => by
   have hb : 1 ≤ f b := by simpa using hb
   exact ⟨(h.own b hb).1, (h.own b hb).2, h.mem.lt b hb⟩ }
theorem InvG.inv (h : InvG w0 E I0 C st a w f g) (hg : ∀ b, g b = 0) : Inv w0 E I0 C st a w f :=
 {defers := h.defers, raw := h.raw, first := h.first, firstX := h.firstX, below := h.below, old := h.old, keep := h.keep, ext0 := h.ext0, extOn := h.extOn, uniq := h.uniq, env := h.env, mem := h.mem, same := h.same
  one := fun b => by have := h.one b; omega
  own := fun b hb => ⟨(h.own b (by omega)).1, (h.own b (by omega)).2.1⟩ }
theorem InvG.congr (h : InvG w0 E I0 C st a w f g) {g' : Nat → Nat} (hg : ∀ b, g' b ≤ g b) : InvG w0 E I0 C st a w f g' :=
 {defers := h.defers, raw := h.raw, first := h.first, firstX := h.firstX, below := h.below, old := h.old, keep := h.keep, ext0 := h.ext0, extOn := h.extOn, uniq := h.uniq, env := h.env, mem := h.mem, same := h.same
  one := fun b => by have := h.one b; have := hg b; omega
  own := fun b hb => h.own b (by have := hg b; omega) }
theorem InvG.frame_at (h : InvG w0 E I0 C st a w f g) {w' : World} {n : Nat} (hw : ∀ b, b ≠ n → w'.heap[b]? = w.heap[b]?) (hn : 1 ≤ f n + g n) :
  RepL C w' st.env a.tmps.toList fun _ => 0 := by
 refine h.env.frame (fun b hb => hw b ?_) (fun b hb => by simp at hb)
 rintro rfl
 exact (h.own _ hn).1 hb
theorem findB_put {m : List (Nat × Blk)} {k : Nat} {b b' : Blk} (h : findB m k = some b) : ∀ j, findB (setB m k b') j = if j = k then some b' else findB m j := by
 induction m with
 | nil => simp [findB] at h
 | cons p m ih =>
  obtain ⟨q, c⟩ := p
  intro j
  simp only [findB] at h
  by_cases e : q = k
  ·subst e
   simp only [setB, if_pos, findB]
   by_cases e2 : q = j
   ·simp [e2]
   ·rw [if_neg e2, if_neg (fun x => e2 x.symm), if_neg e2]
  ·rw [if_neg e] at h
   simp only [setB, if_neg e, findB, ih h]
   by_cases e2 : q = j
   ·rw [if_pos e2, if_neg (by omega), if_pos e2]
   ·rw [if_neg e2, if_neg e2]
theorem St.raw_put {st : St} {i : Id} {b b' : Blk} (h : st.raw i = some b) (j : Id) : (st.put i b').raw j = if j = i then some b' else st.raw j := by
 cases i with
 | l k =>
  cases j with
  | l j => simp only [St.put, St.raw, Id.l.injEq]; exact findB_put h j
  | x j => simp [St.put, St.raw]
 | x k =>
  have hlt : k < st.ext.length := (List.getElem?_eq_some_iff.1 (h : st.ext[k]? = some b)).1
  cases j with
  | l j => simp [St.put, St.raw]
  | x j =>
   simp only [St.put, St.raw, Id.x.injEq, List.getElem?_set]
   by_cases e : k = j
   ·subst e; simp [hlt]
   ·rw [if_neg e, if_neg (fun x => e x.symm)]
theorem findB_new {m : List (Nat × Blk)} {k : Nat} {b : Blk} (h : findB m k = none) : (∃ l1 l2, m = l1 ++ l2 ∧ addB m k b = l1 ++ (k, b) :: l2) ∧ ∀ j, findB (addB m k b) j = if j = k then some b else findB m j := by
 induction m with
 | nil =>
  refine ⟨⟨[], [], rfl, rfl⟩, fun j => ?_⟩
  simp only [addB, findB]
  by_cases e : k = j
  ·simp [e]
  ·rw [if_neg e, if_neg (fun x => e x.symm)]
 | cons p m ih =>
  obtain ⟨q, c⟩ := p
  simp only [findB] at h
  by_cases e : q = k
  ·rw [if_pos e] at h; cases h
  ·rw [if_neg e] at h
   obtain ⟨⟨l1, l2, e1, e2⟩, e3⟩ := ih h
   simp only [addB]
   by_cases hlt : k < q
   ·simp only [if_pos hlt]
    refine ⟨⟨[], _, rfl, rfl⟩, fun j => ?_⟩
    show (if k = j then some b else findB ((q, c) :: m) j) = _
    by_cases e4 : k = j
    ·simp [e4]
    ·rw [if_neg e4, if_neg (fun x => e4 x.symm)]
   ·simp only [if_neg hlt]
    refine ⟨⟨(q, c) :: l1, l2, by rw [e1]; rfl, by rw [e2]; rfl⟩, fun j => ?_⟩
    simp only [findB, e3]
    by_cases e4 : q = j
    ·rw [if_pos e4, if_neg (by omega), if_pos e4]
    ·rw [if_neg e4, if_neg e4]
theorem St.new_split {st : St} {k : Nat} {b : Blk} (h : findB st.mem k = none) : ∃ l1 l2, st.entries = l1 ++ l2 ∧ (st.new k b).entries = l1 ++ (.l k, b) :: l2 := by
 obtain ⟨⟨l1, l2, e1, e2⟩, _⟩ := findB_new (b := b) h
 exact ⟨l1.map (fun p => (.l p.1, p.2)), l2.map (fun p => (.l p.1, p.2)) ++ st.ext.mapIdx (fun j b => (.x j, b)), by simp [St.entries, e1], by simp [St.entries, St.new, e2]⟩
theorem St.raw_new {st : St} {k : Nat} {b : Blk} (h : findB st.mem k = none) (j : Id) : (st.new k b).raw j = if j = .l k then some b else st.raw j := by
 cases j with
 | l j => simp only [St.new, St.raw, Id.l.injEq]; exact (findB_new h).2 j
 | x j => simp [St.new, St.raw]
def Ctx.up (C : Ctx) (i : Id) (l : Loc) (b : Blk) : Ctx := { C with μ := fun j => if j = i then l else C.μ j, B := fun j => if j = i then some b else C.B j }
theorem Ctx.up_new {C : Ctx} {i : Id} {l : Loc} {b : Blk} (h : C.B i = none) : C.To (C.up i l b) :=
 ⟨fun _ h => h, rfl, fun j blk hj => by
  have : j ≠ i := by rintro rfl; rw [h] at hj; cases hj
  exact ⟨blk, by simp [Ctx.up, this, hj], fun ho => ⟨ho, Nat.le_refl _, fun _ => ⟨rfl, by simp [Ctx.up, this]⟩, .inl (by simp [Ctx.up, this])⟩⟩⟩
theorem Ctx.up_put {C : Ctx} {i : Id} {l : Loc} {b b' : Blk} (h : C.B i = some b) (ho : b'.on = true → b.on = true ∧ b.es.length ≤ b'.es.length ∧ (b.es.length = b'.es.length → b'.k = b.k ∧ l = C.μ i) ∧ (l = C.μ i ∨ C.F ≤ l.blk)) : C.To (C.up i l b') :=
 ⟨fun _ h => h, rfl, fun j blk hj => by
  by_cases e : j = i
  ·subst e
   rw [h] at hj; cases hj
   exact ⟨b', by simp [Ctx.up], fun h1 => by obtain ⟨h2, h3, h4, h5⟩ := ho h1; exact ⟨h2, h3, fun e => by obtain ⟨e1, e2⟩ := h4 e; exact ⟨e1, by simp [Ctx.up, e2]⟩, by simpa [Ctx.up] using h5⟩⟩
  ·exact ⟨blk, by simp [Ctx.up, e, hj], fun ho => ⟨ho, Nat.le_refl _, fun _ => ⟨rfl, by simp [Ctx.up, e]⟩, .inl (by simp [Ctx.up, e])⟩⟩⟩
theorem MemR.up {C w l f i lc b} (h : MemR C w l f) (t : C.To (C.up i lc b)) (hi : ∀ b', (i, b') ∈ l → b'.on = false) : MemR (C.up i lc b) w l f :=
 h.to t fun j b' hj ho => by
  have : j ≠ i := by rintro rfl; rw [hi _ hj] at ho; cases ho
  simp [Ctx.up, this]
theorem findB_none {m : List (Nat × Blk)} {k : Nat} (h : findB m k = none) : ∀ b, (k, b) ∉ m := by
 induction m with
 | nil => intro b hb; cases hb
 | cons p m ih =>
  obtain ⟨q, c⟩ := p
  intro b hb
  simp only [findB] at h
  by_cases e : q = k
  ·rw [if_pos e] at h; cases h
  ·rw [if_neg e] at h
   rcases List.mem_cons.1 hb with h1 | h1
   ·cases h1; exact e rfl
   ·exact ih h b h1
theorem entries_none {st : St} {k : Nat} (h : findB st.mem k = none) : ∀ b, ((.l k : Id), b) ∉ st.entries := by
 intro b hb
 simp only [St.entries, List.mem_append, List.mem_map, List.mem_mapIdx, Prod.mk.injEq, Id.l.injEq, Prod.exists, reduceCtorEq, false_and, exists_false, or_false] at hb
 obtain ⟨q, c, hm, rfl, rfl⟩ := hb
 exact findB_none h _ hm
theorem InvG.alloc (h : InvG w0 E I0 C st a w f g) {k n cap : Nat} {box : Bool} {es : List A} {c : Array Value} {e : TypeId} {fz : Nat × Nat} {gx g1 : Nat → Nat}
  (hk : findB st.mem k = none) (hg : ∀ b, g b = g1 b + gx b) (hes : ∀ x ∈ es, x.cells.length = n) (hcap : es.length ≤ cap) (hsz : cap * n ≤ c.size)
  (hfz : Free0 c fz) (hcM : cap ≤ capM) (ho : Ones (c.toList.take (es.length * n))) (hbx : box = true → ∀ b, gx b = 0) (hr : RepL (C.for box) w (flat es) (c.toList.take (es.length * n)) gx) :
  ∃ f', InvG w0 E I0 (C.up (.l k) ⟨w.heap.size, 0, cap⟩ ⟨true, n, box, es⟩) (st.new k ⟨true, n, box, es⟩) a (w.alloc (.cells c e fz)) f' g1 ∧
   C.To (C.up (.l k) ⟨w.heap.size, 0, cap⟩ ⟨true, n, box, es⟩) := by
 have hB : C.B (.l k) = none := by rw [h.raw]; exact hk
 have t := Ctx.up_new (l := ⟨w.heap.size, 0, cap⟩) (b := ⟨true, n, box, es⟩) hB
 have hold : ∀ b, b < w.heap.size → (w.alloc (.cells c e fz)).heap[b]? = w.heap[b]? := fun b hb => heap_alloc_old w _ b hb
 have fI : ∀ b, C.I b → (w.alloc (.cells c e fz)).heap[b]? = w.heap[b]? := fun b hb => hold b (h.below b hb)
 obtain ⟨l1, l2, e1, e2⟩ := St.new_split (b := ⟨true, n, box, es⟩) hk
 have hm := h.mem
 have hnone := entries_none hk
 rw [e1] at hm hnone
 obtain ⟨f1, f2, hf, m1, m2⟩ := hm.split
 have m1' := (m1.frame fI fun b hb => hold b (m1.lt b hb)).up t fun b' hb' => absurd (List.mem_append_left _ hb') (hnone b')
 have m2' := (m2.frame fI fun b hb => hold b (m2.lt b hb)).up t fun b' hb' => absurd (List.mem_append_right _ hb') (hnone b')
 have hgx : ∀ b, 1 ≤ gx b → b < w.heap.size := hr.lt
 have hbk : BlkOk (C.up (.l k) ⟨w.heap.size, 0, cap⟩ ⟨true, n, box, es⟩) (w.alloc (.cells c e fz)) (.l k) ⟨true, n, box, es⟩ gx := by
  refine ⟨c, e, fz, ?_, ⟨hfz, by simpa [Ctx.up] using hcM⟩, hes, ?_, ?_, hbx, ?_, ?_⟩
  ·simp only [Ctx.up, if_true]; exact heap_alloc_new w _
  ·simpa [Ctx.up] using hcap
  ·simpa [Ctx.up] using hsz
  ·simpa [Ctx.up] using ho
  ·have := (hr.frame (w' := w.alloc (.cells c e fz)) (by rw [Ctx.for_I]; exact fI) fun b hb => hold b (hgx b hb)).to (t.for box)
   simpa only [Ctx.up, if_true, List.drop_zero] using this
 refine ⟨fun b => f b + gx b + (if b = w.heap.size then 1 else 0), ?_, t⟩
 have hsz0 : ∀ b, 1 ≤ f b + g b → b < w.heap.size := fun b hb => (h.own b hb).2.2
 exact {
  defers := h.defers
  raw := fun i => by rw [St.raw_new hk]; simp only [Ctx.up, h.raw]
  first := h.first
  firstX := h.firstX
  below := fun b hb => by simp only [World.size_alloc]; have := h.below b hb; omega
  old := h.old
  keep := h.keep
  ext0 := Ctx.ToX.trans h.firstX.symm h.ext0 t.x
  extOn := h.extOn
  uniq := by
   have hu := h.uniq
   rw [e1] at hu
   rw [e2]
   simp only [List.map_append, List.map_cons] at hu ⊢
   refine (List.perm_middle.nodup_iff).2 (List.nodup_cons.2 ⟨fun hm => ?_, hu⟩)
   obtain ⟨p, hp, hp2⟩ := List.mem_map.1 (by rw [← List.map_append] at hm; exact hm)
   obtain ⟨q, b⟩ := p
   simp at hp2
   subst hp2
   exact hnone b hp
  env := (h.env.frame fI fun b hb => by simp at hb).to t
  mem := by
   rw [e2]
   refine m1'.app (MemR.row rfl hbk (fun b => rfl) m2') fun b => ?_
   simp only [Ctx.up, if_true, hf]
   omega
  one := fun b => by
   have := h.one b
   have := hg b
   by_cases hb : b = w.heap.size
   ·have := hsz0 b
    simp only [hb, if_true] at *
    omega
   ·simp only [if_neg hb]; omega
  own := fun b hb => by
   by_cases e : b = w.heap.size
   ·refine ⟨fun hI => ?_, .inr ?_, by simp [e]⟩
    ·have := h.below b hI; omega
    ·have := h.same.size; omega
   ·simp only [if_neg e] at hb
    have := h.own b (by have := hg b; omega)
    exact ⟨this.1, this.2.1, by simp; omega⟩
  same := h.same.trans ⟨rfl, rfl, rfl, by simp, fun b hb _ => hold b hb⟩ }
theorem InvG.get (h : InvG w0 E I0 C st a w f g) {i : Id} {b : Blk} (hb : st.get i = some b) : st.raw i = some b ∧ C.B i = some b ∧ b.on = true := by
 rw [h.raw]
 cases i with
 | l k =>
  simp only [St.get, getB] at hb
  split at hb
  ·rename_i b' hb'
   split at hb
   ·simp at hb; subst hb; exact ⟨hb', hb', by assumption⟩
   ·simp at hb
  ·simp at hb
 | x j => exact ⟨hb, hb, h.extOn _ (List.mem_of_getElem? hb)⟩
theorem InvG.live (hI : InvG w0 E I0 C st a w f g) {b tot} (h : st.live b tot = true) : ∃ blk, st.get b = some blk ∧ tot = blk.es.length ∧ C.B b = some blk ∧ blk.on = true := by
 unfold St.live at h
 split at h
 ·rename_i blk hb
  exact ⟨blk, hb, by simpa using h, (hI.get hb).2.1, (hI.get hb).2.2⟩
 ·simp at h
theorem InvG.msOk (hI : InvG w0 E I0 C st a w f g) {b off len tot x g' blk} (hb : st.get b = some blk) (ht : tot = blk.es.length) (hr : Rep1 C w (.ms b off len tot) x g') : MsOk (C.μ b) blk off len tot x := by
 obtain ⟨_, hB, hon⟩ := hI.get hb
 obtain ⟨blk', hb', hm⟩ := inv_ms hr
 rw [hB] at hb'; cases hb'
 exact (hm hon).2 ht
theorem InvG.refOk (hI : InvG w0 E I0 C st a w f g) {b i o tot x g' blk} (hb : st.get b = some blk) (ht : tot = blk.es.length) (hr : Rep1 C w (.ref b i o tot) x g') : RefOk (C.μ b) blk i o tot x := by
 obtain ⟨_, hB, hon⟩ := hI.get hb
 obtain ⟨blk', hb', hm⟩ := inv_ref hr
 rw [hB] at hb'; cases hb'
 exact (hm hon).2 ht
theorem InvG.focus (h : InvG w0 E I0 C st a w f g) {i : Id} {b : Blk} (hb : st.get i = some b) :
  ∃ l1 l2 f1 f2, st.entries = l1 ++ (i, b) :: l2 ∧ (∀ b', (st.put i b').entries = l1 ++ (i, b') :: l2) ∧ MemR C w l1 f1 ∧ MemR C w l2 f2 ∧ (∀ b', (i, b') ∉ l1) ∧ (∀ b', (i, b') ∉ l2) ∧
   ((b.es = [] ∧ (C.μ i).cap = 0 ∧ ∀ n, f n = f1 n + f2 n) ∨ ∃ fb, BlkOk C w i b fb ∧ ∀ n, f n = f1 n + ((if n = (C.μ i).blk then 1 else 0) + fb n + f2 n)) := by
 obtain ⟨h1, h2, h3⟩ := h.get hb
 obtain ⟨l1, l2, e1, e2⟩ := St.entries_split h1
 have hm := h.mem
 have hu := h.uniq
 rw [e1] at hm hu
 obtain ⟨f1, f2, hf, m1, m2⟩ := hm.split
 simp only [List.map_append, List.map_cons] at hu
 have hu' := List.nodup_cons.1 ((List.perm_middle.nodup_iff).1 hu)
 have n1 : ∀ b', (i, b') ∉ l1 := fun b' hb' => hu'.1 (List.mem_append_left _ (List.mem_map.2 ⟨_, hb', rfl⟩))
 have n2 : ∀ b', (i, b') ∉ l2 := fun b' hb' => hu'.1 (List.mem_append_right _ (List.mem_map.2 ⟨_, hb', rfl⟩))
 cases m2 with
 | off ho _ => rw [h3] at ho; cases ho
 | nul ho he hc m2 => exact ⟨l1, l2, f1, f2, e1, e2, m1, m2, n1, n2, .inl ⟨he, hc, hf⟩⟩
 | row ho hbk hg m2 => exact ⟨l1, l2, f1, _, e1, e2, m1, m2, n1, n2, .inr ⟨_, hbk, fun n => by rw [hf, hg]⟩⟩
theorem put_uniq {i : Id} {b : Blk} (h : InvG w0 E I0 C st a w f g) (hb : st.get i = some b) (b' : Blk) : ((st.put i b').entries.map (·.1)).Nodup := by
 obtain ⟨l1, l2, _, _, e1, e2, _⟩ := h.focus hb
 have hu := h.uniq
 rw [e1] at hu
 rw [e2]
 simpa using hu
theorem put_ext {i : Id} {b' : Blk} (h : ∀ b ∈ st.ext, b.on = true) (hb : ∀ j, i = .x j → b'.on = true) : ∀ b ∈ (st.put i b').ext, b.on = true := by
 cases i with
 | l k => exact h
 | x j =>
  intro b hm
  rcases List.mem_or_eq_of_mem_set hm with h1 | h1
  ·exact h b h1
  ·rw [h1]; exact hb j rfl
theorem kill_put {k : Nat} : st.kill k = st.put (.l k) ⟨false, 0, false, []⟩ := rfl
theorem getB_get {k : Nat} {b : Blk} (h : getB st.mem k = some b) : st.get (.l k) = some b := h
theorem InvG.kill (h : InvG w0 E I0 C st a w f g) {k : Nat} {b : Blk} (hb : getB st.mem k = some b) {len tot : Nat} {x : Value} {gz : Nat → Nat} (htot : tot = b.es.length) (hlen : len ≤ tot) (hbox : b.box = false)
  (hx : Rep1 C w (.ms (.l k) 0 len tot) x gz) :
  ∃ f' gx, InvG w0 E I0 (C.up (.l k) (C.μ (.l k)) ⟨false, 0, false, []⟩) (st.kill k) a w f' (fun n => g n + gx n) ∧ C.To (C.up (.l k) (C.μ (.l k)) ⟨false, 0, false, []⟩) ∧
   Rep1 (C.up (.l k) (C.μ (.l k)) ⟨false, 0, false, []⟩) w (.sl (.ow b.k) (b.es.take len)) x gx := by
 have hb := getB_get hb
 obtain ⟨_, hB, hon⟩ := h.get hb
 have t := Ctx.up_put (l := C.μ (.l k)) (b' := ⟨false, 0, false, []⟩) hB (fun ho => by cases ho)
 obtain ⟨l1, l2, f1, f2, e1, e2, m1, m2, n1, n2, hc⟩ := h.focus hb
 obtain ⟨sa, cp, rfl, q1, q2, q3, q4⟩ := h.msOk hb htot hx
 have m1' := m1.up t fun b' hb' => absurd hb' (n1 b')
 have m2' := m2.up t fun b' hb' => absurd hb' (n2 b')
 have mem' : ∀ f' : Nat → Nat, (∀ n, f' n = f1 n + f2 n) → MemR (C.up (.l k) (C.μ (.l k)) ⟨false, 0, false, []⟩) w (st.kill k).entries f' := by
  intro f' hf'
  rw [kill_put, e2]
  exact m1'.app (MemR.off rfl m2') hf'
 have mk : ∀ (f' gx : Nat → Nat), (∀ n, f' n = f1 n + f2 n) → (∀ n, f' n + gx n ≤ f n) → InvG w0 E I0 (C.up (.l k) (C.μ (.l k)) ⟨false, 0, false, []⟩) (st.kill k) a w f' (fun n => g n + gx n) := by
  intro f' gx hf' hle
  exact {
      defers := h.defers, first := h.first, firstX := h.firstX, below := h.below, old := h.old, keep := h.keep, same := h.same, ext0 := Ctx.ToX.trans h.firstX.symm h.ext0 t.x
      raw := fun i => by rw [kill_put, St.raw_put (h.get hb).1]; simp only [Ctx.up, h.raw]
      extOn := h.extOn
      uniq := put_uniq h hb _
      env := h.env.to t
      mem := mem' f' hf'
      one := fun n => by have := h.one n; have := hle n; omega
      own := fun n hn => h.own n (by have := hle n; omega) }
 rcases hc with ⟨he, hcap, hf⟩ | ⟨fb, ⟨c, e, fz, g1, g2, g3, g4, g5, gx, g6, g7⟩, hf⟩
 ·have hl : len = 0 := by rw [he] at htot; simp at htot; omega
  have hcp : cp = 0 := by omega
  subst hl hcp
  refine ⟨fun n => f1 n + f2 n, fun _ => 0, mk _ _ (fun _ => rfl) (fun n => by show f1 n + f2 n + 0 ≤ f n; rw [hf]; omega), t, ?_⟩
  rw [List.take_zero]
  exact .nils z0
 ·by_cases hcp : cp = 0
  ·subst hcp
   have hl : len = 0 := by omega
   subst hl
   refine ⟨fun n => f1 n + f2 n, fun _ => 0, mk _ _ (fun _ => rfl) (fun n => by show f1 n + f2 n + 0 ≤ f n; rw [hf]; omega), t, ?_⟩
   rw [List.take_zero]
   exact .nils z0
  ·have q4 := q4 (by omega)
   subst q4
   have hlk : len * b.k ≤ b.es.length * b.k := Nat.mul_le_mul_right _ (by omega)
   have hck : cp * b.k ≤ (C.μ (.l k)).cap * b.k := Nat.mul_le_mul_right _ (by omega)
   obtain ⟨fx, hfx, hr⟩ := g7.extract 0 (len * b.k) (by rw [flat_length g3]; omega)
   rw [show List.drop 0 (flat b.es) = (flat b.es).drop (0 * b.k) by simp, ← flat_sub g3] at hr
   simp only [List.drop_zero, List.take_take, Nat.min_eq_left hlk] at hr
   rw [hbox, Ctx.for_false] at hr
   have hlen' : (b.es.take len).length = len := by simp; omega
   refine ⟨fun n => f1 n + f2 n, fun n => (if n = (C.μ (.l k)).blk then 1 else 0) + fx n, mk _ _ (fun _ => rfl) (fun n => by have := hfx n; simp only [hf]; omega), t, ?_⟩
   have := RepL.ow (C := C) (w := w) (k := b.k) (es := b.es.take len) (a := ⟨(C.μ (.l k)).blk, (C.μ (.l k)).base, none⟩) (cap := cp) (r := []) (xs := []) (f := fun n => (if n = (C.μ (.l k)).blk then 1 else 0) + fx n) (f2 := fun _ => 0)
    g1 rfl (fun x hx => g3 x (List.mem_of_mem_take hx)) (by rw [hlen']; exact q1) (by show (C.μ (.l k)).base + _ ≤ _; omega) (by have := g2.2; omega) g2.1
    (by rw [hlen']; intro v hv; refine g6 v ?_; rw [← Nat.min_eq_left hlk, ← List.take_take] at hv; exact List.mem_of_mem_take hv) (fun b => rfl) (by rw [hlen']; exact hr) z0
   rw [hlen'] at this
   simpa [Rep1] using this.to t
theorem put_env {i : Id} {b' : Blk} : (st.put i b').env = st.env := by cases i <;> rfl
theorem InvG.write (h : InvG w0 E I0 C st a w f g) {i : Id} {b b' : Blk} (hb : st.get i = some b) {fb : Nat → Nat} (hbk : BlkOk C w i b fb)
  {f1 f2 : Nat → Nat} {l1 l2 : List (Id × Blk)} (e2 : ∀ b', (st.put i b').entries = l1 ++ (i, b') :: l2) (m1 : MemR C w l1 f1) (m2 : MemR C w l2 f2)
  (n1 : ∀ b', (i, b') ∉ l1) (n2 : ∀ b', (i, b') ∉ l2) (hf : ∀ n, f n = f1 n + ((if n = (C.μ i).blk then 1 else 0) + fb n + f2 n))
  {c c' : Array Value} {e : TypeId} {fz : Nat × Nat} (hrow : w.heap[(C.μ i).blk]? = some (.cells c e fz)) (hsz : c'.size = c.size)
  (hon : b'.on = true) (hk : b'.k = b.k) (hle : b.es.length ≤ b'.es.length) (hes : ∀ x ∈ b'.es, x.cells.length = b'.k) (hcap : b'.es.length ≤ (C.μ i).cap) {gx g1 fb' : Nat → Nat}
  (hg : ∀ n, g n = g1 n + gx n) (hfb : ∀ n, fb' n ≤ fb n + gx n) (hbx : b'.box = true → ∀ n, fb' n = 0)
  (ho : Ones ((c'.toList.drop (C.μ i).base).take (b'.es.length * b'.k))) (hr : RepL (C.for b'.box) w (flat b'.es) ((c'.toList.drop (C.μ i).base).take (b'.es.length * b'.k)) fb') :
  ∃ f', InvG w0 E I0 (C.up i (C.μ i) b') (st.put i b') a (w.setRow (C.μ i).blk c') f' g1 ∧ C.To (C.up i (C.μ i) b') := by
 obtain ⟨hraw, hB, hon0⟩ := h.get hb
 have t := Ctx.up_put (l := C.μ i) (b' := b') hB (fun _ => ⟨hon0, hle, fun _ => ⟨hk, rfl⟩, .inl rfl⟩)
 have hother : ∀ n, n ≠ (C.μ i).blk → (w.setRow (C.μ i).blk c').heap[n]? = w.heap[n]? := fun n hn => setRow_other w _ n c' hn
 have hnew := setRow_heap w (C.μ i).blk c c' e fz hrow
 have h1 : 1 ≤ f (C.μ i).blk := by rw [hf]; simp; omega
 have hone := h.one (C.μ i).blk
 have hfb1 := hf (C.μ i).blk
 rw [if_pos rfl] at hfb1
 have hgx := hg (C.μ i).blk
 have fI : ∀ n, C.I n → (w.setRow (C.μ i).blk c').heap[n]? = w.heap[n]? := fun n hn => hother n (by rintro rfl; exact (h.own _ (by omega)).1 hn)
 have m1' := (m1.frame fI fun n hn => hother n (by rintro rfl; omega)).up t fun b' hb' => absurd hb' (n1 b')
 have m2' := (m2.frame fI fun n hn => hother n (by rintro rfl; omega)).up t fun b' hb' => absurd hb' (n2 b')
 obtain ⟨c0, e0, fz0, p1, p2, p3, p4, p5, px, p6, p7⟩ := hbk
 rw [hrow] at p1
 cases p1
 have hfb2 := hfb (C.μ i).blk
 have hbk' : BlkOk (C.up i (C.μ i) b') (w.setRow (C.μ i).blk c') i b' fb' := by
  refine ⟨c', e, fz, by simpa [Ctx.up] using hnew, ⟨?_, by simpa [Ctx.up] using p2.2⟩, hes, by simpa [Ctx.up] using hcap, by simp only [Ctx.up, if_true]; rw [hk, hsz]; exact p5, hbx, by simpa [Ctx.up] using ho, ?_⟩
  ·intro o ho; exact p2.1 o (by omega)
  ·have := (hr.frame (w' := w.setRow (C.μ i).blk c') (by rw [Ctx.for_I]; exact fI) fun n hn => hother n (by rintro rfl; omega)).to (t.for b'.box)
   simpa only [Ctx.up, if_true] using this
 refine ⟨fun n => f1 n + ((if n = (C.μ i).blk then 1 else 0) + fb' n + f2 n), ?_, t⟩
 exact {
     defers := h.defers, first := h.first, firstX := h.firstX, old := h.old, keep := h.keep, ext0 := Ctx.ToX.trans h.firstX.symm h.ext0 t.x
     raw := fun j => by rw [St.raw_put hraw]; simp only [Ctx.up, h.raw]
     below := fun n hn => by rw [size_setRow]; exact h.below n hn
     extOn := put_ext h.extOn fun _ _ => hon
     uniq := put_uniq h hb _
     env := by rw [put_env]; exact (h.frame_at (w' := w.setRow (C.μ i).blk c') hother (by omega)).to t
     mem := by
      rw [e2]
      exact m1'.app (MemR.row hon hbk' (fun n => by simp [Ctx.up]; rfl) m2') fun n => by simp [Ctx.up]
     one := fun n => by have := h.one n; have := hg n; have := hfb n; have := hf n; omega
     own := fun n hn => by
      have := h.own n (by have := hg n; have := hfb n; have := hf n; omega)
      exact ⟨this.1, this.2.1, by rw [size_setRow]; exact this.2.2⟩
     same := ⟨h.same.os, h.same.tape, h.same.output, by rw [size_setRow]; exact h.same.size, fun n hn he => by
      rw [hother n]
      ·exact h.same.block n hn he
      ·rintro rfl
       have := h.own (C.μ i).blk (by omega)
       rcases this.2.1 with h2 | h2
       ·exact he h2
       ·omega⟩ }
theorem InvG.move (h : InvG w0 E I0 C st a w f g) {i : Id} {b b' : Blk} (hb : st.get i = some b)
  {f1 f2 fb : Nat → Nat} {l1 l2 : List (Id × Blk)} (e2 : ∀ b', (st.put i b').entries = l1 ++ (i, b') :: l2) (m1 : MemR C w l1 f1) (m2 : MemR C w l2 f2)
  (n1 : ∀ b', (i, b') ∉ l1) (n2 : ∀ b', (i, b') ∉ l2) (hf : ∀ n, f1 n + fb n + f2 n ≤ f n)
  {c' : Array Value} {e : TypeId} {fz : Nat × Nat} {cap : Nat} (hfz : Free0 c' fz) (hcM : cap ≤ capM)
  (hon : b'.on = true) (hle : b.es.length < b'.es.length) (hes : ∀ x ∈ b'.es, x.cells.length = b'.k) (hcap : b'.es.length ≤ cap) (hsz : cap * b'.k ≤ c'.size) {gx g1 fb' : Nat → Nat}
  (hg : ∀ n, g n = g1 n + gx n) (hfb : ∀ n, fb' n ≤ fb n + gx n) (hbx : b'.box = true → ∀ n, fb' n = 0)
  (ho : Ones (c'.toList.take (b'.es.length * b'.k))) (hr : RepL (C.for b'.box) w (flat b'.es) (c'.toList.take (b'.es.length * b'.k)) fb') :
  ∃ f', InvG w0 E I0 (C.up i ⟨w.heap.size, 0, cap⟩ b') (st.put i b') a (w.alloc (.cells c' e fz)) f' g1 ∧ C.To (C.up i ⟨w.heap.size, 0, cap⟩ b') := by
 obtain ⟨hraw, hB, hon0⟩ := h.get hb
 have t := Ctx.up_put (l := ⟨w.heap.size, 0, cap⟩) (b' := b') hB (fun _ => ⟨hon0, by omega, fun e => by omega, .inr (by show C.F ≤ w.heap.size; exact Nat.le_trans h.first h.same.size)⟩)
 have hold : ∀ b, b < w.heap.size → (w.alloc (.cells c' e fz)).heap[b]? = w.heap[b]? := fun b hb => heap_alloc_old w _ b hb
 have fI : ∀ b, C.I b → (w.alloc (.cells c' e fz)).heap[b]? = w.heap[b]? := fun b hb => hold b (h.below b hb)
 have m1' := (m1.frame fI fun b hb => hold b (m1.lt b hb)).up t fun b' hb' => absurd hb' (n1 b')
 have m2' := (m2.frame fI fun b hb => hold b (m2.lt b hb)).up t fun b' hb' => absurd hb' (n2 b')
 have hbk' : BlkOk (C.up i ⟨w.heap.size, 0, cap⟩ b') (w.alloc (.cells c' e fz)) i b' fb' := by
  refine ⟨c', e, fz, ?_, ⟨hfz, by simpa [Ctx.up] using hcM⟩, hes, by simpa [Ctx.up] using hcap, by simpa [Ctx.up] using hsz, hbx, by simpa [Ctx.up] using ho, ?_⟩
  ·simp only [Ctx.up, if_true]; exact heap_alloc_new w _
  ·have := (hr.frame (w' := w.alloc (.cells c' e fz)) (by rw [Ctx.for_I]; exact fI) fun b hb => hold b (hr.lt b hb)).to (t.for b'.box)
   simpa only [Ctx.up, if_true, List.drop_zero] using this
 have hsz0 : ∀ b, 1 ≤ f b + g b → b < w.heap.size := fun b hb => (h.own b hb).2.2
 refine ⟨fun n => f1 n + ((if n = w.heap.size then 1 else 0) + fb' n + f2 n), ?_, t⟩
 exact {
     defers := h.defers, first := h.first, firstX := h.firstX, old := h.old, keep := h.keep, ext0 := Ctx.ToX.trans h.firstX.symm h.ext0 t.x
     raw := fun j => by rw [St.raw_put hraw]; simp only [Ctx.up, h.raw]
     below := fun n hn => by simp only [World.size_alloc]; have := h.below n hn; omega
     extOn := put_ext h.extOn fun _ _ => hon
     uniq := put_uniq h hb _
     env := by rw [put_env]; exact (h.env.frame fI fun b hb => by simp at hb).to t
     mem := by
      rw [e2]
      exact m1'.app (MemR.row hon hbk' (fun n => by simp [Ctx.up]; rfl) m2') fun n => by simp
     one := fun n => by
      have h1 := h.one n
      have h2 := hg n
      have h3 := hfb n
      have h4 := hf n
      have h5 := hsz0 n
      by_cases e : n = w.heap.size
      ·simp only [e, if_true] at *; omega
      ·simp only [if_neg e]; omega
     own := fun n hn => by
      by_cases e : n = w.heap.size
      ·refine ⟨fun hI => ?_, .inr ?_, by simp [e]⟩
       ·have := h.below n hI; omega
       ·have := h.same.size; omega
      ·simp only [if_neg e] at hn
       have := h.own n (by have := hg n; have := hfb n; have := hf n; omega)
       exact ⟨this.1, this.2.1, by simp; omega⟩
     same := h.same.trans ⟨rfl, rfl, rfl, by simp, fun b hb _ => hold b hb⟩ }
theorem InvG.drew (h : InvG w0 E I0 C st a w f g) : InvG w0 E I0 C st a w.drew f g :=
 {defers := h.defers, raw := h.raw, first := h.first, firstX := h.firstX, below := h.below, old := h.old, keep := h.keep, ext0 := h.ext0, extOn := h.extOn, uniq := h.uniq, one := h.one, own := h.own
  same := h.same.trans ⟨rfl, rfl, rfl, Nat.le_refl _, fun _ _ _ => rfl⟩
  env := h.env.frame (fun _ _ => rfl) (fun _ _ => rfl), mem := h.mem.frame (fun _ _ => rfl) (fun _ _ => rfl) }
end
end Go.AM

namespace Go.AM
open Go
section
variable {C : Ctx} {w : World}
theorem one_rep {a : A} {x f} (h : a.one = true) (hr : Rep1 C w a x f) : x.oneCell' = true := by
 cases hr with
 | any h' => simp [A.one] at h
 | v h' => exact h
 | ifc h' => rfl
 | agg hf h1 h' => simp [A.one] at h
 | tup hf h1 h' => simp [A.one] at h
 | nils h' => rfl
 | sl hrow hsp hk hcap hsz hI hs ho hf h1 h' => rfl
 | ow hrow hsp hk hcap hsz hF hfz ho hf h1 h' => rfl
 | ms hb h1 hm h' => exact h1
 | ref hb h1 hm h' => exact h1
 | ptr hrow hsp hk hsz hI hi ho hf h1 h' => rfl
 | fn hf1 hf2 h1 h2 h' => rfl
 | own hrow hsz hfz ho hp hf h1 h' => rfl
theorem one_cells {x : Value} (h : x.oneCell' = true) : x.cells = #[x] := by
 cases x <;> first | rfl | simp [Value.oneCell'] at h
theorem ones_rep {l : List A} {xs f} (h : l.all A.one = true) (hr : RepL C w l xs f) : Ones xs := by
 induction l generalizing xs f with
 | nil => cases hr; intro v hv; cases hv
 | cons a r ih =>
  simp only [List.all_cons, Bool.and_eq_true] at h
  obtain ⟨x, ys, f1, f2, rfl, hf, h1, h2⟩ := RepL.cons hr
  intro v hv
  rcases List.mem_cons.1 hv with rfl | hv
  ·exact one_rep h.1 h1
  ·exact ih h.2 h2 v hv
theorem rep_cells {a : A} {x f} (h : a.cells.all A.one = true) (hr : Rep1 C w a x f) : RepL C w a.cells x.cells.toList f ∧ Ones x.cells.toList := by
 by_cases ha : ∃ cs, a = .agg cs
 ·obtain ⟨cs, rfl⟩ := ha
  cases hr with
  | agg hf h1 h' =>
   cases h' with
   | nil h0 =>
    have : RepL C w cs _ f := h1.congr fun b => by rw [hf, h0]; omega
    simp only [A.cells] at h
    exact ⟨by simpa [A.cells, Value.cells] using this, by simpa [Value.cells] using ones_rep h this⟩
 ·have e : a.cells = [a] := by
   cases a <;> first | rfl | exact absurd ⟨_, rfl⟩ ha
  rw [e] at h ⊢
  simp only [List.all_cons, List.all_nil, Bool.and_true] at h
  have h1 := one_rep h hr
  rw [one_cells h1]
  refine ⟨hr, ?_⟩
  intro v hv
  simp at hv
  rw [hv]; exact h1
theorem vs_rep (l : List Value) : RepL C w (l.map .v) l fun _ => 0 := by
 induction l with
 | nil => exact z0
 | cons x l ih => exact .v ih
theorem zero_rep {P : Program} {T : Tab} (hT : TabOk P T) {t : Nat} (ht : (T.row t).size ≠ 0) {z : Value}
  (hz : if (T.row t).isAgg then z = .agg (T.row t).zero.toArray else (T.row t).zero = [z]) : Rep1 C w (T.row t).zeroA z fun _ => 0 := by
 unfold TRow.zeroA
 cases hag : (T.row t).isAgg with
 | true =>
  rw [hag] at hz
  simp only [if_true] at hz
  subst hz
  exact .agg (fun _ => rfl) (vs_rep _) z0
 | false =>
  rw [hag] at hz
  simp only [Bool.false_eq_true, if_false] at hz
  simp only [Bool.false_eq_true, if_false, hz]
  exact .v z0
theorem zero_one {P : Program} {T : Tab} (hT : TabOk P T) {t : Nat} (ht : (T.row t).size ≠ 0) : (T.row t).zeroA.cells.all A.one = true ∧ (T.row t).zeroA.cells.length = (T.row t).size := by
 obtain ⟨i, d, z, r⟩ := hT.get ht
 have h1 := r.ones
 have h2 := r.len
 have h3 := r.agg
 unfold TRow.zeroA
 cases hag : (T.row t).isAgg with
 | true =>
  simp only [if_true, A.cells, List.length_map, List.all_map, List.all_eq_true]
  exact ⟨fun v hv => h1 v hv, h2⟩
 | false =>
  rw [hag] at h3
  simp only [Bool.false_eq_true, if_false] at h3
  rw [h3] at h1 h2
  simp only [Bool.false_eq_true, if_false, h3, A.cells, List.all_cons, List.all_nil, Bool.and_true, A.one]
  exact ⟨h1 z (List.mem_cons_self ..), h2⟩
end
section
variable {T : Tab} {by_ : Nat → Mode} {ann : Ann} {Φ : Known} {P : Program} {w0 : World} {E : Nat → Prop} {I0 : Ctx}
 {o : Oper} {a : Act} {w : World} {m : Nat} {K : St → Free} {r : A} {X : List Blk} {C : Ctx} {st : St} {f g : Nat → Nat}
theorem sl_bare {s es x g} (h : Rep1 C w (.sl s es) x g) : Rep1 C.bare w (.sl s es) x g := by
 cases h with
 | nils h => cases h with | nil h => exact .nils (.nil h)
 | sl hrow hsp hk hcap hsz hI hs ho hf h1 h => cases h with | nil h => exact .sl hrow hsp hk hcap hsz hI hs ho hf h1 (.nil h)
 | ow hrow hsp hk hcap hsz hF hfz ho hf h1 h => cases h with | nil h => exact .ow hrow hsp hk hcap hsz hF hfz ho hf h1 (.nil h)
theorem ifc_bare {x g} (h : Rep1 C w .ifc x g) : Rep1 C.bare w .ifc x g := by
 cases h with
 | ifc h => cases h with | nil h => exact .ifc (.nil h)
theorem insC_ok {b b' : A} {st' : St} {x : Value} (h : insC st b = some (b', st')) (hI : InvG w0 E I0 C st a w f g) (hx : Rep1 C w b x fun _ => 0) :
  ∃ C' f' gx, InvG w0 E I0 C' st' a w f' (fun n => g n + gx n) ∧ C.To C' ∧ Rep1 C'.bare w b' x gx ∧ x.oneCell' = true ∧ st'.env = st.env ∧ st'.ext = st.ext ∧ C'.I = C.I := by
 unfold insC at h
 split at h
 ·split at h
  case isFalse => simp at h
  rename_i y ho
  simp at h
  obtain ⟨rfl, rfl⟩ := h
  obtain rfl := inv_v hx
  exact ⟨C, f, fun _ => 0, hI, .refl C, .v z0, ho, rfl, rfl, rfl⟩
 ·simp at h
  obtain ⟨rfl, rfl⟩ := h
  exact ⟨C, f, fun _ => 0, hI, .refl C, sl_bare hx, one_rep rfl hx, rfl, rfl, rfl⟩
 ·simp at h
  obtain ⟨rfl, rfl⟩ := h
  exact ⟨C, f, fun _ => 0, hI, .refl C, sl_bare hx, one_rep rfl hx, rfl, rfl, rfl⟩
 ·simp at h
  obtain ⟨rfl, rfl⟩ := h
  exact ⟨C, f, fun _ => 0, hI, .refl C, ifc_bare hx, one_rep rfl hx, rfl, rfl, rfl⟩
 ·split at h
  case h_2 => simp at h
  rename_i blk hb
  split at h
  case isFalse => simp at h
  rename_i hc
  simp at h
  obtain ⟨rfl, rfl⟩ := h
  obtain ⟨hc1, hc2, rfl, hc4⟩ := hc
  obtain ⟨f', gx, h1, h2, h3⟩ := hI.kill hb hc2 hc4 hc1 hx
  exact ⟨_, f', gx, h1, h2, sl_bare h3, one_rep rfl hx, rfl, rfl, rfl⟩
 ·simp at h
theorem insL_ok : ∀ {l l' : List A} {st st' : St} {C : Ctx} {f g : Nat → Nat} {xs : List Value} (_ : insL st l = some (l', st')) (_ : InvG w0 E I0 C st a w f g) (_ : RepL C w l xs fun _ => 0),
  ∃ C' f' gx, InvG w0 E I0 C' st' a w f' (fun n => g n + gx n) ∧ C.To C' ∧ RepL C'.bare w l' xs gx ∧ Ones xs ∧ st'.env = st.env ∧ st'.ext = st.ext ∧ C'.I = C.I
 | [], l', st, st', C, f, g, xs, h, hI, hx => by
  simp [insL] at h
  obtain ⟨rfl, rfl⟩ := h
  cases hx
  exact ⟨C, f, fun _ => 0, hI, .refl C, z0, (by intro v hv; cases hv), rfl, rfl, rfl⟩
 | b :: l, l', st, st', C, f, g, xs, h, hI, hx => by
  simp only [insL] at h
  split at h
  case h_2 => simp at h
  rename_i b1 st1 h1
  split at h
  case h_2 => simp at h
  rename_i l1 st2 h2
  simp at h
  obtain ⟨rfl, rfl⟩ := h
  obtain ⟨x, ys, rfl, r1, r2⟩ := hx.cons0
  obtain ⟨C1, f1, g1, i1, t1, q1, o1, e1, e1', ei1⟩ := insC_ok h1 hI r1
  obtain ⟨C2, f2, g2, i2, t2, q2, o2, e2, e2', ei2⟩ := insL_ok h2 i1 (r2.to t1)
  refine ⟨C2, f2, fun n => g1 n + g2 n, i2.congr fun n => by show g n + (g1 n + g2 n) ≤ g n + g1 n + g2 n; omega, t1.trans t2, RepL.app (RepL.to q1 t2.bare) q2 (fun _ => rfl), ?_, e2.trans e1, e2'.trans e1', ei2.trans ei1⟩
  intro v hv
  rcases List.mem_cons.1 hv with rfl | hv
  ·exact o1
  ·exact o2 v hv
theorem insA_ok {b b' : A} {st' : St} {x : Value} (h : insA st b = some (b', st')) (hI : InvG w0 E I0 C st a w f g) (hx : Rep1 C w b x fun _ => 0) :
  ∃ C' f' gx, InvG w0 E I0 C' st' a w f' (fun n => g n + gx n) ∧ C.To C' ∧ RepL C'.bare w b'.cells x.cells.toList gx ∧ Ones x.cells.toList ∧ st'.env = st.env ∧ st'.ext = st.ext ∧ C'.I = C.I ∧ b'.cells.length = b.cells.length := by
 unfold insA at h
 split at h
 ·rename_i cs
  split at h
  case h_2 => simp at h
  rename_i ds st1 h1
  simp at h
  obtain ⟨rfl, rfl⟩ := h
  obtain ⟨ys, rfl, hys⟩ := inv_agg hx
  obtain ⟨C1, f1, g1, i1, t1, q1, o1, e1, e1', ei1⟩ := insL_ok h1 hI hys
  refine ⟨C1, f1, g1, i1, t1, by simpa [A.cells, Value.cells] using q1, by simpa [Value.cells] using o1, e1, e1', ei1, ?_⟩
  have := q1.length
  have := hys.length
  simp [A.cells]; omega
 ·rename_i hna
  obtain ⟨C1, f1, g1, i1, t1, q1, o1, e1, e1', ei1⟩ := insC_ok h hI hx
  have hb : b.cells = [b] := by cases b <;> first | rfl | exact absurd rfl (hna _)
  have hb' : b'.cells = [b'] := by
   unfold insC at h
   split at h <;> (try (split at h)) <;> (try (split at h)) <;> simp at h <;> (obtain ⟨rfl, rfl⟩ := h; rfl)
  rw [hb', one_cells o1, hb]
  refine ⟨C1, f1, g1, i1, t1, q1, ?_, e1, e1', ei1, rfl⟩
  intro v hv
  simp at hv
  rw [hv]; exact o1
theorem box_ok {x : A} {v : Value} {e : TypeId} (hI : Inv w0 E I0 C st a w f) (hx : Rep1 C w x v fun _ => 0) (hrun : (execOp a.eval o).run P w = .ok (.value (.pointer (some ⟨w.heap.size, 0, none⟩))) (w.alloc (.cells v.cells e)))
  (hR : RunsN T by_ ann Φ m (opBox st o.dst x K) r X) : OpDone T by_ ann Φ P w0 E I0 o a w m K r X := by
 unfold opBox at hR
 split at hR
 ·exact hR.bad.elim
 rename_i hk
 split at hR
 case isFalse => exact hR.bad.elim
 rename_i h1
 obtain ⟨hrep, hones⟩ := rep_cells h1 hx
 have hlen := hrep.length
 obtain ⟨f', hI', t⟩ := hI.toG.alloc (k := keyOf o.dst) (n := x.cells.length) (cap := 1) (box := true) (es := [x]) (c := v.cells) (e := e) (fz := (0, 0)) (gx := fun _ => 0) (g1 := fun _ => 0)
  hk (fun _ => rfl) (by intro y hy; simp at hy; rw [hy]) (by simp) (by simp at hlen ⊢; omega) (by intro o _ h; omega) (by unfold capM; omega)
  (by intro u hu; exact hones u (List.mem_of_mem_take hu)) (fun _ _ => rfl) (by simp only [flat, List.flatMap_cons, List.flatMap_nil, List.append_nil, List.length_cons, List.length_nil, Nat.zero_add, Nat.one_mul]; rw [List.take_of_length_le (by omega)]; exact hrep)
 have hI' := hI'.inv fun _ => rfl
 refine ⟨m, _, _, _, _, f', _, Nat.le_refl _, hR, hrun, .inl rfl, hI'.dst o.dst ?_⟩
 refine .ref (blk := ⟨true, x.cells.length, true, [x]⟩) (by simp [Ctx.up]) rfl (fun _ => ⟨by simp, fun _ => ⟨by simp [Ctx.up], by omega⟩⟩) z0
theorem plain_bare {C : Ctx} {w : World} {l : List A} {xs : List Value} {f : Nat → Nat} (h : RepL C w l xs f) (hp : plainL l = true) : RepL C.bare w l xs f := by
 induction h with
 | nil h => exact .nil h
 | any _ ih => simp [plainL, A.plain] at hp
 | v _ ih => exact .v (ih (by simpa [plainL, A.plain] using hp))
 | ifc _ ih => exact .ifc (ih (by simpa [plainL, A.plain] using hp))
 | agg hf _ _ ih1 ih =>
  simp only [plainL, A.plain, Bool.and_eq_true] at hp
  exact .agg hf (ih1 hp.1) (ih hp.2)
 | tup hf _ _ ih1 ih => simp [plainL, A.plain] at hp
 | nils _ ih =>
  simp only [plainL, Bool.and_eq_true] at hp
  exact .nils (ih hp.2)
 | sl hrow hsp hk hcap hsz hI hs ho hf h1 _ _ ih =>
  simp only [plainL, Bool.and_eq_true] at hp
  exact .sl hrow hsp hk hcap hsz hI hs ho hf h1 (ih hp.2)
 | ow hrow hsp hk hcap hsz hF hfz ho hf h1 _ _ ih => simp [plainL, A.plain, Sh.own] at hp
 | ms hb h1 hm _ ih => simp [plainL, A.plain] at hp
 | ref hb h1 hm _ ih => simp [plainL, A.plain] at hp
 | ptr hrow hsp hk hsz hI hi ho hf h1 _ _ ih => simp [plainL, A.plain] at hp
 | fn hf1 hf2 _ _ _ ih1 ih2 ih => simp [plainL, A.plain] at hp
 | own hrow hsz hfz ho hp' hf h1 _ _ ih => simp [plainL, A.plain] at hp
theorem boxF_ok {t : TypeId} {x : Operand} (hop : o.op = .box t x) (hI : Inv w0 E I0 C st a w f) (hR : RunsN T by_ ann Φ m (opBoxF st o.dst (ev st.env x) K) r X) :
  OpDone T by_ ann Φ P w0 E I0 o a w m K r X := by
 unfold opBoxF at hR
 split at hR
 case isFalse => exact hR.bad.elim
 rename_i hc
 obtain ⟨h1, hp⟩ := hc
 obtain ⟨hrep, hones⟩ := rep_cells h1 (ev_rep hI.env x)
 have hlen := hrep.length
 have hrun : (execOp a.eval o).run P w = .ok (.value (.pointer (some ⟨w.heap.size, 0, none⟩))) (w.alloc (.cells (a.eval x).cells t)) := by simp [execOp, hop, Instr.box, newVar, newRow]
 obtain ⟨C1, hC1⟩ : ∃ C1 : Ctx, C1 = ⟨C.μ, C.B, fun b => C.I b ∨ b = w.heap.size, C.F⟩ := ⟨_, rfl⟩
 have t1 : C.To C1 := by rw [hC1]; exact ⟨fun _ h => .inl h, rfl, fun i blk h => ⟨blk, h, fun ho => ⟨ho, Nat.le_refl _, fun _ => ⟨rfl, rfl⟩, .inl rfl⟩⟩⟩
 have hold : ∀ b, b < w.heap.size → (w.alloc (.cells (a.eval x).cells t)).heap[b]? = w.heap[b]? := fun b hb => heap_alloc_old w _ b hb
 have fI : ∀ b, C.I b → (w.alloc (.cells (a.eval x).cells t)).heap[b]? = w.heap[b]? := fun b hb => hold b (hI.below b hb)
 have fM : ∀ b, 1 ≤ f b → (w.alloc (.cells (a.eval x).cells t)).heap[b]? = w.heap[b]? := fun b hb => hold b (hI.mem.lt b hb)
 have hI1 : Inv w0 E I0 C1 st a (w.alloc (.cells (a.eval x).cells t)) f := {
  defers := hI.defers
  raw := by rw [hC1]; exact hI.raw
  first := by rw [hC1]; exact hI.first
  firstX := by rw [hC1]; exact hI.firstX
  below := by
   intro b hb
   rw [hC1] at hb
   simp only [World.size_alloc]
   rcases hb with hb | rfl
   ·have := hI.below b hb; omega
   ·omega
  old := by
   intro b hb
   rw [hC1] at hb
   rcases hb with hb | rfl
   ·exact hI.old b hb
   ·exact .inr hI.same.size
  keep := by intro b hb; rw [hC1]; exact .inl (hI.keep b hb)
  ext0 := Ctx.ToX.trans hI.firstX.symm hI.ext0 t1.x
  extOn := hI.extOn
  uniq := hI.uniq
  env := (hI.env.frame fI (fun b hb => by simp at hb)).to t1
  mem := (hI.mem.frame fI fM).to t1 (by intro i _ _ _; rw [hC1])
  one := hI.one
  own := by
   intro b hb
   rw [hC1]
   obtain ⟨h2, h3⟩ := hI.own b hb
   exact ⟨fun h => h.elim h2 fun h => by have := hI.mem.lt b hb; omega, h3⟩
  same := hI.same.trans ⟨rfl, rfl, rfl, by simp, fun b hb _ => hold b hb⟩ }
 refine ⟨m, _, _, _, _, f, _, Nat.le_refl _, hR, hrun, .inl rfl, hI1.dst o.dst ?_⟩
 have hb := ((plain_bare hrep hp).frame (w' := w.alloc (.cells (a.eval x).cells t)) fI (fun b hb => by simp at hb)).to t1.bare
 have := RepL.ptr (C := C1) (w := w.alloc (.cells (a.eval x).cells t)) (es := [ev st.env x]) (i := 0) (o := 0) (a := ⟨w.heap.size, 0, none⟩) (k := (ev st.env x).cells.length) (c := (a.eval x).cells) (e := t) (fz := (0, 0)) (r := []) (xs := []) (f := fun _ => 0) (f1 := fun _ => 0)
  (heap_alloc_new w _) rfl (by intro y hy; simp at hy; rw [hy]) (by simp at hlen ⊢; omega) (by rw [hC1]; exact .inr rfl) (by simp)
  (by intro u hu; exact hones u (List.mem_of_mem_drop (List.mem_of_mem_take hu))) (fun _ => rfl)
  (by simp only [flat, List.flatMap_cons, List.flatMap_nil, List.append_nil, List.length_cons, List.length_nil, Nat.zero_add, Nat.one_mul, List.drop_zero]; rw [List.take_of_length_le (by simp at hlen ⊢; omega)]; exact hb) z0
 show RepL _ _ [_] [_] _
 simpa using this
theorem boxOp_ok {t : TypeId} {x : Operand} (hop : o.op = .box t x) (hI : Inv w0 E I0 C st a w f) (hR : RunsN T by_ ann Φ m (opBox st o.dst (ev st.env x) K) r X) :
  OpDone T by_ ann Φ P w0 E I0 o a w m K r X :=
 box_ok (e := t) hI (ev_rep hI.env x) (by simp [execOp, hop, Instr.box, newVar, newRow]) hR
theorem allocOp_ok {t : TypeId} (hop : o.op = .alloc t) (hT : TabOk P T) (hI : Inv w0 E I0 C st a w f)
  (hR : RunsN T by_ ann Φ m (if (T.row t).size = 0 then .bad else opBox st o.dst (T.row t).zeroA K) r X) : OpDone T by_ ann Φ P w0 E I0 o a w m K r X := by
 split at hR
 ·exact hR.bad.elim
 rename_i ht
 obtain ⟨z, hz, _, hz2⟩ := hT.run_zero ht w
 refine box_ok (e := t) hI (zero_rep hT ht hz2) ?_ hR
 simp [execOp, hop, Instr.alloc, newVar, newRow, hz]
end
end Go.AM

namespace Go.AM
open Go
theorem setCells_eq : ∀ (vs cs : List A) (off : Nat), off + vs.length ≤ cs.length → setCells cs off vs = cs.take off ++ vs ++ cs.drop (off + vs.length)
 | [], cs, off, h => by simp [setCells]
 | v :: r, cs, off, h => by
  simp only [List.length_cons] at h
  rw [setCells, setCells_eq r (cs.set off v) (off + 1) (by simp; omega)]
  have hlt : off < cs.length := by omega
  rw [List.take_set, List.drop_set, if_pos (by omega)]
  rw [List.take_succ_eq_append_getElem hlt, List.set_append_right _ _ (by simp; omega)]
  simp only [List.length_take, Nat.min_eq_left (Nat.le_of_lt hlt), Nat.sub_self, List.set_cons_zero, List.append_assoc, List.cons_append, List.nil_append, List.length_cons]
  rw [show off + 1 + r.length = off + (r.length + 1) by omega]
theorem storeIn_cells {e v : A} {off : Nat} (h : off + v.cells.length ≤ e.cells.length) (hv : v.cells.length ≠ 0) :
  (storeIn e off v).cells = e.cells.take off ++ v.cells ++ e.cells.drop (off + v.cells.length) := by
 unfold storeIn
 split
 ·rename_i cs
  simp only [A.cells] at h ⊢
  exact setCells_eq _ _ _ h
 ·rename_i hna
  have he : e.cells = [e] := by cases e <;> first | rfl | exact absurd rfl (hna _)
  rw [he] at h ⊢
  simp only [List.length_cons, List.length_nil] at h
  have h0 : off = 0 := by omega
  have h1 : v.cells.length = 1 := by omega
  rw [h0, h1]
  simp
theorem flat_set {es : List A} {k : Nat} (hk : ∀ x ∈ es, x.cells.length = k) {i off : Nat} {v : A} (hi : i < es.length) (hv : v.cells.length ≠ 0) (h : off + v.cells.length ≤ k) :
  flat (es.set i (storeIn (es.getD i .any) off v)) = (flat es).take (i * k + off) ++ v.cells ++ (flat es).drop (i * k + off + v.cells.length) := by
 induction es generalizing i with
 | nil => simp at hi
 | cons a r ih =>
  have hka := hk a (List.mem_cons_self ..)
  have hkr := fun x hx => hk x (List.mem_cons_of_mem a hx)
  cases i with
  | zero =>
   simp only [List.set_cons_zero, List.getD_cons_zero, flat, List.flatMap_cons, Nat.zero_mul, Nat.zero_add]
   rw [storeIn_cells (by omega) hv, List.take_append_of_le_length (by omega), List.drop_append_of_le_length (by omega)]
   simp [List.append_assoc]
  | succ i =>
   have := ih hkr (i := i) (by simpa using hi)
   simp only [List.set_cons_succ, List.getD_cons_succ, flat, List.flatMap_cons] at *
   rw [this]
   have e1 : (i + 1) * k + off = a.cells.length + (i * k + off) := by rw [hka, Nat.succ_mul]; omega
   rw [e1, List.take_append, List.take_of_length_le (l := a.cells) (by omega), Nat.add_sub_cancel_left]
   rw [show a.cells.length + (i * k + off) + v.cells.length = a.cells.length + (i * k + off + v.cells.length) by omega]
   rw [List.drop_append, List.drop_eq_nil_of_le (as := a.cells) (by omega), Nat.add_sub_cancel_left]
   simp [List.append_assoc]
theorem set_k {es : List A} {k : Nat} (hk : ∀ x ∈ es, x.cells.length = k) {i off : Nat} {v : A} (hi : i < es.length) (hv : v.cells.length ≠ 0) (h : off + v.cells.length ≤ k) :
  ∀ x ∈ es.set i (storeIn (es.getD i .any) off v), x.cells.length = k := by
 intro x hx
 rcases List.mem_or_eq_of_mem_set hx with h1 | h1
 ·exact hk x h1
 ·have := getD_cells hk hi
  rw [h1, storeIn_cells (by omega) hv]
  simp only [List.length_append, List.length_take, List.length_drop]
  omega
theorem seg_swap {α : Type} {xs V : List α} {A S p n : Nat} (hV : V.length = n) (h1 : p + n ≤ S) (h2 : A + S ≤ xs.length) :
  ((xs.take (A + p) ++ V ++ xs.drop (A + p + n)).drop A).take S = ((xs.drop A).take S).take p ++ V ++ ((xs.drop A).take S).drop (p + n) := by
 rw [List.append_assoc, List.drop_append_of_le_length (by simp; omega), List.drop_take, Nat.add_sub_cancel_left]
 rw [List.take_append, List.take_append]
 simp only [List.length_take, List.length_drop, List.take_take, List.drop_take, List.drop_drop]
 have e1 : min p (xs.length - A) = p := by omega
 rw [e1, hV, Nat.min_eq_right (by omega : p ≤ S), Nat.min_eq_left (by omega : p ≤ S), List.take_of_length_le (l := V) (by omega)]
 rw [← Nat.add_assoc, List.append_assoc, show S - p - n = S - (p + n) by omega]
theorem run_storeCells_free {P : Program} (g o : Nat) (t : TypeId) (fz : Nat × Nat) : ∀ (vs : List Value) (i : Nat) (cur : Array Value) (w : World), w.heap[g]? = some (.cells cur t fz) → Free0 cur fz → o + i + vs.length ≤ cur.size → Ones vs →
  (storeCells ⟨g, o, none⟩ vs i).run P w = .ok () (w.setRow g (cur.toList.take (o + i) ++ vs ++ cur.toList.drop (o + i + vs.length)).toArray)
 | [], i, cur, w, hg, _, _, _ => by
  simp only [storeCells, List.append_nil, List.length_nil, Nat.add_zero, List.take_append_drop, Array.toArray_toList]
  rw [setRow_self w g cur t fz hg]
  rfl
 | v :: rest, i, cur, w, hg, hz, hl, h1 => by
  have hi : o + i < cur.size := by simp at hl; omega
  have hcell : w.cell? ⟨g, o + i, none⟩ = some cur[o + i] := by simp [World.cell?, hg, hi]
  have hfro : w.frozen? ⟨g, o + i, none⟩ = false := by
   have := hz (o + i) hi
   simp only [World.frozen?, hg]
   simp only [Bool.and_eq_false_iff, decide_eq_false_iff_not]
   by_cases h : fz.1 ≤ o + i
   ·right; intro h2; exact this ⟨h, h2⟩
   ·left; exact h
  have hst : (store ((⟨g, o, none⟩ : Addr).add i) v).run P w = .ok () (w.setRow g (cur.setIfInBounds (o + i) v)) := by
   rw [addr_add, run_store P w _ v _ (h1 v (by simp)), hcell]
   simp [hfro, setCell_eq_setRow w g (o + i) cur t fz v hg]
  have ih := run_storeCells_free (P := P) g o t fz rest (i + 1) (cur.setIfInBounds (o + i) v) (w.setRow g (cur.setIfInBounds (o + i) v)) (setRow_heap w g cur _ t _ hg) (by intro q hq; exact hz q (by simpa using hq)) (by simp at hl ⊢; omega) (fun x hx => h1 x (by simp [hx]))
  simp only [storeCells, Sem.run_bind, hst, Result.andThen_ok, ih, setRow_setRow]
  congr 3
  have e := list_seg_step cur.toList (o + i) v rest (by simp at hl ⊢; omega)
  simpa [Array.toList_setIfInBounds, Nat.add_assoc] using e
section
variable {T : Tab} {by_ : Nat → Mode} {ann : Ann} {Φ : Known} {P : Program} {w0 : World} {E : Nat → Prop} {I0 : Ctx}
 {o : Oper} {a : Act} {w : World} {m : Nat} {K : St → Free} {r : A} {X : List Blk} {C : Ctx} {st : St} {f g : Nat → Nat}
theorem RepL.swap {l v : List A} {xs vs : List Value} {fb gx : Nat → Nat} {p n : Nat} (h : RepL C w l xs fb) (hv : RepL C w v vs gx) (hn : v.length = n) (hp : p + n ≤ l.length) :
  ∃ f', (∀ b, f' b ≤ fb b + gx b) ∧ RepL C w (l.take p ++ v ++ l.drop (p + n)) (xs.take p ++ vs ++ xs.drop (p + n)) f' := by
 have hl := h.length
 obtain ⟨f1, h1, r1⟩ := h.extract 0 p (by omega)
 have e : l = l.take p ++ (l.drop p) := (List.take_append_drop ..).symm
 have h0 := h
 rw [e] at h
 obtain ⟨ys, zs, k1, k2, rfl, hk, q1, q2, hy⟩ := h.split
 have e2 : l.drop p = (l.drop p).take n ++ (l.drop p).drop n := (List.take_append_drop ..).symm
 rw [e2] at q2
 obtain ⟨us, ws, j1, j2, rfl, hj, q3, q4, hu⟩ := q2.split
 have ly : ys.length = p := by rw [hy]; simp; omega
 have lu : us.length = n := by rw [hu]; simp; omega
 refine ⟨fun b => k1 b + gx b + j2 b, fun b => by have := hk b; have := hj b; show k1 b + gx b + j2 b ≤ fb b + gx b; omega, ?_⟩
 have t1 : (ys ++ (us ++ ws)).take p = ys := by rw [← ly, List.take_left]
 have t2 : (ys ++ (us ++ ws)).drop (p + n) = ws := by rw [← ly, ← List.drop_drop, List.drop_left, ← lu, List.drop_left]
 rw [t1, t2]
 rw [List.drop_drop] at q4
 exact (q1.app hv (fun _ => rfl)).app q4 (fun _ => rfl)
theorem storeTo_ok {t : TypeId} {p x : Operand} {b : Id} {i off tot : Nat} {v : A} {bx : Bool} {gx : Nat → Nat} {va : Value} (hop : o.op = .store t p x) (hT : TabOk P T) (hI : InvG w0 E I0 C st a w f gx)
  (hp : Rep1 C w (.ref b i off tot) (a.eval p) fun _ => 0) (hva : a.eval x = va) (hv : RepL (C.for bx) w v.cells va.cells.toList gx) (hones : Ones va.cells.toList) (hbx : bx = true → ∀ n, gx n = 0)
  (hR : RunsN T by_ ann Φ m (storeTo (T.row t) st bx b i off tot v K) r X) (hd : o.dst = none) : OpDone T by_ ann Φ P w0 E I0 o a w m K r X := by
 unfold storeTo at hR
 split at hR
 case h_2 => exact hR.bad.elim
 rename_i blk hb
 split at hR
 case isFalse => exact hR.bad.elim
 rename_i hc
 obtain ⟨hc0, hc1, hc2, hc3, hc4⟩ := hc
 obtain ⟨hx, hi⟩ := hI.refOk hb hc1 hp
 rw [hc1] at hi
 obtain ⟨l1, l2, f1, f2, e1, e2, m1, m2, n1, n2, hcase⟩ := hI.focus hb
 rcases hcase with ⟨he, _⟩ | ⟨fb, hbk, hf⟩
 ·rw [he] at hi; simp at hi
 obtain ⟨c, e, fz, g1, g2, g3, g4, g5, gbx, g6, g7⟩ := id hbk
 have hcl := getD_cells g3 hi
 have hcap : blk.es.length * blk.k ≤ (C.μ b).cap * blk.k := Nat.mul_le_mul_right _ g4
 have hik : i * blk.k + blk.k ≤ blk.es.length * blk.k := by rw [← Nat.succ_mul]; exact Nat.mul_le_mul_right _ hi
 have hvl : va.cells.toList.length = (T.row t).size := by rw [← hv.length]; exact hc3
 have hvl' : va.cells.size = (T.row t).size := by simpa using hvl
 have hrun : (execOp a.eval o).run P w = .ok .skip (w.setRow (C.μ b).blk (c.toList.take ((C.μ b).base + i * blk.k + off) ++ va.cells.toList ++ c.toList.drop ((C.μ b).base + i * blk.k + off + (T.row t).size)).toArray) := by
  have := run_storeCells_free (P := P) (C.μ b).blk ((C.μ b).base + i * blk.k + off) e fz va.cells.toList 0 c w g1 g2.1 (by rw [hvl]; omega) hones
  simp only [Nat.add_zero, hvl] at this
  simp only [execOp, hop, Instr.storeAt, hx, hva, Instr.sureAddr, Sem.run_bind, Sem.run_pure, Result.andThen_ok, storeVar, hT.run_size hc4, hvl', ne_eq, not_true_eq_false, if_false, Sem.run_ite, this]
 rw [← hc0] at hv
 obtain ⟨f', hf', hrep⟩ := g7.swap hv hc3 (p := i * blk.k + off) (by rw [flat_length g3]; omega)
 have hflat := flat_set g3 (off := off) (v := v) hi (by omega) (by omega)
 have hkk := set_k g3 (off := off) (v := v) hi (by omega) (by omega)
 rw [hc3] at hflat
 rw [← hflat] at hrep
 have hseg := seg_swap (xs := c.toList) (V := va.cells.toList) (A := (C.μ b).base) (S := blk.es.length * blk.k) (p := i * blk.k + off) hvl (by omega) (by simp; omega)
 rw [← hseg] at hrep
 have hones' : Ones (((c.toList.take ((C.μ b).base + (i * blk.k + off)) ++ va.cells.toList ++ c.toList.drop ((C.μ b).base + (i * blk.k + off) + (T.row t).size)).drop (C.μ b).base).take (blk.es.length * blk.k)) := by
  rw [hseg]
  intro u hu
  rcases List.mem_append.1 hu with hu | hu
  ·rcases List.mem_append.1 hu with hu | hu
   ·exact g6 u (List.mem_of_mem_take hu)
   ·exact hones u hu
  ·exact g6 u (List.mem_of_mem_drop hu)
 obtain ⟨f2', hI', t'⟩ := hI.write (b' := { blk with es := blk.es.set i (storeIn (blk.es.getD i .any) off v) }) hb hbk e2 m1 m2 n1 n2 hf (c' := (c.toList.take ((C.μ b).base + (i * blk.k + off)) ++ va.cells.toList ++ c.toList.drop ((C.μ b).base + (i * blk.k + off) + (T.row t).size)).toArray)
  g1 (by simp only [List.size_toArray, List.length_append, List.length_take, List.length_drop, hvl, Array.length_toList]; omega) (hI.get hb).2.2 rfl (by simp) hkk (by simpa using g4) (gx := gx) (g1 := fun _ => 0) (fun n => by simp) hf'
  (fun hb0 n => by have := hf' n; have := gbx hb0 n; have := hbx (by rw [← hc0]; exact hb0) n; omega) (by simpa using hones') (by simpa using hrep)
 have hI' := hI'.inv fun _ => rfl
 rw [Nat.add_assoc] at hrun
 have hput : a.put o.dst undef = a := by rw [hd]; rfl
 rw [← hput] at hI'
 exact ⟨m, _, undef, _, _, f2', .skip, Nat.le_refl _, hR, hrun, .inr ⟨rfl, rfl⟩, hI'⟩
theorem store_ok {t : TypeId} {p x : Operand} (hop : o.op = .store t p x) (hT : TabOk P T) (hI : Inv w0 E I0 C st a w f) (hd : o.dst = none)
  (hR : RunsN T by_ ann Φ m (opStore T st t (ev st.env p) (ev st.env x) K) r X) : OpDone T by_ ann Φ P w0 E I0 o a w m K r X := by
 have hp := ev_rep hI.env p
 have hx := ev_rep hI.env x
 unfold opStore at hR
 split at hR
 case h_2 => exact hR.bad.elim
 rename_i b i off tot ep
 rw [ep] at hp
 split at hR
 case h_2 => exact hR.bad.elim
 rename_i blk hb
 split at hR
 ·split at hR
  case isFalse => exact hR.bad.elim
  rename_i h1
  obtain ⟨q1, q2⟩ := rep_cells h1 hx
  exact storeTo_ok (bx := true) hop hT hI.toG hp rfl q1 q2 (fun _ _ => rfl) hR hd
 ·split at hR
  case h_2 => exact hR.bad.elim
  rename_i w' st1 h1
  obtain ⟨C1, f1, gx, i1, t1, q1, o1, _⟩ := insA_ok h1 hI.toG hx
  exact storeTo_ok (bx := false) hop hT (i1.congr (g' := gx) fun n => by simp) (RepL.to hp t1) rfl q1 o1 (fun h => by cases h) hR hd
theorem Inv.newI (hI : Inv w0 E I0 C st a w f) {w2 : World} (hos : w2.os = w.os) (htape : w2.tape = w.tape) (hout : w2.output = w.output) (hsz : w.heap.size < w2.heap.size)
  (hold : ∀ b, b < w.heap.size → w2.heap[b]? = w.heap[b]?) : ∃ C1 : Ctx, C.To C1 ∧ C1.I w.heap.size ∧ Inv w0 E I0 C1 st a w2 f := by
 obtain ⟨C1, hC1⟩ : ∃ C1 : Ctx, C1 = ⟨C.μ, C.B, fun b => C.I b ∨ b = w.heap.size, C.F⟩ := ⟨_, rfl⟩
 have t1 : C.To C1 := by rw [hC1]; exact ⟨fun _ h => .inl h, rfl, fun i blk h => ⟨blk, h, fun ho => ⟨ho, Nat.le_refl _, fun _ => ⟨rfl, rfl⟩, .inl rfl⟩⟩⟩
 have fI : ∀ b, C.I b → w2.heap[b]? = w.heap[b]? := fun b hb => hold b (hI.below b hb)
 have fM : ∀ b, 1 ≤ f b → w2.heap[b]? = w.heap[b]? := fun b hb => hold b (hI.mem.lt b hb)
 refine ⟨C1, t1, by rw [hC1]; exact .inr rfl, {
  defers := hI.defers
  raw := by rw [hC1]; exact hI.raw
  first := by rw [hC1]; exact hI.first
  firstX := by rw [hC1]; exact hI.firstX
  below := by
   intro b hb
   rw [hC1] at hb
   rcases hb with hb | rfl
   ·have := hI.below b hb; omega
   ·omega
  old := by
   intro b hb
   rw [hC1] at hb
   rcases hb with hb | rfl
   ·exact hI.old b hb
   ·exact .inr hI.same.size
  keep := by intro b hb; rw [hC1]; exact .inl (hI.keep b hb)
  ext0 := Ctx.ToX.trans hI.firstX.symm hI.ext0 t1.x
  extOn := hI.extOn
  uniq := hI.uniq
  env := (hI.env.frame fI (fun b hb => by simp at hb)).to t1
  mem := (hI.mem.frame fI fM).to t1 (by intro i _ _ _; rw [hC1])
  one := hI.one
  own := by
   intro b hb
   rw [hC1]
   obtain ⟨h2, h3⟩ := hI.own b hb
   exact ⟨fun h => h.elim h2 fun h => by have := hI.mem.lt b hb; omega, h3⟩
  same := hI.same.trans ⟨hos, htape, hout, by omega, fun b hb _ => hold b hb⟩ }⟩
theorem Inv.newW (hI : Inv w0 E I0 C st a w f) {w2 : World} (hos : w2.os = w.os) (htape : w2.tape = w.tape) (hout : w2.output = w.output) (hsz : w.heap.size ≤ w2.heap.size)
  (hold : ∀ b, b < w.heap.size → w2.heap[b]? = w.heap[b]?) : Inv w0 E I0 C st a w2 f := by
 have fI : ∀ b, C.I b → w2.heap[b]? = w.heap[b]? := fun b hb => hold b (hI.below b hb)
 have fM : ∀ b, 1 ≤ f b → w2.heap[b]? = w.heap[b]? := fun b hb => hold b (hI.mem.lt b hb)
 exact {
  defers := hI.defers, raw := hI.raw, first := hI.first, firstX := hI.firstX, old := hI.old, keep := hI.keep, ext0 := hI.ext0, extOn := hI.extOn, uniq := hI.uniq, one := hI.one, own := hI.own
  below := fun b hb => by have := hI.below b hb; omega
  env := hI.env.frame fI (fun b hb => by simp at hb)
  mem := hI.mem.frame fI fM
  same := hI.same.trans ⟨hos, htape, hout, hsz, fun b hb _ => hold b hb⟩ }
theorem alf_ok {oi oj : Oper} (hT : TabOk P T) (hI : Inv w0 E I0 C st a w f) (hR : RunsN T by_ ann Φ m (alfO T st K oi.op oi.guard oi.dst oj.op oj.guard oj.dst) r X) :
  ∃ a1 w1 w2 st1 st2 C2 v, (execOp a.eval oi).run P w = .ok (.value v) w1 ∧ a1 = a.put oi.dst v ∧ Inv w0 E I0 C st1 a1 w1 f ∧ (execOp a1.eval oj).run P w1 = .ok .skip w2 ∧ a1.put oj.dst undef = a1 ∧
   Inv w0 E I0 C2 st2 a1 w2 f ∧ RunsN T by_ ann Φ m (K st2) r X ∧ oi.guard = none ∧ oj.guard = none := by
 unfold alfO at hR
 split at hR
 case h_2 => exact hR.bad.elim
 rename_i t d t' d' x hop hg hd hop' hg' hd'
 unfold alfV at hR
 split at hR
 case isFalse => exact hR.bad.elim
 rename_i hc
 obtain ⟨rfl, rfl, ht, hlen, hlt, h1, hp⟩ := hc
 obtain ⟨z, hz, hz1, _⟩ := hT.run_zero ht w
 obtain ⟨i0, d0, z0', hrow⟩ := hT.get ht
 have hzl : z.cells.size = (T.row t).size := by
  have := hrow.len
  rw [← hz1] at this
  simpa using this
 have hrun : (execOp a.eval oi).run P w = .ok (.value (.pointer (some ⟨w.heap.size, 0, none⟩))) (w.alloc (.cells z.cells t)) := by simp [execOp, hop, Instr.alloc, newVar, newRow, hz]
 have hold1 : ∀ b, b < w.heap.size → (w.alloc (.cells z.cells t)).heap[b]? = w.heap[b]? := fun b hb => heap_alloc_old w _ b hb
 have hI1 : Inv w0 E I0 C (st.dst (some d) .any) (a.put oi.dst (.pointer (some ⟨w.heap.size, 0, none⟩))) (w.alloc (.cells z.cells t)) f := by
  rw [hd]
  exact (hI.newW (w2 := w.alloc (.cells z.cells t)) rfl rfl rfl (by simp) hold1).dst (some d) (.any z0)
 obtain ⟨a1, ha1⟩ : ∃ a1, a1 = a.put oi.dst (.pointer (some ⟨w.heap.size, 0, none⟩)) := ⟨_, rfl⟩
 rw [← ha1] at hI1
 have hx := ev_rep hI1.env x
 obtain ⟨hrep, hones⟩ := rep_cells h1 hx
 have hvl : (a1.eval x).cells.toList.length = (T.row t).size := by rw [← hrep.length]; exact hlen
 have hvl' : (a1.eval x).cells.size = (T.row t).size := by simpa using hvl
 have hpe : a1.eval (.tmp d) = .pointer (some ⟨w.heap.size, 0, none⟩) := by
  have hlt' : d < a.tmps.size := by
   have := hI.env.length
   simp at this
   omega
  rw [ha1, hd]
  simp [Act.eval, Act.put, Array.getD_eq_getD_getElem?, hlt']
 have hcell := heap_alloc_new w (.cells z.cells t)
 have hst := run_storeCells_free (P := P) w.heap.size 0 t (0, 0) (a1.eval x).cells.toList 0 z.cells (w.alloc (.cells z.cells t)) hcell (by intro o _ h; omega) (by rw [hvl]; omega) hones
 have hrun2 : (execOp a1.eval oj).run P (w.alloc (.cells z.cells t)) = .ok .skip ((w.alloc (.cells z.cells t)).setRow w.heap.size (a1.eval x).cells) := by
  have e : (z.cells.toList.take (0 + 0) ++ (a1.eval x).cells.toList ++ z.cells.toList.drop (0 + 0 + (a1.eval x).cells.toList.length)).toArray = (a1.eval x).cells := by
   rw [List.drop_eq_nil_of_le (by rw [hvl]; simp; omega)]
   simp
  rw [e] at hst
  simp only [execOp, hop', Instr.storeAt, hpe, Instr.sureAddr, Sem.run_bind, Sem.run_pure, Result.andThen_ok, storeVar, hT.run_size ht, hvl', ne_eq, not_true_eq_false, if_false, Sem.run_ite, hst]
 have hnew := setRow_heap (w.alloc (.cells z.cells t)) w.heap.size z.cells (a1.eval x).cells t (0, 0) hcell
 have hold2 : ∀ b, b < w.heap.size → ((w.alloc (.cells z.cells t)).setRow w.heap.size (a1.eval x).cells).heap[b]? = w.heap[b]? := by
  intro b hb
  rw [setRow_other _ _ _ _ (by omega)]
  exact hold1 b hb
 have hIa : Inv w0 E I0 C (st.dst (some d) .any) a1 w f := by
  rw [ha1, hd]
  exact hI.dst (some d) (.any z0)
 obtain ⟨C2, t2, hC2, hI2⟩ := hIa.newI (w2 := (w.alloc (.cells z.cells t)).setRow w.heap.size (a1.eval x).cells) rfl rfl rfl (heap_lt hnew) hold2
 refine ⟨a1, _, _, _, (st.dst (some d) .any).dst (some d) (.ptr [ev (st.dst (some d) .any).env x] 0 0), C2, _, hrun, ha1, hI1, hrun2, by rw [hd']; rfl, ?_, ?_, hg, hg'⟩
 ·have hb := ((plain_bare (rep_cells h1 (ev_rep hIa.env x)).1 hp).frame (w' := (w.alloc (.cells z.cells t)).setRow w.heap.size (a1.eval x).cells) (fun b hb => hold2 b (hI.below b hb)) (fun b hb => by simp at hb)).to t2.bare
  have := RepL.ptr (C := C2) (w := (w.alloc (.cells z.cells t)).setRow w.heap.size (a1.eval x).cells) (es := [ev (st.dst (some d) .any).env x]) (i := 0) (o := 0) (a := ⟨w.heap.size, 0, none⟩) (k := (ev (st.dst (some d) .any).env x).cells.length) (c := (a1.eval x).cells) (e := t) (fz := (0, 0)) (r := []) (xs := []) (f := fun _ => 0) (f1 := fun _ => 0)
   hnew rfl (by intro y hy; simp at hy; rw [hy]) (by simp; omega) hC2 (by simp)
   (by intro u hu; exact hones u (List.mem_of_mem_drop (List.mem_of_mem_take hu))) (fun _ => rfl)
   (by simp only [flat, List.flatMap_cons, List.flatMap_nil, List.append_nil, List.length_cons, List.length_nil, Nat.zero_add, Nat.one_mul, List.drop_zero]; rw [List.take_of_length_le (by omega)]; exact hb) z0
  have h3 := hI2.dst (some d) (x := .ptr [ev (st.dst (some d) .any).env x] 0 0) (v := .pointer (some ⟨w.heap.size, 0, none⟩)) (by show RepL _ _ [_] [_] _; simpa using this)
  have e : a1.put (some d) (.pointer (some ⟨w.heap.size, 0, none⟩)) = a1 := by
   rw [ha1, hd]
   simp [Act.put]
  rw [e] at h3
  exact h3
 ·simpa [St.dst] using hR
end
end Go.AM
