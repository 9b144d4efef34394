/- What an operation does to the slots, told over data: the function 'vres', and the moves between states. -/
import Derived.Test.YtalfgfpgenlokaaVamA
namespace Go.Vam
open Go Go.RowKit

inductive TK where
 | int (k : IntKind)
 | bool
 | sl (e : TypeId)
 | st (zs : List D)
 | ss (e : TypeId) (m : Nat)
 | fn
 | ar (zs : List D)
 | other

def D.zero : D → Bool
 | .int _ _ => true
 | .bool _ => true
 | .list [] => true
 | _ => false

def zv : D → Value
 | .int k n => .int k n
 | .bool b => .bool b
 | _ => .slice none 0 0

def InfoOk (P : Program) (t : TypeId) (zs : List D) : Prop :=
 ∃ i z,P.info? t = some i ∧ i.size = zs.length ∧ i.bytes ≤ 64 * zs.length ∧ i.zero = some z ∧ z.cells = (zs.map zv).toArray ∧ zs.all D.zero = true

def flat : TypeDesc → Bool
 | .struct _ | .array _ _ => false
 | _ => true

def TyOk1 (P : Program) (t : TypeId) : TK → Prop
 | .int k => InfoOk P t [.int k 0] ∧ P.underlying t = some (.int k)
 | .bool => InfoOk P t [.bool false] ∧ P.underlying t = some .bool
 | .sl e => InfoOk P t [.list []] ∧ P.underlying t = some (.slice e) ∧ ∃ i,P.info? e = some i ∧ i.size = 1
 | .st zs => InfoOk P t zs ∧ ∃ fs,P.underlying t = some (.struct fs) ∧ fs.size = zs.length ∧ ∀ i (f : Field),fs[i]? = some f → f.offset = i ∧ (∃ fi,P.info? f.type = some fi ∧ fi.size = 1) ∧ ∃ fd,P.underlying f.type = some fd ∧ flat fd = true
 | .ss e m => P.underlying t = some (.slice e) ∧ ∃ i,P.info? e = some i ∧ i.size = m
 | .fn => (∃ i z,P.info? t = some i ∧ i.size = 1 ∧ i.zero = some z ∧ z.cells.size = 1) ∧ ∃ d,P.underlying t = some d ∧ flat d = true
 | .ar zs => InfoOk P t zs ∧ ∃ n E,P.underlying t = some (.array n E) ∧ ∃ i,P.info? E = some i ∧ i.size = 1
 | .other => True

def TyOk (P : Program) (τ : TypeId → TK) : Prop := ∀ t,TyOk1 P t (τ t)

def TK.zd : TK → Option D
 | .int k => some (.int k 0)
 | .bool => some (.bool false)
 | .sl _ => some (.list [])
 | _ => none

inductive Ret where
 | sc (d : D)
 | own (u : Bool) (d : D)
 | mut (d : D)
 | shr (d : D)
 | spoil
 | ptr (xs : List D)
 | tup (ds : List D)

def nilT : Nat := 999999

def constVV : Value → VV
 | .int k n => .val (.int k n)
 | .bool b => .val (.bool b)
 | .slice none 0 0 => .ref nilT [] true (.list [])
 | _ => .dead

def ev (σ : Frm) : Operand → VV
 | .tmp t => σ t
 | .const v => constVV v
 | .func f => .val (.fn f [])
 | .global _ => .dead

def VV.dat : VV → Option D
 | .val d => some d
 | .ref _ _ _ d => some d
 | .bor _ d => some d
 | _ => none

def D.one : D → Bool
 | .agg _ => false
 | .gone => false
 | _ => true

def bin (op : BinOp) : D → D → Option D
 | .int k a,.int k' b =>
  match op with
  | .shl => if b < 0 then none else some (.int k (k.wrap (a * 2 ^ (min b.toNat k.bits))))
  | .shr => if b < 0 then none else some (.int k (a.fdiv (2 ^ (min b.toNat k.bits))))
  | .add => if k = k' then some (.int k (k.wrap (a + b))) else none
  | .sub => if k = k' then some (.int k (k.wrap (a - b))) else none
  | .mul => if k = k' then some (.int k (k.wrap (a * b))) else none
  | .quo => if k = k' ∧ b ≠ 0 then some (.int k (k.wrap (a.tdiv b))) else none
  | .rem => if k = k' ∧ b ≠ 0 then some (.int k (a.tmod b)) else none
  | .eql => if k = k' then some (.bool (a == b)) else none
  | .neq => if k = k' then some (.bool (a != b)) else none
  | .lss => if k = k' then some (.bool (decide (a < b))) else none
  | .leq => if k = k' then some (.bool (decide (a ≤ b))) else none
  | .gtr => if k = k' then some (.bool (decide (a > b))) else none
  | .geq => if k = k' then some (.bool (decide (a ≥ b))) else none
  | .xor => if k = k' then some (.int k (k.wrap (BitVec.ofInt k.bits a ^^^ BitVec.ofInt k.bits b).toNat)) else none
  | .and => if k = k' then some (.int k (k.wrap (BitVec.ofInt k.bits a &&& BitVec.ofInt k.bits b).toNat)) else none
  | .or => if k = k' then some (.int k (k.wrap (BitVec.ofInt k.bits a ||| BitVec.ofInt k.bits b).toNat)) else none
  | _ => none
 | _,_ => none

def binB (op : BinOp) (t : TK) : D → D → Option D
 | .bool a,.bool b =>
  match op,t with
  | .eql,.bool => some (.bool (a == b))
  | .neq,.bool => some (.bool (a != b))
  | _,_ => none
 | _,_ => none

def binop (op : BinOp) (t : TK) (x y : D) : Option D :=
 match bin op x y with
 | some d => some d
 | none => binB op t x y

def D.u64 : D → Bool
 | .int .u64 _ => true
 | _ => false

def una (op : UnOp) : D → Option D
 | .int k a => match op with
  | .neg => some (.int k (k.wrap (0 - a)))
  | _ => none
 | .bool a => match op with
  | .not => some (.bool (!a))
  | _ => none
 | _ => none

def cellVV (t : Nat) (p : List Nat) (i : Nat) (u : Bool) (d : D) : VV :=
 match d.sc,u with
 | true,_ => .val d
 | false,true => .ref t (p ++ [i]) true d
 | false,false => .val d

def borVV (t : Nat) (d : D) : VV :=
 match d.sc with
 | true => .val d
 | false => .bor t d

def placeVV (x : VV) (i : Nat) : Option VV :=
 match x with
 | .val (.list xs) => if i < xs.length then some (.adrv (xs.getD i default)) else none
 | .ref t p u (.list xs) => if i < xs.length then some (.adr t p i u (xs.getD i default)) else none
 | .bor t (.list xs) => if i < xs.length then some (.adrb t (xs.getD i default)) else none
 | _ => none

def boxVV (x : VV) (i : Nat) : Option VV :=
 match x with
 | .val (.ptr xs) => if i < xs.length then some (.adrv (xs.getD i default)) else none
 | .ref t p u (.ptr xs) => if i < xs.length then some (.adr t p i u (xs.getD i default)) else none
 | .bor t (.ptr xs) => if i < xs.length then some (.adrb t (xs.getD i default)) else none
 | .al t xs => if i < xs.length then some (.aal t i (xs.getD i default)) else none
 | _ => none

def loadVV : VV → Option VV
 | .adr t p i u d => some (cellVV t p i u d)
 | .aal t i d => some (cellVV t [] i true d)
 | .adrv d => some (.val d)
 | .adrb t d => some (borVV t d)
 | .val (.ptr [d]) => some (.val d)
 | .ref t p u (.ptr [d]) => some (cellVV t p 0 u d)
 | .bor t (.ptr [d]) => some (borVV t d)
 | .cel _ f cs => some (.clo f cs)
 | _ => none

def loadSt (n : Nat) : VV → Option VV
 | .val (.ptr xs) => if xs.length = n then some (.val (.agg xs)) else none
 | .ref t p true (.ptr xs) => if xs.length = n then some (.ref t p true (.agg xs)) else none
 | .ref t _ false (.ptr xs) => if xs.length = n then some (.bor t (.agg xs)) else none
 | .bor t (.ptr xs) => if xs.length = n then some (.bor t (.agg xs)) else none
 | _ => none

def fieldVV (i : Nat) : VV → Option VV
 | .val (.agg xs) => if i < xs.length then some (.val (xs.getD i default)) else none
 | .ref t p true (.agg xs) => if i < xs.length then some (cellVV t p i true (xs.getD i default)) else none
 | .bor t (.agg xs) => if i < xs.length then some (borVV t (xs.getD i default)) else none
 | _ => none

def sliceVV (lo hi : Int) : VV → Option VV
 | .val (.list xs) => if 0 ≤ lo ∧ lo ≤ hi ∧ hi ≤ xs.length then some (.val (.list ((xs.take hi.toNat).drop lo.toNat))) else none
 | .ref t p u (.list xs) => if 0 ≤ lo ∧ lo ≤ hi ∧ hi ≤ xs.length then (if lo = 0 then some (.ref t p u (.list (xs.take hi.toNat))) else some (.bor t (.list ((xs.take hi.toNat).drop lo.toNat)))) else none
 | .bor t (.list xs) => if 0 ≤ lo ∧ lo ≤ hi ∧ hi ≤ xs.length then some (.bor t (.list ((xs.take hi.toNat).drop lo.toNat))) else none
 | _ => none

def lenVV : VV → Option Nat
 | .val (.list xs) => some xs.length
 | .ref _ _ _ (.list xs) => some xs.length
 | .bor _ (.list xs) => some xs.length
 | .val (.recs _ xs) => some xs.length
 | _ => none

def placeS (m : Nat) (x : VV) (i : Nat) : Option VV :=
 match x with
 | .val (.recs k xs) => if i < xs.length ∧ k = m then some (.adrs m (xs.getD i default)) else none
 | _ => none
def loadR (n : Nat) : VV → Option VV
 | .adrs m (.agg xs) => if m = n ∧ xs.length = n then some (.val (.agg xs)) else none
 | _ => none
def boxR (i : Nat) : VV → Option VV
 | .adrs m (.agg xs) => if i < xs.length ∧ xs.length = m then some (.adrv (xs.getD i default)) else none
 | _ => none
def isRec (m : Nat) : D → Bool
 | .agg ys => decide (ys.length = m)
 | _ => false
def orO (a b : Option VV) : Option VV := match a with
 | some x => some x
 | none => b

def VV.int? : VV → Option Int
 | .val (.int _ n) => some n
 | _ => none

def data (σ : Frm) : List Operand → Option (List D)
 | [] => some []
 | x :: r => match (ev σ x).dat,data σ r with
  | some d,some ds => some (d :: ds)
  | _,_ => none

def vals (σ : Frm) : List Operand → Option (List D)
 | [] => some []
 | x :: r => match ev σ x,vals σ r with
  | .val d,some ds => some (d :: ds)
  | _,_ => none

def setAll (zs : List D) : List (Nat × D) → List D
 | [] => zs
 | (i,d) :: r => setAll (zs.set i d) r

def VV.toks : VV → List Nat
 | .ref t _ _ _ => [t]
 | .bor t _ => [t]
 | _ => []

def toks (σ : Frm) (xs : List Operand) : List Nat := xs.flatMap fun x => (ev σ x).toks

def retVV (d : Nat) (ts : List Nat) : List Ret → Option (List Nat × VV)
 | [.sc x] => some ([],.val x)
 | [.own true x] => some ([d],.ref d [] true x)
 | [.own false x] => some (d :: ts,.ref d [] false x)
 | [.sc x,.sc y] => some ([],.tup (.val x) (.val y))
 | [.own true x,.sc y] => some ([d],.tup (.ref d [] true x) (.val y))
 | [.own false x,.sc y] => some (d :: ts,.tup (.ref d [] false x) (.val y))
 | [.shr x] => some (ts,.val x)
 | [.shr x,.sc y] => some (ts,.tup (.val x) (.val y))
 | [.tup ds] => some (ts,.tups ds)
 | _ => none

def nilVV (x : VV) : Option VV := match x with
 | .val (.ptr _) => some x
 | .ref _ _ _ (.ptr _) => some x
 | .bor _ (.ptr _) => some x
 | _ => none

def tupVV (i : Nat) : VV → Option VV
 | .tup a b => match i with
  | 0 => some a
  | 1 => some b
  | _ => none
 | .tups ds => if i < ds.length then some (.val (ds.getD i default)) else none
 | _ => none

abbrev Orc := Nat → FuncId → List D → Option (List Ret)

def imin (a b : Int) : Int := if b < a then b else a
def imax (a b : Int) : Int := if b > a then b else a
def mmi : Bool → Int → Int → Int
 | true => imax
 | false => imin
def vmm (mx : Bool) (x y : VV) : Option (List Nat × VV) := match x,y with
 | .val (.int k a),.val (.int k' b) => if k = k' then some ([],.val (.int k (mmi mx a b))) else none
 | _,_ => none

def partB (zs : List D) (ix : List Nat) (ds : List D) : Bool := ds.all D.sc && !((setAll zs (ix.zip ds)).all D.sc)

def vres (τ : TypeId → TK) (Φ : Orc) (d : Nat) (op : Op) (σ : Frm) : Option (List Nat × VV) :=
 match op with
 | .move x => some ([],ev σ x)
 | .assign x => match ev σ x with
  | .ref _ [] _ _ => none
  | y => some ([],y)
 | .pick c a b => match ev σ c with
  | .val (.bool true) => some ([],ev σ a)
  | .val (.bool false) => some ([],ev σ b)
  | _ => none
 | .binOp op T x y _ => match ev σ x,ev σ y with
  | .val a,.val b => (binop op (τ T) a b).map fun r => ([],.val r)
  | _,_ => none
 | .unOp op _ x => match ev σ x with
  | .val a => (una op a).map fun r => ([],.val r)
  | _ => none
 | .convert s t x => match τ s,τ t,ev σ x with
  | .int _,.int k,.val (.int _ n) => some ([],.val (.int k (k.wrap n)))
  | _,_,_ => none
 | .indexAddr T x i => match τ T,(ev σ i).int? with
  | .sl _,some n => if 0 ≤ n then (placeVV (ev σ x) n.toNat).map fun r => ([],r) else none
  | .ss _ m,some n => if 0 ≤ n then (placeS m (ev σ x) n.toNat).map fun r => ([],r) else none
  | _,_ => none
 | .load T a => match τ T with
  | .int _ | .bool | .sl _ | .fn => (loadVV (ev σ a)).map fun r => ([],r)
  | .st zs => (orO (loadSt zs.length (ev σ a)) (loadR zs.length (ev σ a))).map fun r => ([],r)
  | .ss _ _ => none
  | .ar _ => none
  | .other => none
 | .fieldAddr T x f => match τ T with
  | .st zs => if f < zs.length then (orO (boxVV (ev σ x) f) (boxR f (ev σ x))).map fun r => ([],r) else none
  | _ => none
 | .field T x f => match τ T with
  | .st zs => if f < zs.length then (fieldVV f (ev σ x)).map fun r => ([],r) else none
  | _ => none
 | .slice T x lo hi none => match τ T,(match lo with | none => some 0 | some l => (ev σ l).int?),lenVV (ev σ x) with
  | .sl _,some l,some n => match (match hi with | none => some (n : Int) | some h => (ev σ h).int?) with
   | some h => (sliceVV l h (ev σ x)).map fun r => ([],r)
   | none => none
  | _,_,_ => none
 | .extract x i => (tupVV i (ev σ x)).map fun r => ([],r)
 | .nilCheck x => (nilVV (ev σ x)).map fun r => ([],r)
 | .makeFunc (.func f) first caps => if first.size = 0 then (vals σ caps.toList).map fun ds => ([],.val (.fn f ds)) else none
 | .makeSlice T l c => match τ T,(ev σ l).int?,(ev σ c).int? with
  | .sl e,some n,some m => if n = m ∧ 0 ≤ n ∧ n ≤ 1099511627776 then (τ e).zd.map fun z => ([d],.ref d [] true (.list (List.replicate n.toNat z))) else none
  | _,_,_ => none
 | .buildSlice T n parts => match τ T with
  | .sl e => if parts.toList.map (·.1) = List.range n ∧ n ≤ 1000 ∧ (τ e).zd.isSome then
    match vals σ (parts.toList.map (·.2)) with
    | some ds => if ds.all D.one then some ([d],.ref d [] (ds.all D.sc) (.list ds)) else none
    | none => none
   else none
  | .ss e m => match τ e with
   | .st zs => if parts.toList.map (·.1) = List.range n ∧ n ≤ 1000 ∧ zs.length = m ∧ 0 < m ∧ m ≤ 8 then
     match vals σ (parts.toList.map (·.2)) with
     | some ds => if ds.all (isRec m) then some ([],.val (.recs m ds)) else none
     | none => none
    else none
   | _ => none
  | _ => none
 | .build T parts => match τ T with
  | .st zs => match vals σ (parts.toList.map (·.2)) with
   | some ds => if 0 < parts.size ∧ ds.all D.one ∧ (parts.toList.map (·.1)).all (fun i => decide (i < zs.length)) ∧ partB zs (parts.toList.map (·.1)) ds = false then some ([],.val (.agg (setAll zs ((parts.toList.map (·.1)).zip ds)))) else none
   | none => none
  | .ar zs => match vals σ (parts.toList.map (·.2)) with
   | some ds => if 0 < parts.size ∧ ds.all D.one ∧ (parts.toList.map (·.1)).all (fun i => decide (i < zs.length)) then some ([],.val (.agg (setAll zs ((parts.toList.map (·.1)).zip ds)))) else none
   | none => none
  | _ => none
 | .box T x => match τ T,ev σ x with
  | .st zs,.val (.agg xs) => if zs.any D.u64 then none else some ([],.val (.ptr xs))
  | .st zs,.ref 0 [] true (.agg xs) => if zs.any D.u64 then none else some ([],.al 0 xs)
  | .st _,_ => none
  | .ss _ _,_ => none
  | .fn,_ => none
  | .ar _,_ => none
  | .other,_ => none
  | _,.val x => if x.one then some ([],.val (.ptr [x])) else none
  | _,_ => none
 | .alloc T => match τ T with
  | .int k => some ([d],.ref d [] true (.ptr [.int k 0]))
  | .bool => some ([d],.ref d [] true (.ptr [.bool false]))
  | .sl _ => some ([d],.ref d [] true (.ptr [.list []]))
  | .st zs => some ([d],.ref d [] true (.ptr zs))
  | .fn => some ([d],.ref d [] true (.ptr [.gone]))
  | .ss _ _ => none
  | .ar _ => none
  | .other => none
 | .call c => match c.callee with
  | .builtin .len => match c.args.toList,c.argTypes.toList with
   | [x],[T] => match τ T with
    | .sl _ => (lenVV (ev σ x)).map fun (n : Nat) => ([],VV.val (.int .i64 (n : Int)))
    | .ss _ _ => (lenVV (ev σ x)).map fun (n : Nat) => ([],VV.val (.int .i64 (n : Int)))
    | _ => none
   | _,_ => none
  | .builtin .min => match c.args.toList with
   | [x,y] => vmm false (ev σ x) (ev σ y)
   | _ => none
  | .builtin .max => match c.args.toList with
   | [x,y] => vmm true (ev σ x) (ev σ y)
   | _ => none
  | .value f => match ev σ f,data σ c.args.toList with
   | .val (.fn g caps),some ds => match Φ d g (ds ++ caps) with
    | some rs => retVV d (toks σ c.args.toList) rs
    | none => none
   | _,_ => none
  | _ => none
 | _ => none


def RetOk (R : Nat → Prop) (w : World) (O : Own) : List Ret → Value → Prop
 | [.sc x],v => Rd w (fun _ => False) v x
 | [.own u x],v => Tree R w O 0 [] u v x
 | [.sc x,.sc y],v => ∃ p q,v = .tuple #[p,q] ∧ Rd w (fun _ => False) p x ∧ Rd w (fun _ => False) q y
 | [.own u x,.sc y],v => ∃ p q,v = .tuple #[p,q] ∧ Tree R w O 0 [] u p x ∧ Rd w (fun _ => False) q y
 | [.shr x],v => (∀ g,O g = none) ∧ Rd w (fun g => R g ∧ g < w.heap.size) v x
 | [.tup ds],v => (∀ g,O g = none) ∧ ∃ vs : Array Value,v = .tuple vs ∧ vs.size = ds.length ∧ ∀ i (h : i < ds.length),∃ u,vs[i]? = some u ∧ Rd w (fun g => R g ∧ g < w.heap.size) u ds[i]
 | [.shr x,.sc y],v => (∀ g,O g = none) ∧ ∃ p q,v = .tuple #[p,q] ∧ Rd w (fun g => R g ∧ g < w.heap.size) p x ∧ Rd w (fun _ => False) q y
 | _,_ => False

def VCall (P : Program) (f : FuncId) (ds : List D) (rs : List Ret) : Prop :=
 (∀ args w,(callFunc f args).run P w = .ok (.enter f args) w) ∧
 ∀ (w : World) (A : Nat → Prop) (vs : Array Value),(∀ g,A g → g < w.heap.size) → vs.size = ds.length →
  (∀ i (h : i < ds.length),∃ v,vs[i]? = some v ∧ Rd w A v ds[i]) →
  Calls P f vs w fun e w' => ∃ (v : Value) (O : Own),e = .returned v ∧ Below w.heap.size w w' ∧ (∀ g y,O g = some y → w.heap.size ≤ g ∧ g < w'.heap.size) ∧
   (∀ g g' y,O g = some y → O g' = some y → g = g') ∧ RetOk (fun g => A g ∨ w.heap.size ≤ g) w' O rs v

end Go.Vam
