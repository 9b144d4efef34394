/- The values that a call reads and makes, told as data; what a world must hold for it. -/
import Derived.WalkKit
namespace Go.Vam
open Go Go.RowKit

inductive D where
 | int (k : IntKind) (n : Int)
 | bool (b : Bool)
 | list (xs : List D)
 | agg (xs : List D)
 | ptr (xs : List D)
 | fn (f : FuncId) (caps : List D)
 | gone
 | recs (m : Nat) (xs : List D)
 deriving Inhabited

def D.sc : D → Bool
 | .int _ _ => true
 | .bool _ => true
 | _ => false

inductive Rd (w : World) (S : Nat → Prop) : Value → D → Prop
 | int (k : IntKind) (n : Int) : Rd w S (.int k n) (.int k n)
 | bool (b : Bool) : Rd w S (.bool b) (.bool b)
 | empty (a : Option Addr) (cap : Nat) : Rd w S (.slice a 0 cap) (.list [])
 | list (g o cap : Nat) (cur : Array Value) (E : TypeId) (fr : Nat × Nat) (xs : List D) (vs : Nat → Value)
   (hS : S g) (hg : w.heap[g]? = some (.cells cur E fr)) (hl : xs.length ≤ cap)
   (hv : ∀ i,i < xs.length → cur[o + i]? = some (vs i))
   (hr : ∀ i (h : i < xs.length),Rd w S (vs i) xs[i]) :
   Rd w S (.slice (some ⟨g,o,none⟩) xs.length cap) (.list xs)
 | agg (cs : Array Value) (xs : List D) (vs : Nat → Value) (hl : cs.size = xs.length)
   (hv : ∀ i,i < xs.length → cs[i]? = some (vs i))
   (hr : ∀ i (h : i < xs.length),Rd w S (vs i) xs[i]) : Rd w S (.agg cs) (.agg xs)
 | ptr (g : Nat) (cur : Array Value) (E : TypeId) (fr : Nat × Nat) (xs : List D) (vs : Nat → Value)
   (hS : S g) (hg : w.heap[g]? = some (.cells cur E fr)) (hl : cur.size = xs.length)
   (hv : ∀ i,i < xs.length → cur[i]? = some (vs i))
   (hr : ∀ i (h : i < xs.length),Rd w S (vs i) xs[i]) : Rd w S (.pointer (some ⟨g,0,none⟩)) (.ptr xs)
 | fn (f : FuncId) (cs : Array Value) (xs : List D) (vs : Nat → Value) (hl : cs.size = xs.length)
   (hv : ∀ i,i < xs.length → cs[i]? = some (vs i))
   (hr : ∀ i (h : i < xs.length),Rd w S (vs i) xs[i]) : Rd w S (.func (.func f) #[] cs) (.fn f xs)
 | gone (v : Value) : Rd w S v .gone
 | recs (g o cap : Nat) (cur : Array Value) (E : TypeId) (fr : Nat × Nat) (m : Nat) (xs : List D)
   (hS : S g) (hg : w.heap[g]? = some (.cells cur E fr)) (hl : xs.length ≤ cap)
   (hb : ∀ i,i < xs.length → o + i * m + m ≤ cur.size)
   (hr : ∀ i (h : i < xs.length),Rd w S (.agg (cur.extract (o + i * m) (o + i * m + m))) xs[i]) :
   Rd w S (.slice (some ⟨g,o,none⟩) xs.length cap) (.recs m xs)

theorem Rd.keep {w w' : World} {S S' : Nat → Prop} (hS : ∀ g,S g → S' g) (hw : ∀ g,S g → w'.heap[g]? = w.heap[g]?) {v : Value} {d : D} (h : Rd w S v d) :
  Rd w' S' v d := by
 induction h with
 | int k n => exact .int k n
 | bool b => exact .bool b
 | empty a cap => exact .empty a cap
 | list g o cap cur E fr xs vs h1 h2 h3 h4 _ ih => exact .list g o cap cur E fr xs vs (hS _ h1) (by rw [hw _ h1]; exact h2) h3 h4 ih
 | agg cs xs vs h1 h2 _ ih => exact .agg cs xs vs h1 h2 ih
 | ptr g cur E fr xs vs h1 h2 h3 h4 _ ih => exact .ptr g cur E fr xs vs (hS _ h1) (by rw [hw _ h1]; exact h2) h3 h4 ih
 | fn f cs xs vs h1 h2 _ ih => exact .fn f cs xs vs h1 h2 ih
 | gone v => exact .gone v
 | recs g o cap cur E fr m xs h1 h2 h3 h4 _ ih => exact .recs g o cap cur E fr m xs (hS _ h1) (by rw [hw _ h1]; exact h2) h3 h4 ih

abbrev Own := Nat → Option (Nat × List Nat)

inductive OwnU (w : World) (O : Own) (t : Nat) : List Nat → Value → D → Prop
 | int (p : List Nat) (k : IntKind) (n : Int) : OwnU w O t p (.int k n) (.int k n)
 | bool (p : List Nat) (b : Bool) : OwnU w O t p (.bool b) (.bool b)
 | nil (p : List Nat) : OwnU w O t p (.slice none 0 0) (.list [])
 | list (p : List Nat) (g cap : Nat) (cur : Array Value) (E : TypeId) (xs : List D) (vs : Nat → Value)
   (hO : O g = some (t,p)) (hg : w.heap[g]? = some (.cells cur E (0,0))) (hl : xs.length ≤ cap) (hm : cap ≤ maxLen) (hc : cur.size = cap)
   (hv : ∀ i,i < xs.length → cur[i]? = some (vs i))
   (hr : ∀ i (h : i < xs.length),OwnU w O t (p ++ [i]) (vs i) xs[i]) :
   OwnU w O t p (.slice (some ⟨g,0,none⟩) xs.length cap) (.list xs)
 | agg (p : List Nat) (cs : Array Value) (xs : List D) (vs : Nat → Value) (hl : cs.size = xs.length)
   (hv : ∀ i,i < xs.length → cs[i]? = some (vs i))
   (hr : ∀ i (h : i < xs.length),OwnU w O t (p ++ [i]) (vs i) xs[i]) : OwnU w O t p (.agg cs) (.agg xs)
 | ptr (p : List Nat) (g : Nat) (cur : Array Value) (E : TypeId) (xs : List D) (vs : Nat → Value)
   (hO : O g = some (t,p)) (hg : w.heap[g]? = some (.cells cur E (0,0))) (hl : cur.size = xs.length)
   (hv : ∀ i,i < xs.length → cur[i]? = some (vs i))
   (hr : ∀ i (h : i < xs.length),OwnU w O t (p ++ [i]) (vs i) xs[i]) : OwnU w O t p (.pointer (some ⟨g,0,none⟩)) (.ptr xs)
 | gone (p : List Nat) (v : Value) : OwnU w O t p v .gone

theorem OwnU.keep {w w' : World} {O O' : Own} {t t' : Nat} {p : List Nat} {v : Value} {d : D} (h : OwnU w O t p v d) :
  ∀ (p' : List Nat),(∀ g q,O g = some (t,p ++ q) → O' g = some (t',p' ++ q) ∧ w'.heap[g]? = w.heap[g]?) → OwnU w' O' t' p' v d := by
 induction h with
 | int p k n => intro p' _; exact .int p' k n
 | bool p b => intro p' _; exact .bool p' b
 | nil p => intro p' _; exact .nil p'
 | list p g cap cur E xs vs h1 h2 h3 h4 h5 h6 _ ih =>
  intro p' H
  have h0 := H g [] (by simpa using h1)
  refine .list p' g cap cur E xs vs (by simpa using h0.1) (by rw [h0.2]; exact h2) h3 h4 h5 h6 fun i hi => ih i hi _ fun g' q hq => ?_
  have := H g' (i :: q) (by simpa using hq)
  simpa using this
 | agg p cs xs vs h1 h2 _ ih =>
  intro p' H
  refine .agg p' cs xs vs h1 h2 fun i hi => ih i hi _ fun g' q hq => ?_
  have := H g' (i :: q) (by simpa using hq)
  simpa using this
 | ptr p g cur E xs vs h1 h2 h3 h4 _ ih =>
  intro p' H
  have h0 := H g [] (by simpa using h1)
  refine .ptr p' g cur E xs vs (by simpa using h0.1) (by rw [h0.2]; exact h2) h3 h4 fun i hi => ih i hi _ fun g' q hq => ?_
  have := H g' (i :: q) (by simpa using hq)
  simpa using this
 | gone p v => intro p' _; exact .gone p' v

theorem OwnU.rd {w : World} {O : Own} {t : Nat} {p : List Nat} {v : Value} {d : D} (h : OwnU w O t p v d) {S : Nat → Prop}
  (hS : ∀ g q,O g = some (t,p ++ q) → S g) : Rd w S v d := by
 induction h with
 | int p k n => exact .int k n
 | bool p b => exact .bool b
 | nil p => exact .empty none 0
 | list p g cap cur E xs vs h1 h2 h3 h4 h5 h6 _ ih =>
  refine .list g 0 cap cur E (0,0) xs vs (hS g [] (by simpa using h1)) h2 h3 (fun i hi => by rw [Nat.zero_add]; exact h6 i hi) fun i hi => ih i hi fun g' q hq => hS g' (i :: q) (by simpa using hq)
 | agg p cs xs vs h1 h2 _ ih => exact .agg cs xs vs h1 h2 fun i hi => ih i hi fun g' q hq => hS g' (i :: q) (by simpa using hq)
 | ptr p g cur E xs vs h1 h2 h3 h4 _ ih =>
  exact .ptr g cur E (0,0) xs vs (hS g [] (by simpa using h1)) h2 h3 h4 fun i hi => ih i hi fun g' q hq => hS g' (i :: q) (by simpa using hq)
 | gone p v => exact .gone v

def Fro (R : Nat → Prop) (O : Own) (w : World) (g : Nat) : Prop := O g = none ∧ g < w.heap.size ∧ R g

inductive OwnF (R : Nat → Prop) (w : World) (O : Own) (t : Nat) (p : List Nat) : Value → D → Prop
 | nil : OwnF R w O t p (.slice none 0 0) (.list [])
 | list (g cap : Nat) (cur : Array Value) (E : TypeId) (xs : List D) (vs : Nat → Value)
   (hO : O g = some (t,p)) (hg : w.heap[g]? = some (.cells cur E (0,0))) (hl : xs.length ≤ cap) (hm : cap ≤ maxLen) (hc : cur.size = cap)
   (hv : ∀ i,i < xs.length → cur[i]? = some (vs i))
   (hr : ∀ i (h : i < xs.length),Rd w (Fro R O w) (vs i) xs[i]) :
   OwnF R w O t p (.slice (some ⟨g,0,none⟩) xs.length cap) (.list xs)
 | ptr (g : Nat) (cur : Array Value) (E : TypeId) (xs : List D) (vs : Nat → Value)
   (hO : O g = some (t,p)) (hg : w.heap[g]? = some (.cells cur E (0,0))) (hl : cur.size = xs.length)
   (hv : ∀ i,i < xs.length → cur[i]? = some (vs i))
   (hr : ∀ i (h : i < xs.length),Rd w (Fro R O w) (vs i) xs[i]) : OwnF R w O t p (.pointer (some ⟨g,0,none⟩)) (.ptr xs)

structure Keeps (w w' : World) (O O' : Own) (r : Nat → Prop) : Prop where
 size : w.heap.size ≤ w'.heap.size
 fro : ∀ g,g < w.heap.size → O g = none → O' g = none ∧ w'.heap[g]? = w.heap[g]?
 own : ∀ g t p,O g = some (t,p) → ¬ r t → O' g = some (t,p) ∧ w'.heap[g]? = w.heap[g]?

theorem Keeps.refl (w : World) (O : Own) (r : Nat → Prop) : Keeps w w O O r := ⟨Nat.le_refl _,fun _ _ h => ⟨h,rfl⟩,fun _ _ _ h _ => ⟨h,rfl⟩⟩

theorem Rd.fro {R : Nat → Prop} {w w' : World} {O O' : Own} {r : Nat → Prop} (k : Keeps w w' O O' r) {v : Value} {d : D} (h : Rd w (Fro R O w) v d) : Rd w' (Fro R O' w') v d :=
 h.keep (fun g hg => ⟨(k.fro g hg.2.1 hg.1).1,Nat.lt_of_lt_of_le hg.2.1 k.size,hg.2.2⟩) (fun g hg => (k.fro g hg.2.1 hg.1).2)

theorem OwnU.keeps {w w' : World} {O O' : Own} {r : Nat → Prop} (k : Keeps w w' O O' r) {t : Nat} (ht : ¬ r t) {p : List Nat} {v : Value} {d : D}
  (h : OwnU w O t p v d) : OwnU w' O' t p v d := h.keep p fun g _ hq => k.own g t _ hq ht

theorem OwnF.keeps {R : Nat → Prop} {w w' : World} {O O' : Own} {r : Nat → Prop} (k : Keeps w w' O O' r) {t : Nat} (ht : ¬ r t) {p : List Nat} {v : Value} {d : D}
  (h : OwnF R w O t p v d) : OwnF R w' O' t p v d := by
 cases h with
 | nil => exact .nil
 | list g cap cur E xs vs h1 h2 h3 h4 h5 h6 h7 =>
  have h0 := k.own g t p h1 ht
  exact .list g cap cur E xs vs h0.1 (by rw [h0.2]; exact h2) h3 h4 h5 h6 fun i hi => (h7 i hi).fro k
 | ptr g cur E xs vs h1 h2 h3 h4 h5 =>
  have h0 := k.own g t p h1 ht
  exact .ptr g cur E xs vs h0.1 (by rw [h0.2]; exact h2) h3 h4 fun i hi => (h5 i hi).fro k

def Bor (R : Nat → Prop) (O : Own) (w : World) (t : Nat) (g : Nat) : Prop := (O g = none ∨ ∃ q,O g = some (t,q)) ∧ g < w.heap.size ∧ R g

theorem Rd.bor {R : Nat → Prop} {w w' : World} {O O' : Own} {r : Nat → Prop} (k : Keeps w w' O O' r) {t : Nat} (ht : ¬ r t) {v : Value} {d : D} (h : Rd w (Bor R O w t) v d) :
  Rd w' (Bor R O' w' t) v d :=
 h.keep (fun g hg => ⟨by
  rcases hg.1 with h1 | ⟨q,h1⟩
  ·exact .inl (k.fro g hg.2.1 h1).1
  ·exact .inr ⟨q,(k.own g t q h1 ht).1⟩,Nat.lt_of_lt_of_le hg.2.1 k.size,hg.2.2⟩) (fun g hg => by
  rcases hg.1 with h1 | ⟨q,h1⟩
  ·exact (k.fro g hg.2.1 h1).2
  ·exact (k.own g t q h1 ht).2)

inductive Cap where
 | tok (t : Nat)
 | dat (d : D)
 deriving Inhabited
def Cap.on (t : Nat) : Cap → Bool
 | .tok r => r == t
 | .dat _ => false
def CapR (R : Nat → Prop) (w : World) (O : Own) : Cap → Value → Prop
 | .tok t,v => ∃ g,v = .pointer (some ⟨g,0,none⟩) ∧ O g = some (t,[])
 | .dat d,v => Rd w (Fro R O w) v d
def CloR (R : Nat → Prop) (w : World) (O : Own) (f : FuncId) (cs : List Cap) (v : Value) : Prop :=
 ∃ vs : Array Value,v = .func (.func f) #[] vs ∧ vs.size = cs.length ∧ ∀ i (h : i < cs.length),∃ u,vs[i]? = some u ∧ CapR R w O cs[i] u
theorem CloR.keeps {R : Nat → Prop} {w w' : World} {O O' : Own} {r : Nat → Prop} (k : Keeps w w' O O' r) {f : FuncId} {cs : List Cap} {v : Value} (hr : ∀ t,r t → (cs.any fun c => c.on t) = false)
  (h : CloR R w O f cs v) : CloR R w' O' f cs v := by
 obtain ⟨vs,h1,h2,h3⟩ := h
 refine ⟨vs,h1,h2,fun i hi => ?_⟩
 obtain ⟨u,h4,h5⟩ := h3 i hi
 refine ⟨u,h4,?_⟩
 have hm : cs[i] ∈ cs := List.getElem_mem hi
 cases hc : cs[i] with
 | tok t =>
  rw [hc] at h5
  obtain ⟨g,h6,h7⟩ := h5
  refine ⟨g,h6,(k.own g t [] h7 fun ht => ?_).1⟩
  have := List.any_eq_false.1 (hr t ht) _ hm
  rw [hc] at this
  simp [Cap.on] at this
 | dat d =>
  rw [hc] at h5
  exact Rd.fro k h5

inductive VV where
 | dead
 | val (d : D)
 | ref (t : Nat) (p : List Nat) (u : Bool) (d : D)
 | bor (t : Nat) (d : D)
 | adr (t : Nat) (p : List Nat) (i : Nat) (u : Bool) (d : D)
 | adrv (d : D)
 | adrb (t : Nat) (d : D)
 | tup (a b : VV)
 | tups (ds : List D)
 | und
 | mp (t : Nat) (es : List (Int × Int))
 | itr (t tm : Nat) (es : List (Int × Int)) (seen : List Nat)
 | part (t : Nat) (k : Nat) (d : D)
 | adrs (m : Nat) (d : D)
 | al (t : Nat) (xs : List D)
 | aal (t : Nat) (i : Nat) (d : D)
 | clo (f : FuncId) (cs : List Cap)
 | cel (t : Nat) (f : FuncId) (cs : List Cap)
 | gst (t : Nat) (xs : List D)
 deriving Inhabited

def Part (R : Nat → Prop) (w : World) (O : Own) (t : Nat) (p : List Nat) (u : Bool) (v : Value) (d : D) : Prop :=
 match u with
 | true => OwnU w O t p v d
 | false => Rd w (Fro R O w) v d

def Tree (R : Nat → Prop) (w : World) (O : Own) (t : Nat) (p : List Nat) (u : Bool) (v : Value) (d : D) : Prop :=
 match u with
 | true => OwnU w O t p v d
 | false => OwnF R w O t p v d

def entL : Nat → List (Int × Int) → List MapEntry
 | _,[] => []
 | n,e :: r => ⟨.int .i64 e.1,.int .i64 e.2,n⟩ :: entL (n + 1) r
def Ents (es : List (Int × Int)) (cur : Array MapEntry) : Prop := cur = (entL 0 es).toArray
def Rel (R : Nat → Prop) (w : World) (O : Own) : VV → Value → Prop
 | .dead,_ => True
 | .val d,v => Rd w (Fro R O w) v d
 | .ref t p u d,v => Tree R w O t p u v d
 | .bor t d,v => Rd w (Bor R O w t) v d
 | .adr t p i u d,v => ∃ g cur E cv,v = .pointer (some ⟨g,i,none⟩) ∧ O g = some (t,p) ∧ w.heap[g]? = some (.cells cur E (0,0)) ∧ cur[i]? = some cv ∧ Part R w O t (p ++ [i]) u cv d
 | .adrv d,v => ∃ g o cur E fr cv,v = .pointer (some ⟨g,o,none⟩) ∧ Fro R O w g ∧ w.heap[g]? = some (.cells cur E fr) ∧ cur[o]? = some cv ∧ Rd w (Fro R O w) cv d
 | .adrb t d,v => ∃ g o cur E fr cv,v = .pointer (some ⟨g,o,none⟩) ∧ Bor R O w t g ∧ w.heap[g]? = some (.cells cur E fr) ∧ cur[o]? = some cv ∧ Rd w (Bor R O w t) cv d
 | .tup a b,v => ∃ x y,v = .tuple #[x,y] ∧ Rel R w O a x ∧ Rel R w O b y
 | .und,v => v = undef
 | .tups ds,v => ∃ vs : Array Value,v = .tuple vs ∧ vs.size = ds.length ∧ ∀ i (h : i < ds.length),∃ u,vs[i]? = some u ∧ Rd w (Fro R O w) u ds[i]
 | .mp t es,v => ∃ g cur,v = .map (some g) ∧ O g = some (t,[]) ∧ w.heap[g]? = some (.map cur es.length) ∧ Ents es cur
 | .part t k d,v => OwnU w O t [k] v d
 | .adrs m d,v => ∃ g o cur E fr,v = .pointer (some ⟨g,o,none⟩) ∧ Fro R O w g ∧ w.heap[g]? = some (.cells cur E fr) ∧ o + m ≤ cur.size ∧ Rd w (Fro R O w) (.agg (cur.extract o (o + m))) d
 | .al t xs,v => ∃ g cur E fr,v = .pointer (some ⟨g,0,none⟩) ∧ Fro R O w g ∧ w.heap[g]? = some (.cells cur E fr) ∧ OwnU w O t [] (.agg cur) (.agg xs)
 | .aal t i d,v => ∃ g cur E fr cv,v = .pointer (some ⟨g,i,none⟩) ∧ Fro R O w g ∧ w.heap[g]? = some (.cells cur E fr) ∧ cur[i]? = some cv ∧ OwnU w O t [i] cv d
 | .clo f cs,v => CloR R w O f cs v
 | .cel t f cs,v => ∃ g cur E cv,v = .pointer (some ⟨g,0,none⟩) ∧ O g = some (t,[]) ∧ w.heap[g]? = some (.cells cur E (0,0)) ∧ cur.size = 1 ∧ cur[0]? = some cv ∧ CloR R w O f cs cv
 | .gst t xs,_ => ∃ u,OwnU w O t [] u (.ptr xs)
 | .itr t tm es seen,v => ∃ gi gm cur,v = .pointer (some ⟨gi,0,none⟩) ∧ O gi = some (t,[]) ∧ O gm = some (tm,[]) ∧ w.heap[gi]? = some (.mapIter (some gm) es.length seen.toArray es.length) ∧ w.heap[gm]? = some (.map cur es.length) ∧ Ents es cur

def VV.on (t : Nat) : VV → Bool
 | .dead | .val _ | .adrv _ | .tups _ | .und | .adrs _ _ => false
 | .ref r _ _ _ | .bor r _ | .adr r _ _ _ _ | .adrb r _ => r == t
 | .tup a b => a.on t || b.on t
 | .mp r _ | .al r _ | .aal r _ _ => r == t
 | .itr r m _ _ => r == t || m == t
 | .part r _ _ | .gst r _ => r == t
 | .clo _ cs => cs.any fun c => c.on t
 | .cel r _ cs => r == t || cs.any fun c => c.on t

theorem Part.keeps {R : Nat → Prop} {w w' : World} {O O' : Own} {r : Nat → Prop} (k : Keeps w w' O O' r) {t : Nat} (ht : ¬ r t) {p : List Nat} {u : Bool} {v : Value} {d : D}
  (h : Part R w O t p u v d) : Part R w' O' t p u v d := by
 cases u with
 | true => exact OwnU.keeps k ht h
 | false => exact Rd.fro k h

theorem Tree.keeps {R : Nat → Prop} {w w' : World} {O O' : Own} {r : Nat → Prop} (k : Keeps w w' O O' r) {t : Nat} (ht : ¬ r t) {p : List Nat} {u : Bool} {v : Value} {d : D}
  (h : Tree R w O t p u v d) : Tree R w' O' t p u v d := by
 cases u with
 | true => exact OwnU.keeps k ht h
 | false => exact OwnF.keeps k ht h

theorem Rel.keeps {R : Nat → Prop} {w w' : World} {O O' : Own} {r : Nat → Prop} (k : Keeps w w' O O' r) : ∀ {x : VV} {v : Value},(∀ t,r t → x.on t = false) →
  Rel R w O x v → Rel R w' O' x v
 | .dead,_,_,_ => trivial
 | .val _,_,_,h => Rd.fro k h
 | .ref t p u d,_,hr,h => Tree.keeps k (fun ht => by have := hr t ht; simp [VV.on] at this) h
 | .bor t d,_,hr,h => Rd.bor k (fun ht => by have := hr t ht; simp [VV.on] at this) h
 | .adr t p i u d,_,hr,h => by
  have ht : ¬ r t := fun ht => by have := hr t ht; simp [VV.on] at this
  obtain ⟨g,cur,E,cv,h1,h2,h3,h4,h5⟩ := h
  have h0 := k.own g t p h2 ht
  exact ⟨g,cur,E,cv,h1,h0.1,by rw [h0.2]; exact h3,h4,h5.keeps k ht⟩
 | .adrv d,_,_,h => by
  obtain ⟨g,o,cur,E,fr,cv,h1,h2,h3,h4,h5⟩ := h
  have h0 := k.fro g h2.2.1 h2.1
  exact ⟨g,o,cur,E,fr,cv,h1,⟨h0.1,Nat.lt_of_lt_of_le h2.2.1 k.size,h2.2.2⟩,by rw [h0.2]; exact h3,h4,h5.fro k⟩
 | .adrb t d,_,hr,h => by
  have ht : ¬ r t := fun ht => by have := hr t ht; simp [VV.on] at this
  obtain ⟨g,o,cur,E,fr,cv,h1,h2,h3,h4,h5⟩ := h
  have h0 : (O' g = none ∨ ∃ q,O' g = some (t,q)) ∧ w'.heap[g]? = w.heap[g]? := by
   rcases h2.1 with h1 | ⟨q,h1⟩
   ·exact ⟨.inl (k.fro g h2.2.1 h1).1,(k.fro g h2.2.1 h1).2⟩
   ·exact ⟨.inr ⟨q,(k.own g t q h1 ht).1⟩,(k.own g t q h1 ht).2⟩
  exact ⟨g,o,cur,E,fr,cv,h1,⟨h0.1,Nat.lt_of_lt_of_le h2.2.1 k.size,h2.2.2⟩,by rw [h0.2]; exact h3,h4,h5.bor k ht⟩
 | .tup a b,_,hr,h => by
  obtain ⟨x,y,h1,h2,h3⟩ := h
  have ha : ∀ t,r t → a.on t = false := fun t ht => by have := hr t ht; simp [VV.on] at this; exact this.1
  have hb : ∀ t,r t → b.on t = false := fun t ht => by have := hr t ht; simp [VV.on] at this; exact this.2
  exact ⟨x,y,h1,Rel.keeps k ha h2,Rel.keeps k hb h3⟩
 | .und,_,_,h => h
 | .tups ds,_,_,h => by
  obtain ⟨vs,h1,h2,h3⟩ := h
  exact ⟨vs,h1,h2,fun i hi => by obtain ⟨u,h4,h5⟩ := h3 i hi; exact ⟨u,h4,Rd.fro k h5⟩⟩
 | .part t k' d,_,hr,h => OwnU.keeps k (fun ht => by have := hr t ht; simp [VV.on] at this) h
 | .gst t xs,_,hr,h => by
  obtain ⟨u,hu⟩ := h
  exact ⟨u,OwnU.keeps k (fun ht => by have := hr t ht; simp [VV.on] at this) hu⟩
 | .adrs m d,_,_,h => by
  obtain ⟨g,o,cur,E,fr,h1,h2,h3,h4,h5⟩ := h
  have h0 := k.fro g h2.2.1 h2.1
  exact ⟨g,o,cur,E,fr,h1,⟨h0.1,Nat.lt_of_lt_of_le h2.2.1 k.size,h2.2.2⟩,by rw [h0.2]; exact h3,h4,h5.fro k⟩
 | .al t xs,_,hr,h => by
  have ht : ¬ r t := fun ht => by have := hr t ht; simp [VV.on] at this
  obtain ⟨g,cur,E,fr,h1,h2,h3,h4⟩ := h
  have h0 := k.fro g h2.2.1 h2.1
  exact ⟨g,cur,E,fr,h1,⟨h0.1,Nat.lt_of_lt_of_le h2.2.1 k.size,h2.2.2⟩,by rw [h0.2]; exact h3,OwnU.keeps k ht h4⟩
 | .aal t i d,_,hr,h => by
  have ht : ¬ r t := fun ht => by have := hr t ht; simp [VV.on] at this
  obtain ⟨g,cur,E,fr,cv,h1,h2,h3,h4,h5⟩ := h
  have h0 := k.fro g h2.2.1 h2.1
  exact ⟨g,cur,E,fr,cv,h1,⟨h0.1,Nat.lt_of_lt_of_le h2.2.1 k.size,h2.2.2⟩,by rw [h0.2]; exact h3,h4,OwnU.keeps k ht h5⟩
 | .clo f cs,_,hr,h => CloR.keeps k (fun t ht => by have := hr t ht; simpa only [VV.on] using this) h
 | .cel t f cs,_,hr,h => by
  have ht : ¬ r t := fun ht => by have := hr t ht; simp [VV.on] at this
  obtain ⟨g,cur,E,cv,h1,h2,h3,h4,h5,h6⟩ := h
  have h0 := k.own g t _ h2 ht
  exact ⟨g,cur,E,cv,h1,h0.1,by rw [h0.2]; exact h3,h4,h5,CloR.keeps k (fun t ht => by have := hr t ht; simp only [VV.on,Bool.or_eq_false_iff] at this; exact this.2) h6⟩
 | .mp t es,_,hr,h => by
  have ht : ¬ r t := fun ht => by have := hr t ht; simp [VV.on] at this
  obtain ⟨g,cur,h1,h2,h3,h4⟩ := h
  have h0 := k.own g t _ h2 ht
  exact ⟨g,cur,h1,h0.1,by rw [h0.2]; exact h3,h4⟩
 | .itr t tm es seen,_,hr,h => by
  have ht : ¬ r t := fun ht => by have := hr t ht; simp [VV.on] at this
  have htm : ¬ r tm := fun ht => by have := hr tm ht; simp [VV.on] at this
  obtain ⟨gi,gm,cur,h1,h2,h3,h4,h5,h6⟩ := h
  have h0 := k.own gi t _ h2 ht
  have h0m := k.own gm tm _ h3 htm
  exact ⟨gi,gm,cur,h1,h0.1,h0m.1,by rw [h0.2]; exact h4,by rw [h0m.2]; exact h5,h6⟩

abbrev Frm := Nat → VV
def upd (σ : Frm) (s : Nat) (v : VV) : Frm := fun j => if j = s then v else σ j
structure Blw (B : Nat → Prop) (w w' : World) : Prop where
 os : w'.os = w.os
 tape : w'.tape = w.tape
 output : w'.output = w.output
 size : w.heap.size ≤ w'.heap.size
 block : ∀ k,B k → w'.heap[k]? = w.heap[k]?

theorem Blw.refl (B : Nat → Prop) (w : World) : Blw B w w := ⟨rfl,rfl,rfl,Nat.le_refl _,fun _ _ => rfl⟩
theorem Blw.trans {B : Nat → Prop} {a b c : World} (h : Blw B a b) (k : Blw B b c) : Blw B a c :=
 ⟨k.os.trans h.os,k.tape.trans h.tape,k.output.trans h.output,Nat.le_trans h.size k.size,fun i hi => (k.block i hi).trans (h.block i hi)⟩
theorem Blw.of {B : Nat → Prop} {n : Nat} {w w' : World} (h : Below n w w') (hB : ∀ g,B g → g < n) : Blw B w w' := ⟨h.os,h.tape,h.output,h.size,fun k hk => h.block k (hB k hk)⟩
theorem Blw.below {n : Nat} {w w' : World} (h : Blw (fun g => g < n) w w') : Below n w w' := ⟨h.os,h.tape,h.output,h.size,h.block⟩
theorem Blw.drew {B : Nat → Prop} {a w : World} (h : Blw B a w) : Blw B a { w with drawn := w.drawn + 1 } := ⟨h.os,h.tape,h.output,h.size,h.block⟩
theorem Blw.alloc {B : Nat → Prop} {a w : World} (h : Blw B a w) (hB : ∀ g,B g → g < w.heap.size) (o : Obj) : Blw B a (w.alloc o) :=
 h.trans ⟨rfl,rfl,rfl,by simp,fun k hk => Below.heap_alloc _ _ _ (hB k hk)⟩

structure Lim where
 n : Nat
 lo : Nat
instance : Membership Nat Lim := ⟨fun N d => N.lo ≤ d ∧ d < N.n⟩
instance (d : Nat) (N : Lim) : Decidable (d ∈ N) := inferInstanceAs (Decidable (N.lo ≤ d ∧ d < N.n))
@[simp] theorem mem_lim (d n lo : Nat) : d ∈ (⟨n,lo⟩ : Lim) ↔ lo ≤ d ∧ d < n := Iff.rfl

structure W0 where
 w : World
 pv : Nat → Value

structure St (R : Nat → Prop) (B : Nat → Prop) (w0 : W0) (N : Lim) (O : Own) (σ : Frm) (a : Act) (w : World) : Prop where
 below : Blw B w0.w w
 base : ∀ g,B g → g < w.heap.size
 fresh : ∀ g,¬ B g → R g
 own : ∀ g x,O g = some x → ¬ B g ∧ g < w.heap.size
 inj : ∀ g g' x,O g = some x → O g' = some x → g = g'
 size : a.tmps.size = N.n
 defers : a.defers = []
 pin : ∀ s,s < N.lo → a.tmps.getD s undef = w0.pv s
 slots : ∀ s,Rel R w O (σ s) (a.tmps.getD s undef)


def killl (ks : List Nat) (σ : Frm) : Frm := fun j => if ks.any (fun t => (σ j).on t) then .dead else σ j

structure Made (R : Nat → Prop) (B : Nat → Prop) (w w' : World) (O O' : Own) (ks : List Nat) (x : VV) (v : Value) : Prop where
 keeps : Keeps w w' O O' (fun t => t ∈ ks)
 below : Blw B w w'
 own : ∀ g y,O' g = some y → ¬ B g ∧ g < w'.heap.size
 inj : ∀ g g' y,O' g = some y → O' g' = some y → g = g'
 rel : Rel R w' O' x v

theorem St.newB {R B : Nat → Prop} {w0 : W0} {N : Lim} {O : Own} {σ : Frm} {a : Act} {w : World} (h : St R B w0 N O σ a w) {g : Nat} (hg : w.heap.size ≤ g) : ¬ B g := fun hb => absurd (h.base g hb) (by omega)

theorem killl_nil (σ : Frm) : killl [] σ = σ := by funext j; simp [killl]

theorem Rel.killl {R : Nat → Prop} {w w' : World} {O O' : Own} {ks : List Nat} (k : Keeps w w' O O' (fun t => t ∈ ks)) {σ : Frm} {s : Nat} {v : Value}
  (h : Rel R w O (σ s) v) : Rel R w' O' (killl ks σ s) v := by
 unfold Vam.killl
 by_cases hk : (ks.any fun t => (σ s).on t) = true
 ·rw [if_pos hk]; exact trivial
 ·rw [if_neg hk]
  refine Rel.keeps k (fun t ht => ?_) h
  cases he : (σ s).on t with
  | false => rfl
  | true => exact absurd (List.any_eq_true.2 ⟨t,ht,he⟩) hk

theorem getD_put {a : Act} {d : Nat} {v : Value} (hd : d < a.tmps.size) (s : Nat) : (a.put (some d) v).tmps.getD s undef = if s = d then v else a.tmps.getD s undef := by
 simp only [Act.put]
 by_cases h : s = d
 ·subst h; simp [hd]
 ·rw [if_neg h]
  simp only [Array.getD_eq_getD_getElem?]
  rw [Array.getElem?_setIfInBounds_ne (fun e => h e.symm)]

theorem St.made {R : Nat → Prop} {B : Nat → Prop} {w0 : W0} {N : Lim} {O O' : Own} {σ : Frm} {a : Act} {w w' : World} {ks : List Nat} {x : VV} {v : Value} {d : Nat}
  (h : St R B w0 N O σ a w) (m : Made R B w w' O O' ks x v) (hd : d ∈ N) : St R B w0 N O' (upd (Vam.killl ks σ) d x) (a.put (some d) v) w' := by
 refine ⟨h.below.trans m.below,fun g hg => Nat.lt_of_lt_of_le (h.base g hg) m.keeps.size,h.fresh,m.own,m.inj,by simp [Act.put,h.size],h.defers,fun s hs => by rw [getD_put (by rw [h.size]; exact hd.2),if_neg (fun e => by have := hd.1; omega)]; exact h.pin s hs,fun s => ?_⟩
 rw [getD_put (by rw [h.size]; exact hd.2)]
 unfold upd
 by_cases hs : s = d
 ·rw [if_pos hs,if_pos hs]; exact m.rel
 ·rw [if_neg hs,if_neg hs]; exact (h.slots s).killl m.keeps

theorem St.skip {R : Nat → Prop} {B : Nat → Prop} {w0 : W0} {N : Lim} {O : Own} {σ : Frm} {a : Act} {w : World} {dst : Option Tmp}
  (h : St R B w0 N O σ a w) (hd : ∀ d,dst = some d → d ∈ N) : St R B w0 N O (match dst with | some d => upd σ d .dead | none => σ) (a.put dst undef) w := by
 cases dst with
 | none => simpa [Act.put] using h
 | some d =>
  have := h.made (ks := []) (x := .dead) (v := undef) (d := d) ⟨Keeps.refl _ _ _,.refl _ _,h.own,h.inj,trivial⟩ (hd d rfl)
  rwa [killl_nil] at this

theorem St.drew {R : Nat → Prop} {B : Nat → Prop} {w0 : W0} {N : Lim} {O : Own} {σ : Frm} {a : Act} {w : World} (h : St R B w0 N O σ a w) :
  St R B w0 N O σ a { w with drawn := w.drawn + 1 } := by
 have k : Keeps w { w with drawn := w.drawn + 1 } O O (fun _ => False) := ⟨Nat.le_refl _,fun _ _ h => ⟨h,rfl⟩,fun _ _ _ h _ => ⟨h,rfl⟩⟩
 exact ⟨h.below.drew,h.base,h.fresh,h.own,h.inj,h.size,h.defers,h.pin,fun s => (h.slots s).keeps k (fun _ h => h.elim)⟩

theorem St.forget {R : Nat → Prop} {B : Nat → Prop} {w0 : W0} {N : Lim} {O : Own} {σ σ' : Frm} {a : Act} {w : World} (h : St R B w0 N O σ a w)
  (hs : ∀ s,σ' s = .dead ∨ σ' s = σ s) : St R B w0 N O σ' a w :=
 ⟨h.below,h.base,h.fresh,h.own,h.inj,h.size,h.defers,h.pin,fun s => by
  rcases hs s with e | e
  ·rw [e]; exact trivial
  ·rw [e]; exact h.slots s⟩

end Go.Vam
