/- append. -/
import Derived.Test.YtalfgfpgenlokaaVamF
import Derived.Lib.AppendZerosOnto
namespace Go.Vam
open Go Go.RowKit

def vapp (τ : TypeId → TK) (d : Nat) (T : TypeId) (s x : VV) : Option (List Nat × VV) :=
 match τ T with
 | .sl e =>
  if (τ e).zd.isSome then
   match s,x.dat with
   | .ref ts [] us (.list xs),some (.list ys) =>
    if xs.length + ys.length ≤ 1099511627776 ∧ ys.all D.one = true then
     if ys.all D.sc then some ([d,ts],.ref d [] us (.list (xs ++ ys)))
     else match x with
      | .ref tx [] ux (.list _) => if tx = ts then none else some (if ux then [d,ts,tx] else [d,ts],.ref d [] (us && ux) (.list (xs ++ ys)))
      | .val _ => some ([d,ts],.ref d [] false (.list (xs ++ ys)))
      | _ => none
    else none
   | _,_ => none
  else none
 | _ => none

section
variable {P : Program} {τ : TypeId → TK} {Φ : Orc} {R : Nat → Prop} {B : Nat → Prop} {w0 : W0} {N : Lim} {O : Own} {σ : Frm} {a : Act} {w : World}

structure AppRun (w w' : World) (old : Option Nat) (n m : Nat) (co : Nat → Value) (cn : Nat → Value) (v : Value) : Prop where
 os : w'.os = w.os
 tape : w'.tape = w.tape
 output : w'.output = w.output
 size : w.heap.size ≤ w'.heap.size
 block : ∀ k,k < w.heap.size → some k ≠ old → w'.heap[k]? = w.heap[k]?
 out : (v = .slice none 0 0 ∧ n + m = 0 ∧ w' = w) ∨ ∃ g cap cur E,v = .slice (some ⟨g,0,none⟩) (n + m) cap ∧ (old = some g ∨ g = w.heap.size) ∧ w'.heap[g]? = some (.cells cur E (0,0)) ∧ n + m ≤ cap ∧ cap ≤ maxLen ∧ cur.size = cap ∧
  (∀ i,i < n → cur[i]? = some (co i)) ∧ ∀ i,i < m → cur[n + i]? = some (cn i)

theorem list_news (m : Nat) (cn : Nat → Value) (j : Nat) (u : Value) (h : ((List.range m).map cn)[j]? = some u) : j < m ∧ cn j = u := by
 rw [List.getElem?_map] at h
 by_cases hj : j < m
 ·rw [List.getElem?_range hj] at h
  exact ⟨hj,by simpa using h⟩
 ·rw [List.getElem?_eq_none (by simpa using hj)] at h
  simp at h

theorem app_zero {T ty e : TypeId} {i : TypeInfo} (hu : P.underlying T = some (.slice e)) (hi : P.info? e = some i) (b : Option Addr) (n cap : Nat) (hn : n ≤ cap) (xa : Option Addr) (xc : Nat) :
  (Builtin.append_ #[T,T] ty #[.slice b n cap,.slice xa 0 xc]).run P w = .ok (.slice b n cap) w := by
 cases xa <;> cases b <;> simp [Builtin.append_,run_underlying hu,sizeOf,typeInfo,hi,Builtin.lenOf,hn,Builtin.firstCells,loadCells,loadCellsFrom,storeCells]

theorem app_room {T ty e : TypeId} {i : TypeInfo} (hu : P.underlying T = some (.slice e)) (hi : P.info? e = some i) (hs : i.size = 1) (g n cap : Nat) (cur : Array Value) (E : TypeId)
  (hg : w.heap[g]? = some (.cells cur E (0,0))) (hc : cur.size = cap) (xa : Addr) (m xc : Nat) (news : List Value) (hl : news.length = m)
  (hnews : ∀ j u,news[j]? = some u → w.cell? (xa.add j) = some u) (h1 : ∀ u ∈ news,u.oneCell' = true) (hroom : n + m ≤ cap) :
  (Builtin.append_ #[T,T] ty #[.slice (some ⟨g,0,none⟩) n cap,.slice (some xa) m xc]).run P w =
   .ok (.slice (some ⟨g,0,none⟩) (n + m) cap) (w.setRow g (cur.toList.take n ++ news ++ cur.toList.drop (n + m)).toArray) := by
 have hf := run_firstCells_some (P := P) w 1 m xa m xc news (by simpa using hl) hnews
 have hst := run_storeCells_at P g n E news 0 cur w hg (by omega) h1
 simp only [Nat.add_zero,hl] at hst
 simp [Builtin.append_,run_underlying hu,sizeOf,typeInfo,hi,hs,Builtin.lenOf,hroom,hf,Addr.add_lit,hst]

theorem app_run {T ty e : TypeId} {i : TypeInfo} {z : Value} (hu : P.underlying T = some (.slice e)) (hi : P.info? e = some i) (hs : i.size = 1) (hz : i.zero = some z) (hzc : z.cells.size = 1) (hby : i.bytes ≤ 64)
  (b : Option Addr) (n cap : Nat) (co : Nat → Value) (hb : (b = none ∧ n = 0 ∧ cap = 0) ∨ ∃ g cur E,b = some ⟨g,0,none⟩ ∧ w.heap[g]? = some (.cells cur E (0,0)) ∧ cur.size = cap ∧ n ≤ cap ∧ cap ≤ maxLen ∧ ∀ i,i < n → cur[i]? = some (co i))
  (xa : Option Addr) (m xc : Nat) (cn : Nat → Value) (hx : m = 0 ∨ ∃ gx ox cur E fr,xa = some ⟨gx,ox,none⟩ ∧ w.heap[gx]? = some (.cells cur E fr) ∧ ∀ i,i < m → cur[ox + i]? = some (cn i))
  (hone : ∀ i,i < m → (cn i).oneCell' = true) (hlim : n + m ≤ 1099511627776) :
  ∃ v w',(Builtin.append_ #[T,T] ty #[.slice b n cap,.slice xa m xc]).run P w = .ok v w' ∧ AppRun w w' (b.map (·.block)) n m co cn v := by
 rcases Nat.eq_zero_or_pos m with rfl | hm
 ·have hn : n ≤ cap := by rcases hb with ⟨_,h1,h2⟩ | ⟨_,_,_,_,_,_,h,_⟩ <;> omega
  refine ⟨_,w,app_zero hu hi b n cap hn xa xc,rfl,rfl,rfl,Nat.le_refl _,fun _ _ _ => rfl,?_⟩
  rcases hb with ⟨rfl,rfl,rfl⟩ | ⟨g,cur,E,rfl,h1,h2,h3,h4,h5⟩
  ·exact .inl ⟨rfl,rfl,rfl⟩
  ·exact .inr ⟨g,cap,cur,E,rfl,.inl rfl,h1,h3,h4,h2,h5,fun i hi => absurd hi (Nat.not_lt_zero _)⟩
 ·rcases hx with rfl | ⟨gx,ox,curx,Ex,frx,rfl,hgx,hcx⟩
  ·exact absurd hm (Nat.lt_irrefl _)
  have hl : ((List.range m).map cn).length = m := by simp
  have hnews : ∀ j u,((List.range m).map cn)[j]? = some u → w.cell? ((⟨gx,ox,none⟩ : Addr).add j) = some u := by
   intro j u hju
   obtain ⟨hj,rfl⟩ := list_news m cn j u hju
   have hadd : (⟨gx,ox,none⟩ : Addr).add j = ⟨gx,ox + j,none⟩ := by unfold Addr.add; split <;> simp_all
   rw [hadd,cell_of_row w gx _ _ _ _ hgx,hcx j hj]
  have h1 : ∀ u ∈ (List.range m).map cn,u.oneCell' = true := by
   intro u hu
   obtain ⟨j,hj,rfl⟩ := List.mem_map.1 hu
   exact hone j (List.mem_range.1 hj)
  have newget : ∀ (pre post : List Value),pre.length = n → ∀ i,i < m → (pre ++ (List.range m).map cn ++ post).toArray[n + i]? = some (cn i) := by
   intro pre post hp i him
   simp only [List.getElem?_toArray,List.append_assoc]
   rw [List.getElem?_append_right (by omega),hp,Nat.add_sub_cancel_left,List.getElem?_append_left (by simpa using him),List.getElem?_map,List.getElem?_range him]
   rfl
  have oldget : ∀ (pre post : List Value),pre.length = n → (∀ i,i < n → pre[i]? = some (co i)) → ∀ i,i < n → (pre ++ (List.range m).map cn ++ post).toArray[i]? = some (co i) := by
   intro pre post hp hpre i hin
   simp only [List.getElem?_toArray,List.append_assoc]
   rw [List.getElem?_append_left (by omega)]
   exact hpre i hin
  rcases hb with ⟨rfl,rfl,rfl⟩ | ⟨g,cur,E,rfl,hg,hc,hnc,hcm,hold⟩
  ·have hr := run_append_nil (P := P) w T ty e i z hu hi hz ⟨gx,ox,none⟩ m xc ((List.range m).map cn) (by simp [hs]) hnews hm (by omega) (by have := Nat.mul_le_mul (show m ≤ 1099511627776 by omega) hby; omega)
   have hge := grownCap_ge w m 0 e
   have hle : grownCap w m 0 e ≤ maxLen := grownCap_le_maxLen w m 0 e (by simp only [maxLen]; omega)
   refine ⟨_,_,hr,rfl,rfl,rfl,by simp,fun k hk _ => by rw [heap_alloc_old w.drew _ (by simpa using hk)]; rfl,.inr ⟨w.heap.size,grownCap w m 0 e,_,e,by simp,.inr rfl,heap_alloc_new w.drew _,by omega,hle,?_,fun i hi => absurd hi (Nat.not_lt_zero _),fun i him => ?_⟩⟩
   ·simp [size_zeroCells,hzc]; omega
   ·have := newget [] (Builtin.zeroCells z.cells (grownCap w m 0 e - m)).toList rfl i him
    rw [← this]
    congr 1
    apply Array.ext'
    simp
  ·by_cases hroom : n + m ≤ cap
   ·have hr := app_room (w := w) (ty := ty) hu hi hs g n cap cur E hg hc ⟨gx,ox,none⟩ m xc _ hl hnews h1 hroom
    have htl : (cur.toList.take n).length = n := by simp; omega
    refine ⟨_,_,hr,rfl,rfl,rfl,by simp,fun k hk hne => setRow_other w g k _ (fun e => hne (by simp [e])),.inr ⟨g,cap,_,E,rfl,.inl rfl,setRow_heap w g cur _ E _ hg,hroom,hcm,?_,fun i hin => ?_,fun i him => ?_⟩⟩
    ·simp; omega
    ·refine oldget _ _ htl (fun i hi => ?_) i hin
     rw [List.getElem?_take_of_lt hi]
     simpa using hold i hi
    ·exact newget _ _ htl i him
   ·have hr := run_append_grow (P := P) w T ty e i z hu hi hz ⟨g,0,none⟩ n cap ((List.range n).map co) (by simp [hs]) (fun j u hju => by
      obtain ⟨hj,rfl⟩ := list_news n co j u hju
      have hadd : (⟨g,0,none⟩ : Addr).add j = ⟨g,j,none⟩ := by unfold Addr.add; split <;> simp_all
      rw [hadd,cell_of_row w g _ _ _ _ hg,hold j hj]) ⟨gx,ox,none⟩ m xc ((List.range m).map cn) (by simp [hs]) hnews (by omega) (by omega)
      (growslice_fits (by omega) (by have := Nat.mul_le_mul hlim hby; omega))
    have hge := grownCap_ge w (n + m) cap e
    have hle : grownCap w (n + m) cap e ≤ maxLen := grownCap_le_maxLen w (n + m) cap e (by simp only [maxLen]; omega)
    refine ⟨_,_,hr,rfl,rfl,rfl,by simp,fun k hk _ => by rw [heap_alloc_old w.drew _ (by simpa using hk)]; rfl,.inr ⟨w.heap.size,_,_,e,rfl,.inr rfl,heap_alloc_new w.drew _,hge,hle,?_,fun i hin => ?_,fun i him => ?_⟩⟩
    ·simp [size_zeroCells,hzc]; omega
    ·have := oldget ((List.range n).map co) (Builtin.zeroCells z.cells (grownCap w (n + m) cap e - (n + m))).toList (by simp) (fun i hi => by simp [hi]) i hin
     rw [← this]
     congr 1
     apply Array.ext'
     simp
    ·have := newget ((List.range n).map co) (Builtin.zeroCells z.cells (grownCap w (n + m) cap e - (n + m))).toList (by simp) i him
     rw [← this]
     congr 1
     apply Array.ext'
     simp


theorem tree_list {t : Nat} {p : List Nat} {u : Bool} {v : Value} {xs : List D} (h : Tree R w O t p u v (.list xs)) :
  ∃ (b : Option Addr) (cap : Nat) (co : Nat → Value),v = .slice b xs.length cap ∧
   ((b = none ∧ xs.length = 0 ∧ cap = 0) ∨ ∃ g cur E,b = some ⟨g,0,none⟩ ∧ O g = some (t,p) ∧ w.heap[g]? = some (.cells cur E (0,0)) ∧ cur.size = cap ∧ xs.length ≤ cap ∧ cap ≤ maxLen ∧ ∀ i,i < xs.length → cur[i]? = some (co i)) ∧
   ∀ i (h : i < xs.length),Part R w O t (p ++ [i]) u (co i) xs[i] := by
 cases u with
 | true =>
  cases (h : OwnU w O t p v (.list xs)) with
  | nil => exact ⟨none,0,fun _ => undef,rfl,.inl ⟨rfl,rfl,rfl⟩,fun i hi => absurd hi (by simp)⟩
  | list _ g cap cur E _ vs h1 h2 h3 h4 h5 h6 h7 => exact ⟨_,cap,vs,rfl,.inr ⟨g,cur,E,rfl,h1,h2,h5,h3,h4,h6⟩,h7⟩
 | false =>
  cases (h : OwnF R w O t p v (.list xs)) with
  | nil => exact ⟨none,0,fun _ => undef,rfl,.inl ⟨rfl,rfl,rfl⟩,fun i hi => absurd hi (by simp)⟩
  | list g cap cur E _ vs h1 h2 h3 h4 h5 h6 h7 => exact ⟨_,cap,vs,rfl,.inr ⟨g,cur,E,rfl,h1,h2,h5,h3,h4,h6⟩,h7⟩

theorem rd_list {S : Nat → Prop} {v : Value} {xs : List D} (h : Rd w S v (.list xs)) :
  ∃ (xa : Option Addr) (xc : Nat) (cn : Nat → Value),v = .slice xa xs.length xc ∧
   (xs.length = 0 ∨ ∃ gx ox cur E fr,xa = some ⟨gx,ox,none⟩ ∧ w.heap[gx]? = some (.cells cur E fr) ∧ ∀ i,i < xs.length → cur[ox + i]? = some (cn i)) ∧
   ∀ i (h : i < xs.length),Rd w S (cn i) xs[i] := by
 cases h with
 | empty xa xc => exact ⟨xa,xc,fun _ => undef,rfl,.inl rfl,fun i hi => absurd hi (by simp)⟩
 | list g o cap cur E fr _ vs h1 h2 h3 h4 h5 => exact ⟨_,cap,vs,rfl,.inr ⟨g,o,cur,E,fr,rfl,h2,h4⟩,h5⟩

theorem one_one {S : Nat → Prop} {v : Value} {d : D} (h : Rd w S v d) (ho : d.one = true) : v.oneCell' = true := by
 cases h <;> first | rfl | (simp [D.one] at ho)

theorem OwnU_rd_same {w w' : World} {O : Own} {t : Nat} {p : List Nat} {v : Value} {d : D} (h : OwnU w O t p v d) {S : Nat → Prop}
  (hS : ∀ g q,O g = some (t,p ++ q) → S g) (hw : ∀ g q,O g = some (t,p ++ q) → w'.heap[g]? = w.heap[g]?) : Rd w' S v d :=
 (h.rd (S := fun g => S g ∧ w'.heap[g]? = w.heap[g]?) fun g q hq => ⟨hS g q hq,hw g q hq⟩).keep (fun _ hg => hg.1) fun _ hg => hg.2

def appOwn (O : Own) (sz g d ts : Nat) (tx : Option Nat) (u : Bool) (n : Nat) : Own := fun b =>
 if b = g then some (d,[]) else if sz ≤ b then none else
 match O b with
 | none => none
 | some (t,p) =>
  if t = ts then (if u then (match p with | i :: q => if i < n then some (d,i :: q) else none | [] => none) else none)
  else if tx = some t then (if u then (match p with | i :: q => some (d,(i + n) :: q) | [] => none) else none)
  else if t = d then none else some (t,p)

theorem appOwn_inv {O : Own} {sz g d ts : Nat} {tx : Option Nat} {u : Bool} {n : Nat} (htx : tx ≠ some ts) {b t : Nat} {p : List Nat} (h : appOwn O sz g d ts tx u n b = some (t,p)) :
  (b = g ∧ t = d ∧ p = []) ∨ (b ≠ g ∧ b < sz ∧ ((t = d ∧ ∃ i q,p = i :: q ∧ ((i < n ∧ O b = some (ts,i :: q)) ∨ ∃ j t',i = j + n ∧ tx = some t' ∧ O b = some (t',j :: q))) ∨
   (t ≠ d ∧ t ≠ ts ∧ tx ≠ some t ∧ O b = some (t,p)))) := by
 unfold appOwn at h
 split at h
 ·rename_i hb
  simp only [Option.some.injEq,Prod.mk.injEq] at h
  exact .inl ⟨hb,h.1.symm,h.2.symm⟩
 ·rename_i hb
  split at h
  ·cases h
  ·rename_i hs
   right
   refine ⟨hb,by omega,?_⟩
   split at h
   ·cases h
   ·rename_i t' p' hO
    split at h
    ·rename_i ht
     subst ht
     split at h
     ·split at h
      ·rename_i i q
       split at h
       ·rename_i hi
        simp only [Option.some.injEq,Prod.mk.injEq] at h
        exact .inl ⟨h.1.symm,i,q,h.2.symm,.inl ⟨hi,hO⟩⟩
       ·cases h
      ·cases h
     ·cases h
    ·rename_i ht
     split at h
     ·rename_i htx'
      split at h
      ·split at h
       ·rename_i i q
        simp only [Option.some.injEq,Prod.mk.injEq] at h
        exact .inl ⟨h.1.symm,i + n,q,h.2.symm,.inr ⟨i,t',rfl,htx',hO⟩⟩
       ·cases h
      ·cases h
     ·rename_i htx'
      split at h
      ·cases h
      ·rename_i hd
       simp only [Option.some.injEq,Prod.mk.injEq] at h
       obtain ⟨rfl,rfl⟩ := h
       exact .inr ⟨hd,ht,htx',hO⟩

theorem app_made2 (h : St R B w0 N O σ a w) {w' : World} {d ts : Nat} {tx : Option Nat} (htx : tx ≠ some ts) {xs ys : List D} {u us : Bool} {b : Option Addr} {n m : Nat} {co cn : Nat → Value} {v : Value}
  (hn : xs.length = n) (hm : ys.length = m)
  (hb : b = none ∨ ∃ g,b = some ⟨g,0,none⟩ ∧ O g = some (ts,[])) (hrun : AppRun w w' (b.map (·.block)) n m co cn v)
  (hxs : ∀ i (hi : i < xs.length),Part R w O ts [i] us (co i) xs[i]) (hus : u = true → us = true)
  (hys : ∀ i (hi : i < ys.length),(ys[i].sc = true ∧ ∃ S,Rd w S (cn i) ys[i]) ∨ (∃ t,tx = some t ∧ OwnU w O t [i] (cn i) ys[i]) ∨ (u = false ∧ Rd w (Fro R O w) (cn i) ys[i]))
  {ks : List Nat} (hkd : d ∈ ks) (hkt : ts ∈ ks) (hkx : ∀ t,tx = some t → t ∈ ks) :
  ∃ O',Made R B w w' O O' ks (.ref d [] u (.list (xs ++ ys))) v ∧ (u = true → 0 < m → ∀ t,tx = some t → ∀ b j q,O b = some (t,j :: q) → O' b = some (d,(j + n) :: q) ∧ w'.heap[b]? = w.heap[b]?) := by
 subst hn; subst hm
 rcases hrun.out with ⟨rfl,h0,rfl⟩ | ⟨g,cap,cur,E,rfl,hg,hgc,hnc,hcm,hcs,hco,hcn⟩
 ·-- nothing to nothing
  have e1 : xs = [] := List.eq_nil_of_length_eq_zero (by omega)
  have e2 : ys = [] := List.eq_nil_of_length_eq_zero (by omega)
  subst e1; subst e2
  refine ⟨O,⟨Keeps.refl _ _ _,.refl _ _,h.own,h.inj,?_⟩,fun _ h0 => absurd h0 (by simp)⟩
  cases u with
  | true => exact OwnU.nil _
  | false => exact OwnF.nil
 ·have hgold : g < w.heap.size → O g = some (ts,[]) := by
   intro hlt
   rcases hg with e | e
   ·rcases hb with rfl | ⟨g',rfl,hO⟩
    ·cases e
    ·simp at e; subst e; exact hO
   ·omega
  have hgsz : g < w'.heap.size := (Array.getElem?_eq_some_iff.1 hgc).1
  have hgB : ¬ B g := by
   rcases Nat.lt_or_ge g w.heap.size with hlt | hge
   ·exact (h.own g _ (hgold hlt)).1
   ·exact h.newB hge
  have same : ∀ k,k < w.heap.size → k ≠ g → O k ≠ some (ts,[]) → w'.heap[k]? = w.heap[k]? := by
   intro k hk hne hO
   refine hrun.block k hk ?_
   rcases hb with rfl | ⟨g',rfl,hO'⟩
   ·simp
   ·simp only [Option.map_some,ne_eq,Option.some.injEq]
    rintro rfl
    exact hO hO'
  have ne_g : ∀ k,k < w.heap.size → O k ≠ some (ts,[]) → k ≠ g := by
   intro k hk hO e
   rw [e] at hk hO
   exact hO (hgold hk)
  let O' := appOwn O w.heap.size g d ts tx u xs.length
  have k : Keeps w w' O O' (fun t => t ∈ ks) := by
   refine ⟨hrun.size,fun k hk hO => ?_,fun k t p hO ht => ?_⟩
   ·have hne := ne_g k hk (by rw [hO]; simp)
    refine ⟨?_,same k hk hne (by rw [hO]; simp)⟩
    show appOwn O w.heap.size g d ts tx u xs.length k = none
    unfold appOwn
    rw [if_neg hne,if_neg (by omega),hO]
   ·have hk := (h.own k _ hO).2
    have hts : t ≠ ts := fun e => ht (e ▸ hkt)
    have hne := ne_g k hk (by rw [hO]; simp [hts])
    refine ⟨?_,same k hk hne (by rw [hO]; simp [hts])⟩
    show appOwn O w.heap.size g d ts tx u xs.length k = some (t,p)
    unfold appOwn
    rw [if_neg hne,if_neg (by omega),hO]
    simp only
    have hd : ¬ t = d := by intro e; rw [e] at ht; exact ht hkd
    rw [if_neg hts,if_neg (fun e => ht (hkx t e)),if_neg hd]
  have hroot : O' g = some (d,[]) := by show appOwn O w.heap.size g d ts tx u xs.length g = _; unfold appOwn; rw [if_pos rfl]
  have own' : ∀ k y,O' k = some y → ¬ B k ∧ k < w'.heap.size := by
   rintro k ⟨t,p⟩ hk
   rcases appOwn_inv htx hk with ⟨rfl,_,_⟩ | ⟨_,hlt,hh⟩
   ·exact ⟨hgB,hgsz⟩
   ·refine ⟨?_,Nat.lt_of_lt_of_le hlt hrun.size⟩
    rcases hh with ⟨_,i,q,_,⟨_,e⟩ | ⟨j,t',_,_,e⟩⟩ | ⟨_,_,_,e⟩
    ·exact (h.own k _ e).1
    ·exact (h.own k _ e).1
    ·exact (h.own k _ e).1
  have inj' : ∀ k k' y,O' k = some y → O' k' = some y → k = k' := by
   rintro k k' ⟨t,p⟩ h1 h2
   rcases appOwn_inv htx h1 with ⟨rfl,e1,e2⟩ | ⟨_,_,⟨e1,i,q,e2,e3⟩ | ⟨e1,_,_,e3⟩⟩ <;> rcases appOwn_inv htx h2 with ⟨rfl,f1,f2⟩ | ⟨_,_,⟨f1,i',q',f2,f3⟩ | ⟨f1,_,_,f3⟩⟩
   ·rfl
   ·rw [e2] at f2; cases f2
   ·exact absurd e1 f1
   ·rw [f2] at e2; cases e2
   ·rw [e2] at f2
    simp only [List.cons.injEq] at f2
    obtain ⟨rfl,rfl⟩ := f2
    rcases e3 with ⟨a1,a2⟩ | ⟨j,t1,a1,a2,a3⟩ <;> rcases f3 with ⟨b1,b2⟩ | ⟨j',t2,b1,b2,b3⟩
    ·exact h.inj k k' _ a2 b2
    ·omega
    ·omega
    ·rw [a2] at b2
     simp only [Option.some.injEq] at b2
     subst b2
     have : j = j' := by omega
     subst this
     exact h.inj k k' _ a3 b3
   ·exact absurd e1 f1
   ·exact absurd f1 e1
   ·exact absurd f1 e1
   ·exact h.inj k k' _ e3 f3
  have hlen : (xs ++ ys).length = xs.length + ys.length := by simp
  have moveS : ∀ g' i q,O g' = some (ts,i :: q) → i < xs.length → u = true → O' g' = some (d,i :: q) ∧ w'.heap[g']? = w.heap[g']? := by
   intro g' i q hO hi hu
   have hk := (h.own g' _ hO).2
   have hne := ne_g g' hk (by rw [hO]; simp)
   refine ⟨?_,same g' hk hne (by rw [hO]; simp)⟩
   show appOwn O w.heap.size g d ts tx u xs.length g' = _
   unfold appOwn
   rw [if_neg hne,if_neg (by omega),hO]
   simp [hu,hi]
  have moveX : ∀ g' i q t,tx = some t → O g' = some (t,i :: q) → u = true → O' g' = some (d,(i + xs.length) :: q) ∧ w'.heap[g']? = w.heap[g']? := by
   intro g' i q t ht hO hu
   have hts : t ≠ ts := fun e => htx (e ▸ ht)
   have hk := (h.own g' _ hO).2
   have hne := ne_g g' hk (by rw [hO]; simp [hts])
   refine ⟨?_,same g' hk hne (by rw [hO]; simp [hts])⟩
   show appOwn O w.heap.size g d ts tx u xs.length g' = _
   unfold appOwn
   rw [if_neg hne,if_neg (by omega),hO]
   simp [hts,ht,hu]
  have frz : ∀ g' t i q,O g' = some (t,i :: q) → (t = ts ∨ tx = some t) → u = false → Fro R O' w' g' ∧ w'.heap[g']? = w.heap[g']? := by
   intro g' t i q hO ht hu
   have hk := (h.own g' _ hO).2
   have hne := ne_g g' hk (by rw [hO]; simp)
   refine ⟨⟨?_,Nat.lt_of_lt_of_le hk hrun.size,h.fresh g' (h.own g' _ hO).1⟩,same g' hk hne (by rw [hO]; simp)⟩
   show appOwn O w.heap.size g d ts tx u xs.length g' = none
   unfold appOwn
   rw [if_neg hne,if_neg (by omega),hO]
   rcases ht with rfl | ht
   ·simp [hu]
   ·simp [hu,ht]
  have partS : ∀ i (hi : i < xs.length),Part R w' O' d [i] u (co i) xs[i] := by
   intro i hi
   have hp := hxs i hi
   cases hu : u with
   | true =>
    rw [hus hu] at hp
    refine OwnU.keep (hp : OwnU w O ts [i] (co i) xs[i]) [i] fun g' q hq => ?_
    have := moveS g' i q (by simpa using hq) hi hu
    simpa using this
   | false =>
    cases us with
    | true =>
     refine OwnU_rd_same hp (fun g' q hq => (frz g' ts i q (by simpa using hq) (.inl rfl) hu).1) fun g' q hq => (frz g' ts i q (by simpa using hq) (.inl rfl) hu).2
    | false => exact Rd.fro k hp
  have partX : ∀ i (hi : i < ys.length),Part R w' O' d [i + xs.length] u (cn i) ys[i] := by
   intro i hi
   rcases hys i hi with ⟨hsc,S,hr⟩ | ⟨t,ht,hr⟩ | ⟨hu,hr⟩
   ·cases u with
    | true => exact sc_own hsc hr _ _ _ _
    | false => exact sc_rd hsc (sc_own hsc hr O w 0 []) _ _
   ·cases hu : u with
    | true =>
     refine OwnU.keep hr [i + xs.length] fun g' q hq => ?_
     have := moveX g' i q t ht (by simpa using hq) hu
     simpa using this
    | false =>
     refine OwnU_rd_same hr (fun g' q hq => (frz g' t i q (by simpa using hq) (.inr ht) hu).1) fun g' q hq => (frz g' t i q (by simpa using hq) (.inr ht) hu).2
   ·rw [hu]; exact Rd.fro k hr
  have cells : ∀ i,i < (xs ++ ys).length → cur[i]? = some (if i < xs.length then co i else cn (i - xs.length)) := by
   intro i hi
   by_cases hx : i < xs.length
   ·rw [if_pos hx]; exact hco i hx
   ·rw [if_neg hx]
    have := hcn (i - xs.length) (by omega)
    rwa [show xs.length + (i - xs.length) = i by omega] at this
  have parts : ∀ i (hi : i < (xs ++ ys).length),Part R w' O' d [i] u (if i < xs.length then co i else cn (i - xs.length)) (xs ++ ys)[i] := by
   intro i hi
   by_cases hx : i < xs.length
   ·rw [if_pos hx,List.getElem_append_left hx]; exact partS i hx
   ·rw [if_neg hx,List.getElem_append_right (by omega)]
    have := partX (i - xs.length) (by omega)
    rwa [show i - xs.length + xs.length = i by omega] at this
  refine ⟨O',⟨k,⟨hrun.os,hrun.tape,hrun.output,hrun.size,fun j hj => ?_⟩,own',inj',?_⟩,fun hu _ t ht b j q hb => moveX b j q t ht hb hu⟩
  ·refine same j (h.base j hj) (fun e => hgB (e ▸ hj)) fun hO => ?_
   exact (h.own j _ hO).1 hj
  ·rw [← hlen]
   rw [← hlen] at hnc
   cases hu : u with
   | true =>
    have hp : ∀ i (hi : i < (xs ++ ys).length),OwnU w' O' d [i] (if i < xs.length then co i else cn (i - xs.length)) (xs ++ ys)[i] := by
     intro i hi; have := parts i hi; rw [hu] at this; exact this
    exact OwnU.list [] g cap cur E _ _ hroot hgc hnc hcm hcs cells hp
   | false =>
    have hp : ∀ i (hi : i < (xs ++ ys).length),Rd w' (Fro R O' w') (if i < xs.length then co i else cn (i - xs.length)) (xs ++ ys)[i] := by
     intro i hi; have := parts i hi; rw [hu] at this; exact this
    exact OwnF.list g cap cur E _ _ hroot hgc hnc hcm hcs cells hp


theorem app_made (h : St R B w0 N O σ a w) {w' : World} {d ts : Nat} {tx : Option Nat} (htx : tx ≠ some ts) {xs ys : List D} {u us : Bool} {b : Option Addr} {n m : Nat} {co cn : Nat → Value} {v : Value}
  (hn : xs.length = n) (hm : ys.length = m)
  (hb : b = none ∨ ∃ g,b = some ⟨g,0,none⟩ ∧ O g = some (ts,[])) (hrun : AppRun w w' (b.map (·.block)) n m co cn v)
  (hxs : ∀ i (hi : i < xs.length),Part R w O ts [i] us (co i) xs[i]) (hus : u = true → us = true)
  (hys : ∀ i (hi : i < ys.length),(ys[i].sc = true ∧ ∃ S,Rd w S (cn i) ys[i]) ∨ (∃ t,tx = some t ∧ OwnU w O t [i] (cn i) ys[i]) ∨ (u = false ∧ Rd w (Fro R O w) (cn i) ys[i]))
  {ks : List Nat} (hkd : d ∈ ks) (hkt : ts ∈ ks) (hkx : ∀ t,tx = some t → t ∈ ks) :
  ∃ O',Made R B w w' O O' ks (.ref d [] u (.list (xs ++ ys))) v := by
 obtain ⟨O',h1,_⟩ := app_made2 h htx hn hm hb hrun hxs hus hys hkd hkt hkx
 exact ⟨O',h1⟩

theorem all_get {f : D → Bool} {xs : List D} (h : xs.all f = true) (i : Nat) (hi : i < xs.length) : f xs[i] = true := List.all_eq_true.1 h _ (List.getElem_mem hi)

theorem vapp_sound (hτ : TyOk P τ) (h : St R B w0 N O σ a w) {o : Oper} {c : Call} (ho : o.op = .call c) (hc : c.callee = .builtin .append) {s x : Operand} {T : TypeId}
  (hargs : c.args.toList = [s,x]) (hT' : c.argTypes.toList = [T,T]) {d : Nat} {ks : List Nat} {y : VV} (hv : vapp τ d T (ev σ s) (ev σ x) = some (ks,y)) :
  Yld P R B O ks y (execOp a.eval o) w := by
 unfold vapp at hv
 split at hv <;> try cases hv
 rename_i e hT
 split at hv <;> try cases hv
 rename_i hzs
 split at hv <;> try cases hv
 rename_i ts us xs ys hs hx
 split at hv <;> try cases hv
 rename_i hlim
 obtain ⟨hlim,hone⟩ := hlim
 obtain ⟨zd,hzd⟩ := Option.isSome_iff_exists.1 hzs
 have hk := hτ T
 rw [hT] at hk
 obtain ⟨_,hu,_⟩ := hk
 obtain ⟨i,zval,i1,i2,i3,i4,i5,i6⟩ := TK.info (hτ e) hzd
 have e2 : c.args = #[s,x] := by rw [← Array.toArray_toList (xs := c.args),hargs]
 have e3 : c.argTypes = #[T,T] := by rw [← Array.toArray_toList (xs := c.argTypes),hT']
 obtain ⟨b,cap,co,hsv,hb,hparts⟩ := tree_list (rel_tmp h s hs)
 have hxr := rd_dat h (rel_ev h x) hx (ts := (ev σ x).toks) (fun t ht => ht)
 obtain ⟨xa,xc,cn,hxv,hxa,hxp⟩ := rd_list hxr
 obtain ⟨v,w',hrun,hap⟩ := app_run (P := P) (w := w) (ty := o.type) hu i1 (by simpa using i2) i4 (by rw [i5]; rfl) i3 b xs.length cap co
  (by
    rcases hb with hb | ⟨g,cur,E,h1,h2,h3⟩
    ·exact .inl hb
    ·exact .inr ⟨g,cur,E,h1,h3⟩) xa ys.length xc cn hxa (fun j hj => one_one (hxp j hj) (all_get hone j hj)) hlim
 have hexec : (execOp a.eval o).run P w = .ok (.value v) w' := by
  simp only [execOp,ho,resolve,hc,e2,e3]
  simp only [List.map_toArray,List.map_cons,List.map_nil,hsv,hxv]
  simp [invoke,builtin,hrun]
 have hb' : b = none ∨ ∃ g,b = some ⟨g,0,none⟩ ∧ O g = some (ts,[]) := by
  rcases hb with hb | ⟨g,cur,E,h1,h2,h3⟩
  ·exact .inl hb.1
  ·exact .inr ⟨g,h1,h2⟩
 split at hv
 ·rename_i hsc
  simp only [Option.some.injEq,Prod.mk.injEq] at hv
  obtain ⟨rfl,rfl⟩ := hv
  obtain ⟨O',hm⟩ := app_made h (d := d) (ts := ts) (tx := none) (ks := [d,ts]) (by simp) rfl rfl hb' hap hparts (fun hh => hh) (fun j hj => .inl ⟨all_get hsc j hj,_,hxp j hj⟩) (by simp) (by simp) (by simp)
  exact ⟨v,w',O',hexec,hm⟩
 ·split at hv
  ·rename_i tx ux zs hxe
   split at hv <;> simp only [Option.some.injEq,reduceCtorEq,Prod.mk.injEq] at hv
   rename_i hne
   obtain ⟨rfl,rfl⟩ := hv
   rw [hxe] at hx
   simp only [VV.dat,Option.some.injEq,D.list.injEq] at hx
   subst hx
   have hxt := rel_tmp h x hxe
   obtain ⟨b2,cap2,co2,hxv2,hb2,hparts2⟩ := tree_list hxt
   rw [hxv] at hxv2
   simp only [Value.slice.injEq] at hxv2
   obtain ⟨q1,_,q3⟩ := hxv2
   subst q1; subst q3
   have hcc : ∀ j,j < zs.length → cn j = co2 j := by
    intro j hj
    rcases hxa with h0 | ⟨gx,ox,cur,E,fr,r1,r2,r3⟩
    ·omega
    ·rcases hb2 with ⟨s1,_⟩ | ⟨g2,cur2,E2,s1,s2,s3,s4,s5,s6,s7⟩
     ·rw [s1] at r1; cases r1
     ·rw [s1] at r1
      simp only [Option.some.injEq,Addr.mk.injEq,and_true] at r1
      obtain ⟨rfl,rfl⟩ := r1
      rw [r2] at s3
      simp only [Option.some.injEq,Obj.cells.injEq] at s3
      obtain ⟨rfl,_⟩ := s3
      have t1 := r3 j hj
      have t2 := s7 j hj
      rw [Nat.zero_add] at t1
      rw [t1] at t2
      exact Option.some.inj t2
   cases us with
   | true =>
    cases ux with
    | true =>
     obtain ⟨O',hm⟩ := app_made h (d := d) (ts := ts) (tx := some tx) (u := true) (ks := [d,ts,tx]) (by simpa using hne) rfl rfl hb' hap hparts (fun hh => hh)
      (fun j hj => .inr (.inl ⟨tx,rfl,by rw [hcc j hj]; exact hparts2 j hj⟩)) (by simp) (by simp) (by simp)
     exact ⟨v,w',O',hexec,hm⟩
    | false =>
     obtain ⟨O',hm⟩ := app_made h (d := d) (ts := ts) (tx := none) (u := false) (ks := [d,ts]) (by simp) rfl rfl hb' hap hparts (fun hh => by cases hh)
      (fun j hj => .inr (.inr ⟨rfl,by rw [hcc j hj]; exact hparts2 j hj⟩)) (by simp) (by simp) (by simp)
     exact ⟨v,w',O',hexec,hm⟩
   | false =>
    cases ux with
    | true =>
     obtain ⟨O',hm⟩ := app_made h (d := d) (ts := ts) (tx := some tx) (u := false) (ks := [d,ts,tx]) (by simpa using hne) rfl rfl hb' hap hparts (fun hh => by cases hh)
      (fun j hj => .inr (.inl ⟨tx,rfl,by rw [hcc j hj]; exact hparts2 j hj⟩)) (by simp) (by simp) (by simp)
     exact ⟨v,w',O',hexec,hm⟩
    | false =>
     obtain ⟨O',hm⟩ := app_made h (d := d) (ts := ts) (tx := none) (u := false) (ks := [d,ts]) (by simp) rfl rfl hb' hap hparts (fun hh => by cases hh)
      (fun j hj => .inr (.inr ⟨rfl,by rw [hcc j hj]; exact hparts2 j hj⟩)) (by simp) (by simp) (by simp)
     exact ⟨v,w',O',hexec,hm⟩
  ·rename_i zz hxe
   simp only [Option.some.injEq,Prod.mk.injEq] at hv
   obtain ⟨rfl,rfl⟩ := hv
   rw [hxe] at hx hxr
   simp only [VV.dat,Option.some.injEq] at hx
   subst hx
   have hxr2 := rel_tmp h x hxe
   obtain ⟨xa2,xc2,cn2,hxv2,hxa2,hxp2⟩ := rd_list (hxr2 : Rd w (Fro R O w) _ _)
   have hcc : ∀ j,j < ys.length → cn j = cn2 j := by
    intro j hj
    rw [hxv] at hxv2
    simp only [Value.slice.injEq] at hxv2
    obtain ⟨q1,_,_⟩ := hxv2
    subst q1
    rcases hxa with h0 | ⟨gx,ox,cur,E,fr,r1,r2,r3⟩
    ·omega
    ·rcases hxa2 with h0 | ⟨gx2,ox2,cur2,E2,fr2,s1,s2,s3⟩
     ·omega
     ·rw [s1] at r1
      simp only [Option.some.injEq,Addr.mk.injEq,and_true] at r1
      obtain ⟨rfl,rfl⟩ := r1
      rw [r2] at s2
      simp only [Option.some.injEq,Obj.cells.injEq] at s2
      obtain ⟨rfl,_⟩ := s2
      exact Option.some.inj ((r3 j hj).symm.trans (s3 j hj))
   obtain ⟨O',hm⟩ := app_made h (d := d) (ts := ts) (tx := none) (u := false) (ks := [d,ts]) (by simp) rfl rfl hb' hap hparts (fun hh => by cases hh)
    (fun j hj => .inr (.inr ⟨rfl,by rw [hcc j hj]; exact hxp2 j hj⟩)) (by simp) (by simp) (by simp)
   exact ⟨v,w',O',hexec,hm⟩
  ·cases hv

/-! ### append(s, make(T, n)...) -/

def vappZ (τ : TypeId → TK) (d : Nat) (T T' : TypeId) (s x : VV) : Option (List Nat × VV) :=
 match τ T,τ T',s,x with
 | .sl e,.int .i64,.ref ts [] us (.list xs),.val (.int .i64 n) =>
  match (τ e).zd with
  | some z => if z.sc = true ∧ 0 ≤ n ∧ xs.length + n.toNat ≤ 1099511627776 then some ([d,ts],.ref d [] us (.list (xs ++ List.replicate n.toNat z))) else none
  | none => none
 | _,_,_,_ => none

theorem zeroCells_one {z : Array Value} {u : Value} (hz : z = #[u]) (m : Nat) : (Builtin.zeroCells z m).toList = List.replicate m u := by
 subst hz
 apply List.ext_getElem
 ·simp [Builtin.zeroCells]
 ·intro i h1 h2
  simp [Builtin.zeroCells,Nat.mod_one]

theorem appZ_run {T T' ty e : TypeId} {i : TypeInfo} {z u : Value} {kn : IntKind} (hu : P.underlying T = some (.slice e)) (hu' : P.underlying T' = some (.int kn)) (hi : P.info? e = some i) (hs : i.size = 1) (hz : i.zero = some z)
  (hzc : z.cells = #[u]) (hone : u.oneCell' = true) (hby : i.bytes ≤ 64)
  (b : Option Addr) (n cap : Nat) (co : Nat → Value) (hb : (b = none ∧ n = 0 ∧ cap = 0) ∨ ∃ g cur E,b = some ⟨g,0,none⟩ ∧ w.heap[g]? = some (.cells cur E (0,0)) ∧ cur.size = cap ∧ n ≤ cap ∧ cap ≤ maxLen ∧ ∀ i,i < n → cur[i]? = some (co i))
  (m : Nat) (hlim : n + m ≤ 1099511627776) :
  ∃ v w',(Builtin.append_ #[T,T'] ty #[.slice b n cap,.int .i64 (m : Int)]).run P w = .ok v w' ∧ AppRun w w' (b.map (·.block)) n m co (fun _ => u) v := by
 have hwm : IntKind.i64.wrap (m : Int) = m := by rw [IntKind.wrap_i64]; omega
 have hneg : ¬ ((m : Int) < 0) := by omega
 have hbig : ¬ (281474976710656 < (m : Int) * (i.bytes : Int)) := by
  rw [← Int.natCast_mul]
  have := Nat.mul_le_mul (show m ≤ 1099511627776 by omega) hby
  omega
 have hold : (∃ olds : List Value,olds.length = n ∧ (∀ j,j < n → olds[j]? = some (co j)) ∧ (Builtin.firstCells i.size n (.slice b n cap)).run P w.drew = .ok olds.toArray w.drew) := by
  rcases hb with ⟨rfl,rfl,rfl⟩ | ⟨g,cur,E,rfl,hg,hc,hnc,hcm,hold⟩
  ·exact ⟨[],rfl,fun j hj => absurd hj (Nat.not_lt_zero _),run_firstCells_none w.drew i.size 0 0 0⟩
  ·refine ⟨(List.range n).map co,by simp,fun j hj => by simp [hj],?_⟩
   have hg' : w.drew.heap[g]? = some (.cells cur E (0,0)) := hg
   have := run_firstCells_some (P := P) w.drew i.size n ⟨g,0,none⟩ n cap ((List.range n).map co) (by simp [hs]) (fun j v hju => by
      obtain ⟨hj,rfl⟩ := list_news n co j v hju
      have hadd : (⟨g,0,none⟩ : Addr).add j = ⟨g,j,none⟩ := by unfold Addr.add; split <;> simp_all
      rw [hadd,cell_of_row w.drew g _ _ _ _ hg',hold j hj])
   simpa using this
 by_cases hroom : n + m ≤ cap
 ·rcases hb with ⟨rfl,rfl,rfl⟩ | ⟨g,cur,E,rfl,hg,hc,hnc,hcm,hold⟩
  ·have hm0 : m = 0 := by omega
   subst hm0
   refine ⟨.slice none 0 0,w,?_,rfl,rfl,rfl,Nat.le_refl _,fun _ _ _ => rfl,.inl ⟨rfl,rfl,rfl⟩⟩
   simp [Builtin.append_,run_underlying hu,run_underlying hu',sizeOf,typeInfo,hi,asInt,asIntOf,show IntKind.i64.wrap 0 = 0 from by rw [IntKind.wrap_i64]; omega]
  ·have hst := run_storeCells_at P g n E (List.replicate m u) 0 cur w hg (by simp; omega) (fun x hx => by rw [List.eq_of_mem_replicate hx]; exact hone)
   simp only [Nat.add_zero,List.length_replicate] at hst
   have hrun : (Builtin.append_ #[T,T'] ty #[.slice (some ⟨g,0,none⟩) n cap,.int .i64 (m : Int)]).run P w = .ok (.slice (some ⟨g,0,none⟩) (n + m) cap) (w.setRow g (cur.toList.take n ++ List.replicate m u ++ cur.toList.drop (n + m)).toArray) := by
    rcases Nat.eq_zero_or_pos m with rfl | hm
    ·simp only [List.replicate_zero,List.append_nil,Nat.add_zero,List.take_append_drop,Array.toArray_toList]
     rw [setRow_self w g cur E (0,0) hg]
     simp [Builtin.append_,run_underlying hu,run_underlying hu',sizeOf,typeInfo,hi,asInt,asIntOf,show IntKind.i64.wrap 0 = 0 from by rw [IntKind.wrap_i64]; omega,hnc,storeCells]
    ·have hm0 : m ≠ 0 := by omega
     simp [Builtin.append_,run_underlying hu,run_underlying hu',sizeOf,typeInfo,hi,hs,asInt,asIntOf,hwm,hneg,hbig,hm0,zeroValue,hz,hroom,zeroCells_one hzc,Addr.add_lit,hst]
   have htl : (cur.toList.take n).length = n := by simp; omega
   refine ⟨_,_,hrun,rfl,rfl,rfl,by simp,fun k hk hne => setRow_other w g k _ (fun e => hne (by simp [e])),.inr ⟨g,cap,_,E,rfl,.inl rfl,setRow_heap w g cur _ E _ hg,hroom,hcm,?_,fun j hj => ?_,fun j hj => ?_⟩⟩
   ·simp; omega
   ·simp only [List.getElem?_toArray,List.append_assoc]
    rw [List.getElem?_append_left (by omega),List.getElem?_take_of_lt hj]
    simpa using hold j hj
   ·simp only [List.getElem?_toArray,List.append_assoc]
    rw [List.getElem?_append_right (by omega),htl,Nat.add_sub_cancel_left,List.getElem?_append_left (by simpa using hj)]
    simp [hj]
 ·obtain ⟨olds,ho1,ho2,ho3⟩ := hold
  have hm0 : 0 < m := by rcases hb with ⟨_,h1,h2⟩ | ⟨_,_,_,_,_,_,h,_⟩ <;> omega
  have hbm := Nat.mul_le_mul hlim hby
  have hr := Lib.run_append_grow_zeros (P := P) w T T' ty e i z .i64 kn hu hu' hi hz b n cap olds ho3 m hm0 (by omega) (by omega) (by omega)
   (by have := Nat.mul_le_mul (show m ≤ 1099511627776 by omega) hby; omega) (growslice_fits (by omega) (by omega))
  have hge := grownCap_ge w (n + m) cap e
  have hle : grownCap w (n + m) cap e ≤ maxLen := grownCap_le_maxLen w (n + m) cap e (by simp only [maxLen]; omega)
  have hz1 : z.cells.size = 1 := by rw [hzc]; rfl
  refine ⟨_,_,hr,rfl,rfl,rfl,by simp,fun k hk _ => by rw [heap_alloc_old w.drew _ (by simpa using hk)]; rfl,.inr ⟨w.heap.size,_,_,e,rfl,.inr rfl,heap_alloc_new w.drew _,hge,hle,?_,fun j hj => ?_,fun j hj => ?_⟩⟩
  ·simp [size_zeroCells,hz1,ho1]; omega
  ·rw [← Array.getElem?_toList]
   simp only [Array.toList_append,List.append_assoc]
   rw [List.getElem?_append_left (by simpa [ho1] using hj)]
   simpa using ho2 j hj
  ·rw [← Array.getElem?_toList]
   simp only [Array.toList_append,List.append_assoc,zeroCells_one hzc]
   rw [List.getElem?_append_right (by simp [ho1]),List.getElem?_append_left (by simp [ho1]; omega)]
   simp [ho1,hj]

theorem vappZ_sound (hτ : TyOk P τ) (h : St R B w0 N O σ a w) {o : Oper} {c : Call} (ho : o.op = .call c) (hc : c.callee = .builtin .append) {s x : Operand} {T T' : TypeId}
  (hargs : c.args.toList = [s,x]) (hT' : c.argTypes.toList = [T,T']) {d : Nat} {ks : List Nat} {y : VV} (hv : vappZ τ d T T' (ev σ s) (ev σ x) = some (ks,y)) :
  Yld P R B O ks y (execOp a.eval o) w := by
 unfold vappZ at hv
 split at hv <;> try cases hv
 rename_i e ts us xs n hT hTT hs hx
 split at hv <;> try cases hv
 rename_i zd hzd
 split at hv <;> simp only [Option.some.injEq,reduceCtorEq,Prod.mk.injEq] at hv
 rename_i hcond
 obtain ⟨hsc,hn0,hlim⟩ := hcond
 obtain ⟨rfl,rfl⟩ := hv
 have hk := hτ T
 rw [hT] at hk
 obtain ⟨_,hu,_⟩ := hk
 have hk' := hτ T'
 rw [hTT] at hk'
 obtain ⟨_,hu'⟩ := hk'
 obtain ⟨i,zval,i1,i2,i3,i4,i5,i6⟩ := TK.info (hτ e) hzd
 have hzero : zd.zero = true := by simpa using i6
 have hrz : ∀ S,Rd w S (zv zd) zd := fun S => (zv_own zd hzero (fun _ => none) w 0 []).rd (by simp)
 have hone : (zv zd).oneCell' = true := one_one (hrz (fun _ => True)) (by cases zd <;> simp [D.sc] at hsc <;> rfl)
 have e2 : c.args = #[s,x] := by rw [← Array.toArray_toList (xs := c.args),hargs]
 have e3 : c.argTypes = #[T,T'] := by rw [← Array.toArray_toList (xs := c.argTypes),hT']
 obtain ⟨b,cap,co,hsv,hb,hparts⟩ := tree_list (rel_tmp h s hs)
 have hxv : a.eval x = .int .i64 n := by
  have := rel_tmp h x hx
  generalize a.eval x = xv at this
  cases (this : Rd w (Fro R O w) _ _) with
  | int k n => rfl
 obtain ⟨m,rfl⟩ := Int.eq_ofNat_of_zero_le hn0
 simp only [Int.toNat_natCast] at hlim ⊢
 obtain ⟨v,w',hrun,hap⟩ := appZ_run (P := P) (w := w) (ty := o.type) hu hu' i1 (by simpa using i2) i4 (u := zv zd) (by simpa using i5) hone (by simpa using i3) b xs.length cap co
  (by
    rcases hb with hb | ⟨g,cur,E,h1,h2,h3⟩
    ·exact .inl hb
    ·exact .inr ⟨g,cur,E,h1,h3⟩) m hlim
 have hexec : (execOp a.eval o).run P w = .ok (.value v) w' := by
  simp only [execOp,ho,resolve,hc,e2,e3]
  simp only [List.map_toArray,List.map_cons,List.map_nil,hsv,hxv]
  simp [invoke,builtin,hrun]
 have hb' : b = none ∨ ∃ g,b = some ⟨g,0,none⟩ ∧ O g = some (ts,[]) := by
  rcases hb with hb | ⟨g,cur,E,h1,h2,h3⟩
  ·exact .inl hb.1
  ·exact .inr ⟨g,h1,h2⟩
 obtain ⟨O',hm⟩ := app_made h (d := d) (ts := ts) (tx := none) (ks := [d,ts]) (by simp) rfl (List.length_replicate (n := m) (a := zd)) hb' hap hparts (fun hh => hh)
  (fun j hj => .inl ⟨by simpa using hsc,fun _ => True,by simpa using hrz _⟩) (by simp) (by simp) (by simp)
 exact ⟨v,w',O',hexec,hm⟩

end
end Go.Vam
