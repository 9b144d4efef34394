/- The calm operations that make memory. -/
import Derived.Test.YtalfgfpgenlokaaVamE
namespace Go.Vam
open Go Go.RowKit

section
variable {P : Program} {τ : TypeId → TK} {Φ : Orc} {R : Nat → Prop} {B : Nat → Prop} {w0 : W0} {N : Lim} {O : Own} {σ : Frm} {a : Act} {w : World}

theorem one_cells {S : Nat → Prop} {v : Value} {d : D} (h : Rd w S v d) (ho : d.one = true) : v.cells = #[v] := by
 cases h <;> first | rfl | (simp [D.one] at ho)

def CellsRel (S : Nat → Prop) (w : World) (cs : Array Value) (xs : List D) : Prop :=
 cs.size = xs.length ∧ ∀ i (h : i < xs.length),∃ v,cs[i]? = some v ∧ Rd w S v xs[i]

theorem CellsRel.set {S : Nat → Prop} {cs : Array Value} {xs : List D} (h : CellsRel S w cs xs) (i : Nat) {v : Value} {d : D} (hr : Rd w S v d) : CellsRel S w (cs.setIfInBounds i v) (xs.set i d) := by
 refine ⟨by simp [h.1],fun j hj => ?_⟩
 have hj' : j < xs.length := by simpa using hj
 by_cases e : i = j
 ·subst e
  exact ⟨v,by simp [h.1,hj'],by simpa using hr⟩
 ·obtain ⟨u,h1,h2⟩ := h.2 j hj'
  exact ⟨u,by rw [Array.getElem?_setIfInBounds_ne e]; exact h1,by rw [List.getElem_set_ne e]; exact h2⟩

theorem fill_rel {S : Nat → Prop} (place : Nat → Option (Nat × Nat)) (n : Nat) (hp : ∀ i,i < n → place i = some (i,1)) :
  ∀ (parts : List (Nat × Value)) (ds : List D) (cs : Array Value) (zs : List D),zs.length = n → CellsRel S w cs zs → parts.length = ds.length →
   (∀ j (h : j < ds.length),∃ p,parts[j]? = some p ∧ p.1 < n ∧ Rd w S p.2 ds[j] ∧ ds[j].one = true) →
   ∃ cs',Instr.fill place cs parts = some cs' ∧ CellsRel S w cs' (setAll zs ((parts.map (·.1)).zip ds))
 | [],ds,cs,zs,_,h2,h3,_ => ⟨cs,rfl,by simpa [setAll] using h2⟩
 | (i,v) :: r,[],cs,zs,_,_,h3,_ => by simp at h3
 | (i,v) :: r,d :: ds,cs,zs,h1,h2,h3,h4 => by
  obtain ⟨p,e1,e2,e3,e4⟩ := h4 0 (by simp)
  simp only [List.getElem?_cons_zero,Option.some.injEq] at e1
  subst e1
  have e5 := one_cells e3 e4
  obtain ⟨cs',f1,f2⟩ := fill_rel place n hp r ds (cs.setIfInBounds i v) (zs.set i d) (by simpa using h1) (h2.set i e3) (by simpa using h3) fun j hj => by
   obtain ⟨p,g1,g2⟩ := h4 (j + 1) (by simpa using hj)
   exact ⟨p,by simpa using g1,by simpa using g2⟩
  refine ⟨cs',?_,?_⟩
  ·have hsz : ¬ (i + 1 > cs.size) := by have := h2.1; simp only at e2; omega
   simp only [Instr.fill,hp i e2,e5]
   simp only [List.size_toArray,List.length_cons,List.length_nil,Nat.zero_add,ne_eq]
   simp [hsz]
   simpa using f1
  ·simpa [setAll] using f2

theorem vals_len {xs : List Operand} {ds : List D} (h : vals σ xs = some ds) : xs.length = ds.length := by
 induction xs generalizing ds with
 | nil => simp only [vals,Option.some.injEq] at h; subst h; rfl
 | cons x r ih =>
  simp only [vals] at h
  split at h
  ·rename_i d ds' h1 h2
   simp only [Option.some.injEq] at h; subst h
   simp [ih h2]
  ·cases h

theorem parts_rel (h : St R B w0 N O σ a w) (parts : Array (Nat × Operand)) (n : Nat) (ds : List D) (hv : vals σ (parts.toList.map (·.2)) = some ds)
  (hi : ∀ i ∈ parts.toList.map (·.1),i < n) (ho : ds.all D.one = true) :
  (parts.map (fun (i,x) => (i,a.eval x))).toList.length = ds.length ∧
  (parts.map (fun (i,x) => (i,a.eval x))).toList.map (·.1) = parts.toList.map (·.1) ∧
  ∀ j (hj : j < ds.length),∃ p,(parts.map (fun (i,x) => (i,a.eval x))).toList[j]? = some p ∧ p.1 < n ∧ Rd w (Fro R O w) p.2 ds[j] ∧ ds[j].one = true := by
 obtain ⟨h1,h2⟩ := vals_rd h _ _ hv
 simp only [List.length_map] at h1
 refine ⟨by simp [← h1],by simp,fun j hj => ?_⟩
 obtain ⟨v,h3,h4⟩ := h2 j hj
 have hj2 : j < parts.toList.length := by omega
 have hp : parts.toList[j]? = some parts.toList[j] := List.getElem?_eq_getElem hj2
 refine ⟨(parts.toList[j].1,a.eval parts.toList[j].2),?_,?_,?_,?_⟩
 ·simp only [Array.toList_map,List.getElem?_map,hp,Option.map_some]
 ·exact hi _ (List.mem_map.2 ⟨_,List.getElem_mem hj2,rfl⟩)
 ·simp only [List.getElem?_map,hp,Option.map_some,Option.some.injEq] at h3
  subst h3; exact h4
 ·exact List.all_eq_true.1 ho _ (List.getElem_mem hj)

theorem zcells_rel {zs : List D} (hz : zs.all D.zero = true) (S : Nat → Prop) : CellsRel S w (zs.map zv).toArray zs := by
 refine ⟨by simp,fun i hi => ⟨zv zs[i],by simp [hi],?_⟩⟩
 exact (zv_own zs[i] (List.all_eq_true.1 hz _ (List.getElem_mem hi)) (fun _ => none) w 0 []).rd (by simp)

theorem setAll_range : ∀ (ds pre : List D) (zs : List D),zs.length = ds.length → setAll (pre ++ zs) (((List.range' pre.length ds.length)).zip ds) = pre ++ ds
 | [],pre,zs,h => by
  have : zs = [] := List.eq_nil_of_length_eq_zero (by simpa using h)
  subst this; simp [setAll]
 | d :: ds,pre,[],h => by simp at h
 | d :: ds,pre,z :: zs,h => by
  have ih := setAll_range ds (pre ++ [d]) zs (by simpa using h)
  simp only [List.length_cons,List.range'_succ,List.zip_cons_cons,setAll]
  have : (pre ++ z :: zs).set pre.length d = (pre ++ [d]) ++ zs := by simp
  rw [this]
  have e : pre.length + 1 = (pre ++ [d]).length := by simp
  rw [e,ih]
  simp

theorem tree_of_cells {O' : Own} {w' : World} {g : Nat} {cs : Array Value} {E : TypeId} {xs : List D} {d : Nat} (hc : CellsRel (Fro R O w) w cs xs)
  (hO : O' g = some (d,[])) (hg : w'.heap[g]? = some (.cells cs E (0,0))) (hs : w.heap.size ≤ w'.heap.size) (hk : ∀ b,b < w.heap.size → O b = none → O' b = none ∧ w'.heap[b]? = w.heap[b]?)
  (hm : cs.size ≤ maxLen) :
  Tree R w' O' d [] (xs.all D.sc) (.slice (some ⟨g,0,none⟩) xs.length xs.length) (.list xs) := by
 have hf : ∀ i (h : i < xs.length),cs[i]? = some (cs.getD i undef) ∧ Rd w (Fro R O w) (cs.getD i undef) xs[i] := by
  intro i hi
  obtain ⟨v,h1,h2⟩ := hc.2 i hi
  have : cs.getD i undef = v := by simp [Array.getD_eq_getD_getElem?,h1]
  rw [this]; exact ⟨h1,h2⟩
 cases ha : xs.all D.sc with
 | true =>
  exact OwnU.list [] g xs.length cs E xs (fun i => cs.getD i undef) hO hg (Nat.le_refl _) (by rw [← hc.1]; exact hm) hc.1 (fun i hi => (hf i hi).1)
   fun i hi => sc_own (List.all_eq_true.1 ha _ (List.getElem_mem hi)) (hf i hi).2 _ _ _ _
 | false =>
  exact OwnF.list g xs.length cs E xs (fun i => cs.getD i undef) hO hg (Nat.le_refl _) (by rw [← hc.1]; exact hm) hc.1 (fun i hi => (hf i hi).1)
   fun i hi => (hf i hi).2.keep (fun b hb => ⟨(hk b hb.2.1 hb.1).1,Nat.lt_of_lt_of_le hb.2.1 hs,hb.2.2⟩) fun b hb => (hk b hb.2.1 hb.1).2

theorem sound_makeFunc (h : St R B w0 N O σ a w) {o : Oper} {f : FuncId} {first caps : Array Operand} (ho : o.op = .makeFunc (.func f) first caps) {d : Nat} {ks : List Nat} {z : VV}
  (hv : vres τ Φ d (.makeFunc (.func f) first caps) σ = some (ks,z)) : Yld P R B O ks z (execOp a.eval o) w := by
 simp only [vres] at hv
 split at hv <;> try cases hv
 rename_i h0
 obtain ⟨ds,h5,h6⟩ := map_some hv
 simp only [Prod.mk.injEq] at h6
 obtain ⟨rfl,rfl⟩ := h6
 obtain ⟨h1,h2⟩ := vals_rd h _ _ h5
 have e0 : first = #[] := Array.eq_empty_of_size_eq_zero h0
 refine yld_quiet h (v := .func (.func f) #[] (caps.map a.eval)) ?_ ?_
 ·simp [execOp,ho,e0,Instr.makeFunc]
 ·refine Rd.fn f (caps.map a.eval) ds (fun i => (caps.map a.eval).getD i undef) (by simp [← h1]) (fun i hi => ?_) fun i hi => ?_
  ·obtain ⟨v,h3,_⟩ := h2 i hi
   have : (caps.map a.eval)[i]? = some v := by simpa using h3
   simp only [Array.getD_eq_getD_getElem?,this,Option.getD_some]
  ·obtain ⟨v,h3,h4⟩ := h2 i hi
   have : (caps.map a.eval)[i]? = some v := by simpa using h3
   simp only [Array.getD_eq_getD_getElem?,this,Option.getD_some]
   exact h4

theorem run_buildSlice {T e : TypeId} {i : TypeInfo} {z : Value} (hu : P.underlying T = some (.slice e)) (hi : P.info? e = some i) (hs : i.size = 1) (hz : i.zero = some z)
  (n : Nat) (hn : n ≤ 1000) (parts : Array (Nat × Value)) (cs : Array Value) (hf : Instr.fill (fun i => some (i * 1,1)) (madeCells z.cells n) parts.toList = some cs) :
  (Instr.buildSlice T n parts).run P w = .ok (.slice (some ⟨w.heap.size,0,none⟩) n n) (w.alloc (.cells cs e)) := by
 have hn2 : ¬ (n * 1 > 2 ^ 24) := by omega
 have hn3 : ¬ (16777216 < n) := by omega
 by_cases h0 : n = 0
 ·subst h0
  have hf' : Instr.fill (fun i => some (i,1)) #[] parts.toList = some cs := by simpa [madeCells,Array.range_zero'] using hf
  simp [Instr.buildSlice,run_underlying hu,sizeOf,typeInfo,hi,hs,Array.range_zero',hf',newRow]
 ·have hf' : Instr.fill (fun i => some (i,1)) ((Array.range n).map fun x => z.cells[x % z.cells.size]!) parts.toList = some cs := by simpa [madeCells] using hf
  simp [Instr.buildSlice,run_underlying hu,sizeOf,typeInfo,hi,hs,zeroValue,hz,hn3,h0,hf',newRow]

theorem made_rel {z : Value} {zd : D} (hz : z.cells = #[zv zd]) (h0 : zd.zero = true) (n : Nat) (S : Nat → Prop) : CellsRel S w (madeCells z.cells n) (List.replicate n zd) := by
 refine ⟨by simp [size_madeCells],fun i hi => ?_⟩
 simp only [List.length_replicate] at hi
 refine ⟨zv zd,?_,?_⟩
 ·rw [← Array.getElem?_toList,hz,toList_madeCells_one]
  simp [hi]
 ·simp only [List.getElem_replicate]
  exact (zv_own zd h0 (fun _ => none) w 0 []).rd (by simp)

theorem sound_makeSlice (hτ : TyOk P τ) (h : St R B w0 N O σ a w) {o : Oper} {T : TypeId} {l c : Operand} (ho : o.op = .makeSlice T l c) {d : Nat} {ks : List Nat} {z : VV}
  (hv : vres τ Φ d (.makeSlice T l c) σ = some (ks,z)) : Yld P R B O ks z (execOp a.eval o) w := by
 simp only [vres] at hv
 split at hv <;> try cases hv
 rename_i e n m hT hl hc
 split at hv <;> try cases hv
 rename_i hnm
 obtain ⟨zd,h5,h6⟩ := map_some hv
 simp only [Prod.mk.injEq] at h6
 obtain ⟨rfl,rfl⟩ := h6
 obtain ⟨h1,h2,h3⟩ := hnm
 subst h1
 obtain ⟨k1,hk1⟩ := int_rel (rel_ev h l) hl
 obtain ⟨k2,hk2⟩ := int_rel (rel_ev h c) hc
 have hk := hτ T
 rw [hT] at hk
 obtain ⟨_,hu,_⟩ := hk
 obtain ⟨i,zval,i1,i2,i3,i4,i5,i6⟩ := TK.info (hτ e) h5
 have hz0 : zd.zero = true := by simpa using i6
 have i3' : i.bytes ≤ 64 := i3
 have hrun := run_make (P := P) w T e i zval hu i1 i4 k1 k2 n n h2 (Int.le_refl _) (by
                                            have : (i.bytes : Int) ≤ 64 := by omega
                                            have := Int.mul_le_mul this h3 h2 (by omega); omega) (by omega)
 have hc' : CellsRel (Fro R O w) w (madeCells zval.cells (n.toNat * i.size)) (List.replicate n.toNat zd) := by
  rw [i2]; simpa using made_rel (w := w) (by simpa using i5) hz0 n.toNat _
 have hall : (List.replicate n.toNat zd).all D.sc = true ∨ zd.sc = false := by
  cases hsc : zd.sc with
  | false => exact .inr rfl
  | true => left; simp [List.all_replicate,hsc]
 obtain ⟨O',hm⟩ := Made.new h d (madeCells zval.cells (n.toNat * i.size)) e true (.list (List.replicate n.toNat zd)) (.slice (some ⟨w.heap.size,0,none⟩) n.toNat n.toNat)
  (w.alloc (.cells (madeCells zval.cells (n.toNat * i.size)) e)) rfl rfl rfl rfl (fun O' hO hN => by
   have hlen : (List.replicate n.toNat zd).length = n.toNat := by simp
   have := OwnU.list (w := w.alloc (.cells (madeCells zval.cells (n.toNat * i.size)) e)) (O := O') (t := d) [] w.heap.size n.toNat (madeCells zval.cells (n.toNat * i.size)) e (List.replicate n.toNat zd) (fun _ => zv zd) hO
    (heap_alloc_new w _) (by simp) (by simp only [maxLen]; omega) (by rw [hc'.1,hlen]) (fun j hj => by
     obtain ⟨v,e1,e2⟩ := hc'.2 j hj
     rw [← Array.getElem?_toList,i5,i2]
     simp only [List.map_cons,List.map_nil,List.length_cons,List.length_nil,Nat.zero_add,Nat.mul_one,toList_madeCells_one]
     simp at hj
     simp [hj]) fun j hj => by
     simp only [List.getElem_replicate]
     exact zv_own zd hz0 _ _ _ _
   rwa [hlen] at this)
 refine ⟨_,_,O',?_,hm⟩
 simp only [execOp,ho,hk1,hk2]
 exact run_v hrun

theorem sound_buildSlice1 (hτ : TyOk P τ) (h : St R B w0 N O σ a w) {o : Oper} {T : TypeId} {n : Nat} {parts : Array (Nat × Operand)} (ho : o.op = .buildSlice T n parts) {d : Nat} {ks : List Nat} {z : VV} {e : TypeId} (hT : τ T = .sl e)
  (hv : vres τ Φ d (.buildSlice T n parts) σ = some (ks,z)) : Yld P R B O ks z (execOp a.eval o) w := by
 simp only [vres,hT] at hv
 split at hv <;> try cases hv
 rename_i hc
 split at hv <;> try cases hv
 rename_i ds hds
 split at hv <;> try cases hv
 rename_i hone
 obtain ⟨hidx,hn,hzs⟩ := hc
 obtain ⟨zd,hzd⟩ := Option.isSome_iff_exists.1 hzs
 have hk := hτ T
 rw [hT] at hk
 obtain ⟨_,hu,_⟩ := hk
 obtain ⟨i,zval,i1,i2,i3,i4,i5,i6⟩ := TK.info (hτ e) hzd
 have hz0 : zd.zero = true := by simpa using i6
 have i5' : zval.cells = #[zv zd] := by simpa using i5
 have hlen : ds.length = n := by
  have := congrArg List.length hidx
  simp at this
  rw [← vals_len hds]; simp [this]
 obtain ⟨p1,p2,p3⟩ := parts_rel h parts n ds hds (fun j hj => by rw [hidx] at hj; exact List.mem_range.1 hj) hone
 obtain ⟨cs,f1,f2⟩ := fill_rel (w := w) (S := Fro R O w) (fun i => some (i * 1,1)) n (fun j _ => by simp) _ ds _ (List.replicate n zd) (by simp) (made_rel (w := w) i5' hz0 n _) p1 p3
 have hrun := run_buildSlice (w := w) hu i1 (by simpa using i2) i4 n hn _ cs f1
 have f3 : setAll (List.replicate n zd) (((parts.map (fun (i,x) => (i,a.eval x))).toList.map (·.1)).zip ds) = ds := by
  rw [p2,hidx,List.range_eq_range',← hlen]
  exact setAll_range ds [] (List.replicate ds.length zd) (by simp)
 rw [f3] at f2
 obtain ⟨O',hm⟩ := Made.new h d cs e (ds.all D.sc) (.list ds) (.slice (some ⟨w.heap.size,0,none⟩) n n) (w.alloc (.cells cs e)) rfl rfl rfl rfl (fun O' hO hN => by
  have := tree_of_cells (w' := w.alloc (.cells cs e)) (E := e) (d := d) f2 hO (heap_alloc_new w _) (by simp) (fun b hb hn => ⟨hN b hb hn,_root_.Go.heap_alloc_old w _ hb⟩) (by rw [f2.1,hlen]; simp only [maxLen]; omega)
  rwa [hlen] at this)
 refine ⟨_,_,O',?_,hm⟩
 simp only [execOp,ho]
 exact run_v hrun


/-! ### Slices of structs -/

theorem writeS : ∀ (l : List Value) (s off : Nat) (cs : Array Value),off + s + l.length ≤ cs.size →
  ((l.zipIdx s).foldl (fun cs (c,j) => cs.setIfInBounds (off + j) c) cs).size = cs.size ∧
  ∀ k,((l.zipIdx s).foldl (fun cs (c,j) => cs.setIfInBounds (off + j) c) cs)[k]? = if off + s ≤ k ∧ k < off + s + l.length then l[k - (off + s)]? else cs[k]?
 | [],s,off,cs,h => by
  refine ⟨rfl,fun k => ?_⟩
  rw [if_neg (by simp only [List.length_nil]; omega)]
  rfl
 | v :: l,s,off,cs,h => by
  have h' : off + (s + 1) + l.length ≤ (cs.setIfInBounds (off + s) v).size := by simp at h ⊢; omega
  obtain ⟨a1,a2⟩ := writeS l (s + 1) off (cs.setIfInBounds (off + s) v) h'
  simp only [List.zipIdx_cons,List.foldl_cons]
  refine ⟨by rw [a1]; simp,fun k => ?_⟩
  rw [a2 k]
  simp only [List.length_cons] at h ⊢
  by_cases h1 : off + (s + 1) ≤ k ∧ k < off + (s + 1) + l.length
  ·rw [if_pos h1,if_pos (by omega)]
   have e : k - (off + s) = (k - (off + (s + 1))) + 1 := by omega
   rw [e,List.getElem?_cons_succ]
  ·rw [if_neg h1]
   by_cases h2 : k = off + s
   ·subst h2
    rw [if_pos (by omega),Nat.sub_self,Array.getElem?_setIfInBounds_self_of_lt (by omega)]
    rfl
   ·rw [if_neg (by omega)]
    rw [Array.getElem?_setIfInBounds_ne (by omega)]

theorem writeA (v : Array Value) (off : Nat) (cs : Array Value) (h : off + v.size ≤ cs.size) :
  (v.zipIdx.foldl (fun cs (c,j) => cs.setIfInBounds (off + j) c) cs).size = cs.size ∧
  ∀ k,(v.zipIdx.foldl (fun cs (c,j) => cs.setIfInBounds (off + j) c) cs)[k]? = if off ≤ k ∧ k < off + v.size then v[k - off]? else cs[k]? := by
 have := writeS v.toList 0 off cs (by simpa using h)
 rw [← Array.foldl_toList,Array.toList_zipIdx]
 simpa using this

theorem fillS (n m : Nat) : ∀ (parts : List (Nat × Value)) (s : Nat) (cs : Array Value),s + parts.length ≤ n → cs.size = n * m →
  (∀ j (h : j < parts.length),parts[j].1 = s + j ∧ parts[j].2.cells.size = m) →
  ∃ cs',Instr.fill (fun i => some (i * m,m)) cs parts = some cs' ∧ cs'.size = n * m ∧ (∀ k,k < s * m → cs'[k]? = cs[k]?) ∧
   ∀ i (h : i < parts.length) k,k < m → cs'[(s + i) * m + k]? = parts[i].2.cells[k]?
 | [],s,cs,_,h2,_ => ⟨cs,rfl,h2,fun _ _ => rfl,fun i h => absurd h (by simp)⟩
 | (p,v) :: r,s,cs,h1,h2,h3 => by
  have h0 := h3 0 (by simp)
  simp only [List.getElem_cons_zero,Nat.add_zero] at h0
  obtain ⟨rfl,hsz⟩ := h0
  simp only [List.length_cons] at h1
  have hle : (p + 1) * m ≤ n * m := Nat.mul_le_mul_right _ (by omega)
  rw [Nat.add_mul,Nat.one_mul] at hle
  obtain ⟨w1,w2⟩ := writeA v.cells (p * m) cs (by rw [hsz,h2]; exact hle)
  obtain ⟨cs',f1,f2,f3,f4⟩ := fillS n m r (p + 1) _ (by omega) (w1.trans h2) fun j hj => by
   have := h3 (j + 1) (by simp; omega)
   simp only [List.getElem_cons_succ] at this
   exact ⟨by rw [this.1]; omega,this.2⟩
  refine ⟨cs',?_,f2,fun k hk => ?_,fun i hi k hk => ?_⟩
  ·simp only [Instr.fill]
   rw [if_neg]
   ·exact f1
   ·simp only [Bool.or_eq_true,decide_eq_true_eq,not_or,Nat.not_lt]
    exact ⟨by simpa using hsz,by rw [hsz,h2]; exact hle⟩
  ·rw [f3 k (by rw [Nat.add_mul]; omega),w2 k,if_neg (by omega)]
  ·cases i with
   | zero =>
    simp only [Nat.add_zero,List.getElem_cons_zero]
    rw [f3 _ (by rw [Nat.add_mul]; omega),w2 _,if_pos (by omega)]
    congr 1; omega
   | succ i =>
    simp only [List.getElem_cons_succ]
    have := f4 i (by simpa using hi) k hk
    rw [show p + (i + 1) = p + 1 + i by omega]
    exact this

theorem yld_frozen (h : St R B w0 N O σ a w) {s : Sem Next} {cs : Array Value} {E : TypeId} {v : Value} {x : D} (hs : s.run P w = .ok (.value v) (w.alloc (.cells cs E)))
  (hr : (∀ u d,Rd w (Fro R O w) u d → Rd (w.alloc (.cells cs E)) (Fro R O (w.alloc (.cells cs E))) u d) → Fro R O (w.alloc (.cells cs E)) w.heap.size →
   Rd (w.alloc (.cells cs E)) (Fro R O (w.alloc (.cells cs E))) v x) : Yld P R B O [] (.val x) s w := by
 have k : Keeps w (w.alloc (.cells cs E)) O O (fun _ => False) := ⟨by simp,fun g hg hn => ⟨hn,_root_.Go.heap_alloc_old w _ hg⟩,fun g t p hg _ => ⟨hg,_root_.Go.heap_alloc_old w _ (h.own g _ hg).2⟩⟩
 have hfresh : O w.heap.size = none := by
  cases hO : O w.heap.size with
  | none => rfl
  | some y => exact absurd (h.own _ _ hO).2 (Nat.lt_irrefl _)
 refine ⟨v,w.alloc (.cells cs E),O,hs,⟨⟨k.size,k.fro,fun g t p hg _ => k.own g t p hg (fun f => f)⟩,(Blw.refl _ _).alloc h.base _,fun g y hy => ⟨(h.own g y hy).1,by have := (h.own g y hy).2; simp; omega⟩,h.inj,?_⟩⟩
 exact hr (fun u d hu => hu.fro k) ⟨hfresh,by simp,h.fresh _ (h.newB (Nat.le_refl _))⟩

theorem run_buildSliceS {T e : TypeId} {i : TypeInfo} {z : Value} {m : Nat} (hu : P.underlying T = some (.slice e)) (hi : P.info? e = some i) (hs : i.size = m) (hz : i.zero = some z)
  (n : Nat) (hn : n * m ≤ 16777216) (parts : Array (Nat × Value)) (cs : Array Value)
  (hf : ∀ c0 : Array Value,c0.size = n * m → Instr.fill (fun i => some (i * m,m)) c0 parts.toList = some cs) :
  (Instr.buildSlice T n parts).run P w = .ok (.slice (some ⟨w.heap.size,0,none⟩) n n) (w.alloc (.cells cs e)) := by
 have hn2 : ¬ (n * m > 2 ^ 24) := by omega
 have hn3 : ¬ (16777216 < n * m) := by omega
 by_cases h0 : n * m = 0
 ·have hf' : Instr.fill (fun i => some (i * m,m)) #[] parts.toList = some cs := hf #[] (by simp [h0])
  simp [Instr.buildSlice,run_underlying hu,sizeOf,typeInfo,hi,hs,h0,Array.range_zero',hf',newRow]
 ·have hf' := hf ((Array.range (n * m)).map fun x => z.cells[x % z.cells.size]!) (by simp)
  simp [Instr.buildSlice,run_underlying hu,sizeOf,typeInfo,hi,hs,zeroValue,hz,hn3,h0,hf',newRow]

theorem sound_buildSliceS (hτ : TyOk P τ) (h : St R B w0 N O σ a w) {o : Oper} {T : TypeId} {n : Nat} {parts : Array (Nat × Operand)} (ho : o.op = .buildSlice T n parts) {e : TypeId} {m : Nat} {zs : List D}
  (hT : τ T = .ss e m) (he : τ e = .st zs) (hc : parts.toList.map (·.1) = List.range n ∧ n ≤ 1000 ∧ zs.length = m ∧ 0 < m ∧ m ≤ 8) {ds : List D}
  (hds : vals σ (parts.toList.map (·.2)) = some ds) (hrec : ds.all (isRec m) = true) : Yld P R B O [] (.val (.recs m ds)) (execOp a.eval o) w := by
 obtain ⟨hidx,hn,hzl,hm0,hm8⟩ := hc
 have hk := hτ T
 rw [hT] at hk
 obtain ⟨hu,ie,hie,hse⟩ := hk
 have hke := hτ e
 rw [he] at hke
 obtain ⟨⟨i,zval,i1,i2,i3,i4,i5,i6⟩,_⟩ := hke
 have hlen : ds.length = n := by
  have := congrArg List.length hidx
  simp at this
  rw [← vals_len hds]; simp [this]
 have hnp : parts.toList.length = n := by simpa using congrArg List.length hidx
 obtain ⟨_,hv2⟩ := vals_rd h _ _ hds
 let ps := (parts.map (fun (i,x) => (i,a.eval x))).toList
 have hps : ps.length = n := by simpa [ps] using hnp
 have hrd : ∀ j (hj : j < ds.length) (hj' : j < ps.length),∃ c,ps[j].2 = .agg c ∧ c.size = m ∧ Rd w (Fro R O w) (.agg c) ds[j] := by
  intro j hj hj'
  obtain ⟨v,e1,e2⟩ := hv2 j hj
  have hj2 : j < parts.toList.length := by omega
  have e3 : ps[j].2 = v := by
   simp only [List.getElem?_map,List.getElem?_eq_getElem hj2,Option.map_some,Option.some.injEq] at e1
   simp only [ps,Array.toList_map,List.getElem_map]
   exact e1
  have e4 : isRec m ds[j] = true := List.all_eq_true.1 hrec _ (List.getElem_mem hj)
  generalize ds[j] = dj at e2 e4
  cases e2 with
  | agg cs xs vs g1 g2 g3 =>
   simp only [isRec,decide_eq_true_eq] at e4
   exact ⟨cs,e3,by omega,Rd.agg cs xs vs g1 g2 g3⟩
  | _ => cases e4
 have hfill : ∀ c0 : Array Value,c0.size = n * m → ∃ cs',Instr.fill (fun i => some (i * m,m)) c0 ps = some cs' ∧ cs'.size = n * m ∧
   ∀ i (h : i < ps.length) k,k < m → cs'[i * m + k]? = ps[i].2.cells[k]? := by
  intro c0 hc0
  obtain ⟨cs',f1,f2,_,f4⟩ := fillS n m ps 0 c0 (by omega) hc0 fun j hj => by
   obtain ⟨c,g1,g2,_⟩ := hrd j (by omega) hj
   refine ⟨?_,by rw [g1]; exact g2⟩
   have hj2 : j < parts.toList.length := by omega
   have e1 : (parts.toList.map (·.1))[j]'(by simpa using hj2) = j := by simp only [hidx,List.getElem_range]
   simp only [List.getElem_map] at e1
   simp only [ps,Array.toList_map,List.getElem_map,Nat.zero_add]
   exact e1
  exact ⟨cs',f1,f2,fun i hi k hk => by simpa using f4 i hi k hk⟩
 obtain ⟨cs,f1,f2,f4⟩ := hfill (Array.replicate (n * m) undef) (by simp)
 have hany : ∀ c0 : Array Value,c0.size = n * m → Instr.fill (fun i => some (i * m,m)) c0 ps = some cs := by
  intro c0 hc0
  obtain ⟨cs',g1,g2,g4⟩ := hfill c0 hc0
  rw [g1]
  congr 1
  apply Array.ext (by omega)
  intro k h1 h2
  have hq : k / m < n := by rw [Nat.div_lt_iff_lt_mul hm0]; omega
  have hr : k % m < m := Nat.mod_lt _ hm0
  have hkm : k / m * m + k % m = k := by rw [Nat.mul_comm]; exact Nat.div_add_mod k m
  have e1 := f4 (k / m) (by omega) (k % m) hr
  have e2 := g4 (k / m) (by omega) (k % m) hr
  rw [hkm] at e1 e2
  have := e2.trans e1.symm
  rw [Array.getElem?_eq_getElem h1,Array.getElem?_eq_getElem h2] at this
  exact Option.some.inj this
 have hnm : n * m ≤ 16777216 := by
  have : n * m ≤ 1000 * 8 := Nat.mul_le_mul hn hm8
  omega
 have hrun := run_buildSliceS (w := w) hu i1 (by rw [i2]; exact hzl) i4 n hnm _ cs hany
 refine yld_frozen h (cs := cs) (E := e) (v := .slice (some ⟨w.heap.size,0,none⟩) n n) ?_ ?_
 ·simp only [execOp,ho]
  exact run_v hrun
 ·intro up hfro
  rw [← hlen]
  refine Rd.recs w.heap.size 0 ds.length cs e (0,0) m ds hfro (heap_alloc_new w _) (Nat.le_refl _) (fun i hi => ?_) fun i hi => ?_
  ·have : (i + 1) * m ≤ n * m := Nat.mul_le_mul_right _ (by omega)
   rw [Nat.add_mul] at this
   omega
  ·obtain ⟨c,g1,g2,g3⟩ := hrd i hi (by omega)
   have hb : (i + 1) * m ≤ n * m := Nat.mul_le_mul_right _ (by omega)
   rw [Nat.add_mul] at hb
   have : cs.extract (0 + i * m) (0 + i * m + m) = c := by
    apply Array.ext (by simp; omega)
    intro k h1 h2
    have e1 := f4 i (by omega) k (by omega)
    rw [g1] at e1
    simp only [Value.cells] at e1
    rw [Array.getElem_extract]
    rw [Array.getElem?_eq_getElem (by omega),Array.getElem?_eq_getElem h2] at e1
    simpa using e1
   rw [this]
   exact up _ _ g3

theorem agg_rel {S : Nat → Prop} {cs : Array Value} {xs : List D} (h : CellsRel S w cs xs) : Rd w S (.agg cs) (.agg xs) := by
 refine Rd.agg cs xs (fun i => cs.getD i undef) h.1 (fun i hi => ?_) fun i hi => ?_
 ·obtain ⟨v,h1,h2⟩ := h.2 i hi
  simp [Array.getD_eq_getD_getElem?,h1]
 ·obtain ⟨v,h1,h2⟩ := h.2 i hi
  have : cs.getD i undef = v := by simp [Array.getD_eq_getD_getElem?,h1]
  rw [this]; exact h2

theorem mapM_sizes {α : Type} (f : Field → Sem α) (g : Field → α) : ∀ (l : List Field),(∀ x ∈ l,(f x).run P w = .ok (g x) w) → (l.mapM f).run P w = .ok (l.map g) w
 | [],_ => by simp
 | x :: l,h => by
  have h1 := h x (by simp)
  have h2 := mapM_sizes f g l fun y hy => h y (by simp [hy])
  simp [List.mapM_cons,h1,h2]

theorem sound_build (hτ : TyOk P τ) (h : St R B w0 N O σ a w) {o : Oper} {T : TypeId} {parts : Array (Nat × Operand)} (ho : o.op = .build T parts) {d : Nat} {ks : List Nat} {z : VV}
  (hv : vres τ Φ d (.build T parts) σ = some (ks,z)) : Yld P R B O ks z (execOp a.eval o) w := by
 simp only [vres] at hv
 split at hv <;> try cases hv
 rotate_left
 ·rename_i zs hT
  split at hv <;> try cases hv
  rename_i ds hds
  split at hv <;> simp only [Option.some.injEq,reduceCtorEq,Prod.mk.injEq] at hv
  rename_i hc
  obtain ⟨rfl,rfl⟩ := hv
  obtain ⟨_,hone,hidx⟩ := hc
  have hk := hτ T
  rw [hT] at hk
  obtain ⟨⟨i,zval,i1,i2,i3,i4,i5,i6⟩,n,E,h7,fi,h8,h9⟩ := hk
  obtain ⟨p1,p2,p3⟩ := parts_rel h parts zs.length ds hds (fun j hj => by have := List.all_eq_true.1 hidx j hj; simpa using this) hone
  obtain ⟨cs,f1,f2⟩ := fill_rel (w := w) (S := Fro R O w) (fun i => some (i * 1,1)) zs.length (fun j _ => by simp) _ ds zval.cells zs rfl (by rw [i5]; exact zcells_rel i6 _) p1 p3
  rw [p2] at f2
  refine yld_quiet h (v := .agg cs) ?_ (agg_rel f2)
  simp only [execOp,ho]
  refine run_v ?_
  have hzv : (zeroValue T).run P w = .ok zval w := by simp [zeroValue,typeInfo,i1,i4]
  have hsz : (sizeOf E).run P w = .ok 1 w := by simp [sizeOf_run h8,h9]
  have f1' : Instr.fill (fun i => some (i * 1,1)) zval.cells (parts.map (fun (i,x) => (i,a.eval x))).toList = some cs := f1
  simp only [Instr.build,Sem.run_bind,hzv,run_underlying h7,Result.andThen_ok,hsz,f1',Sem.run_pure]
 rename_i zs hT
 split at hv <;> try cases hv
 rename_i ds hds
 split at hv <;> simp only [Option.some.injEq,reduceCtorEq,Prod.mk.injEq] at hv
 rename_i hc
 obtain ⟨rfl,rfl⟩ := hv
 obtain ⟨_,hone,hidx,_⟩ := hc
 have hk := hτ T
 rw [hT] at hk
 obtain ⟨⟨i,zval,i1,i2,i3,i4,i5,i6⟩,fs,h7,h8,h9⟩ := hk
 obtain ⟨p1,p2,p3⟩ := parts_rel h parts zs.length ds hds (fun j hj => by have := List.all_eq_true.1 hidx j hj; simpa using this) hone
 let place : Nat → Option (Nat × Nat) := fun j => (fs.map fun f => (f.offset,1))[j]?
 have hplace : ∀ j,j < zs.length → place j = some (j,1) := by
  intro j hj
  have hj' : j < fs.size := by omega
  have := (h9 j fs[j] (by rw [Array.getElem?_eq_getElem])).1
  simp [place,hj',this]
 obtain ⟨cs,f1,f2⟩ := fill_rel (w := w) (S := Fro R O w) place zs.length hplace _ ds zval.cells zs rfl (by rw [i5]; exact zcells_rel i6 _) p1 p3
 rw [p2] at f2
 refine yld_quiet h (v := .agg cs) ?_ (agg_rel f2)
 simp only [execOp,ho]
 refine run_v ?_
 have hm : (fs.mapM fun f => do pure (f.offset,← sizeOf f.type) : Sem (Array (Nat × Nat))).run P w = .ok (fs.map fun f => (f.offset,1)) w := by
  have := mapM_sizes (P := P) (w := w) (fun f : Field => (do pure (f.offset,← sizeOf f.type) : Sem (Nat × Nat))) (fun f => (f.offset,1)) fs.toList (fun f hf => by
   obtain ⟨j,hj,e⟩ := List.getElem_of_mem hf
   obtain ⟨_,⟨fi,hfi,hsz⟩,_⟩ := h9 j f (by rw [← Array.getElem?_toList,List.getElem?_eq_getElem hj,e])
   simp [sizeOf_run hfi,hsz])
  rw [Array.mapM_eq_mapM_toList]
  simp only [Functor.map] at this ⊢
  refine (Sem.run_bind P w _ _).trans ?_
  rw [this]
  simp [Result.andThen]
  apply Array.ext'; simp
 have hzv : (zeroValue T).run P w = .ok zval w := by simp [zeroValue,typeInfo,i1,i4]
 simp only [Instr.build,Sem.run_bind,hzv,run_underlying h7,Result.andThen_ok,hm]
 have f1' : Instr.fill (fun x => (fs.map fun f => (f.offset,1))[x]?) zval.cells (parts.map (fun (i,x) => (i,a.eval x))).toList = some cs := f1
 simp only [f1',Sem.run_pure]

theorem sound_box (h : St R B w0 N O σ a w) {o : Oper} {T : TypeId} {x : Operand} (ho : o.op = .box T x) {d : Nat} {ks : List Nat} {z : VV}
  (hv : vres τ Φ d (.box T x) σ = some (ks,z)) : Yld P R B O ks z (execOp a.eval o) w := by
 have key : ∀ (cs : Array Value) (xs : List D) (v : Value),a.eval x = v → v.cells = cs → CellsRel (Fro R O w) w cs xs → Yld P R B O [] (.val (.ptr xs)) (execOp a.eval o) w := by
  intro cs xs v he hcs hrel
  have k : Keeps w (w.alloc (.cells cs T)) O O (fun _ => False) := ⟨by simp,fun g hg hn => ⟨hn,_root_.Go.heap_alloc_old w _ hg⟩,fun g t p hg _ => ⟨hg,_root_.Go.heap_alloc_old w _ (h.own g _ hg).2⟩⟩
  have hfresh : O w.heap.size = none := by
   cases hO : O w.heap.size with
   | none => rfl
   | some y => exact absurd (h.own _ _ hO).2 (Nat.lt_irrefl _)
  refine ⟨.pointer (some ⟨w.heap.size,0,none⟩),w.alloc (.cells cs T),O,?_,⟨⟨k.size,k.fro,fun g t p hg _ => k.own g t p hg (fun f => f)⟩,(Blw.refl _ _).alloc h.base _,fun g y hy => ⟨(h.own g y hy).1,by have := (h.own g y hy).2; simp; omega⟩,h.inj,?_⟩⟩
  ·simp only [execOp,ho,he]
   refine run_v ?_
   simp [Instr.box,newVar,newRow,hcs]
  ·refine Rd.ptr w.heap.size cs T (0,0) xs (fun i => cs.getD i undef) ⟨hfresh,by simp,h.fresh _ (h.newB (Nat.le_refl _))⟩ (heap_alloc_new w _) hrel.1 (fun i hi => ?_) fun i hi => ?_
   ·obtain ⟨v,h1,h2⟩ := hrel.2 i hi
    simp [Array.getD_eq_getD_getElem?,h1]
   ·obtain ⟨v,h1,h2⟩ := hrel.2 i hi
    have : cs.getD i undef = v := by simp [Array.getD_eq_getD_getElem?,h1]
    rw [this]
    exact h2.fro k
 simp only [vres] at hv
 have plain : ∀ y,ev σ x = .val y → y.one = true → (ks,z) = ([],.val (.ptr [y])) → Yld P R B O ks z (execOp a.eval o) w := by
  intro y h1 h2 h3
  simp only [Prod.mk.injEq] at h3
  obtain ⟨rfl,rfl⟩ := h3
  have hx := rel_tmp h x h1
  exact key #[a.eval x] [y] _ rfl (one_cells hx h2) ⟨rfl,fun i hi => by
   have : i = 0 := by simpa using hi
   subst this
   exact ⟨_,rfl,hx⟩⟩
 cases hx : ev σ x with
 | val y =>
  rw [hx] at hv
  cases hT : τ T with
  | st zs =>
   rw [hT] at hv
   cases y with
   | agg xs =>
    simp only at hv
    split at hv
    ·cases hv
    simp only [Option.some.injEq,Prod.mk.injEq] at hv
    obtain ⟨rfl,rfl⟩ := hv
    have hr := rel_tmp h x hx
    generalize hev : a.eval x = v at hr
    cases (hr : Rd w (Fro R O w) v _) with
    | agg cs _ vs h1 h2 h3 => exact key cs xs _ hev rfl ⟨h1,fun i hi => ⟨vs i,h2 i hi,h3 i hi⟩⟩
   | _ => cases hv
  | other => rw [hT] at hv; cases hv
  | ar zs => rw [hT] at hv; cases hv
  | fn => rw [hT] at hv; cases hv
  | ss e m => rw [hT] at hv; cases hv
  | _ =>
   rw [hT] at hv
   simp only at hv
   split at hv <;> simp only [Option.some.injEq,reduceCtorEq] at hv
   rename_i hone
   exact plain y hx hone hv.symm
 | ref t p u d0 =>
  rw [hx] at hv
  cases hT : τ T with
  | st zs =>
   rw [hT] at hv
   split at hv <;> try cases hv
   ·rename_i heq; cases heq
   rename_i zs' xs hz heq
   injection heq with q1 q2 q3 q4
   subst q1; subst q2; subst q3; subst q4
   split at hv
   ·cases hv
   simp only [Option.some.injEq,Prod.mk.injEq] at hv
   obtain ⟨rfl,rfl⟩ := hv
   have hr : OwnU w O 0 [] (a.eval x) (.agg xs) := rel_tmp h x hx
   generalize hev : a.eval x = v at hr
   have hv' : ∃ cs,v = .agg cs := by cases hr; exact ⟨_,rfl⟩
   obtain ⟨cs,rfl⟩ := hv'
   have k : Keeps w (w.alloc (.cells cs T)) O O (fun _ => False) := ⟨by simp,fun g hg hn => ⟨hn,_root_.Go.heap_alloc_old w _ hg⟩,fun g t p hg _ => ⟨hg,_root_.Go.heap_alloc_old w _ (h.own g _ hg).2⟩⟩
   have hfresh : O w.heap.size = none := by
    cases hO : O w.heap.size with
    | none => rfl
    | some y => exact absurd (h.own _ _ hO).2 (Nat.lt_irrefl _)
   refine ⟨.pointer (some ⟨w.heap.size,0,none⟩),w.alloc (.cells cs T),O,?_,⟨⟨k.size,k.fro,fun g t p hg _ => k.own g t p hg (fun f => f)⟩,(Blw.refl _ _).alloc h.base _,fun g y hy => ⟨(h.own g y hy).1,by have := (h.own g y hy).2; simp; omega⟩,h.inj,?_⟩⟩
   ·simp only [execOp,ho,hev]
    refine run_v ?_
    simp [Instr.box,newVar,newRow,Value.cells]
   ·exact ⟨w.heap.size,cs,T,(0,0),rfl,⟨hfresh,by simp,h.fresh _ (h.newB (Nat.le_refl _))⟩,heap_alloc_new w _,hr.keeps k (fun f => f)⟩
   ·rename_i heq _ _ _ _ _ _
    cases heq
  | _ => rw [hT] at hv; cases hv
 | _ => rw [hx] at hv; cases hT : τ T <;> rw [hT] at hv <;> cases hv

theorem sound_alloc (hτ : TyOk P τ) (h : St R B w0 N O σ a w) {o : Oper} {T : TypeId} (ho : o.op = .alloc T) {d : Nat} {ks : List Nat} {z : VV}
  (hv : vres τ Φ d (.alloc T) σ = some (ks,z)) : Yld P R B O ks z (execOp a.eval o) w := by
 have key : ∀ zs,InfoOk P T zs → (ks,z) = ([d],.ref d [] true (.ptr zs)) → Yld P R B O ks z (execOp a.eval o) w := by
  intro zs hi he
  simp only [Prod.mk.injEq] at he
  obtain ⟨rfl,rfl⟩ := he
  obtain ⟨i,zval,i1,i2,i3,i4,i5,i6⟩ := hi
  obtain ⟨O',hm⟩ := Made.new h d zval.cells T true (.ptr zs) (.pointer (some ⟨w.heap.size,0,none⟩)) (w.alloc (.cells zval.cells T)) rfl rfl rfl rfl (fun O' hO hN => by
   refine OwnU.ptr [] w.heap.size zval.cells T zs (fun i => zval.cells.getD i undef) hO (heap_alloc_new w _) (by rw [i5]; simp) (fun j hj => by rw [i5]; simp [hj]) fun j hj => ?_
   have : zval.cells.getD j undef = zv zs[j] := by rw [i5]; simp [hj]
   rw [this]
   exact zv_own _ (List.all_eq_true.1 i6 _ (List.getElem_mem hj)) _ _ _ _)
  refine ⟨_,_,O',?_,hm⟩
  simp only [execOp,ho]
  refine run_v ?_
  simp [Instr.alloc,zeroValue,typeInfo,i1,i4,newVar,newRow]
 have hT := hτ T
 simp only [vres] at hv
 split at hv <;> simp only [Option.some.injEq,reduceCtorEq] at hv <;> rename_i ht <;> rw [ht] at hT
 ·exact key _ hT.1 hv.symm
 ·exact key _ hT.1 hv.symm
 ·exact key _ hT.1 hv.symm
 ·exact key _ hT.1 hv.symm
 ·obtain ⟨⟨i,zval,i1,i2,i3,i4⟩,_⟩ := hT
  simp only [Prod.mk.injEq] at hv
  obtain ⟨rfl,rfl⟩ := hv
  obtain ⟨O',hm⟩ := Made.new h d zval.cells T true (.ptr [.gone]) (.pointer (some ⟨w.heap.size,0,none⟩)) (w.alloc (.cells zval.cells T)) rfl rfl rfl rfl (fun O' hO hN => by
   refine OwnU.ptr [] w.heap.size zval.cells T [.gone] (fun i => zval.cells.getD i undef) hO (heap_alloc_new w _) (by simpa using i4) (fun j hj => by
    have : j < zval.cells.size := by simp at hj; omega
    simp [this]) fun j hj => ?_
   have : j = 0 := by simpa using hj
   subst this
   exact .gone _ _)
  refine ⟨_,_,O',?_,hm⟩
  simp only [execOp,ho]
  refine run_v ?_
  simp [Instr.alloc,zeroValue,typeInfo,i1,i3,newVar,newRow]


theorem sound_buildSlice (hτ : TyOk P τ) (h : St R B w0 N O σ a w) {o : Oper} {T : TypeId} {n : Nat} {parts : Array (Nat × Operand)} (ho : o.op = .buildSlice T n parts) {d : Nat} {ks : List Nat} {z : VV}
  (hv : vres τ Φ d (.buildSlice T n parts) σ = some (ks,z)) : Yld P R B O ks z (execOp a.eval o) w := by
 cases hT : τ T with
 | sl e => exact sound_buildSlice1 hτ h ho hT hv
 | ss e m =>
  simp only [vres,hT] at hv
  split at hv <;> try cases hv
  rename_i zs he
  split at hv <;> try cases hv
  rename_i hc
  split at hv <;> try cases hv
  rename_i ds hds
  split at hv <;> try cases hv
  rename_i hrec
  exact sound_buildSliceS hτ h ho hT he hc hds hrec
 | _ => simp only [vres,hT] at hv; cases hv

theorem vres_sound (hτ : TyOk P τ) (hΦ : ∀ d f ds rs d' ts z,Φ d f ds = some rs → retVV d' ts rs = some z → VCall P f ds rs) (h : St R B w0 N O σ a w) {o : Oper} {d : Nat} {ks : List Nat} {x : VV}
  (hv : vres τ Φ d o.op σ = some (ks,x)) {K : Act → World → Prop} {Q : Exit → Act → World → Prop}
  (hK : ∀ O' w' v,Made R B w w' O O' ks x v → K (a.put o.dst v) w') : o.wp P a w K Q := by
 have fin : Yld P R B O ks x (execOp a.eval o) w → o.wp P a w K Q := fun ⟨v,w',O',h1,h2⟩ => wp_val h1 (hK O' w' v h2)
 cases ho : o.op with
 | move y =>
  rw [ho] at hv
  simp only [vres,Option.some.injEq,Prod.mk.injEq] at hv
  obtain ⟨rfl,rfl⟩ := hv
  exact fin (yld_quiet h (by simp [execOp,ho]) (rel_ev h y))
 | assign y =>
  rw [ho] at hv
  simp only [vres] at hv
  split at hv
  ·cases hv
  ·simp only [Option.some.injEq,Prod.mk.injEq] at hv
   obtain ⟨rfl,rfl⟩ := hv
   exact fin (yld_quiet h (by simp [execOp,ho]) (rel_ev h y))
 | pick c y z => exact fin (sound_pick h ho (ho ▸ hv))
 | binOp op T y z T' => exact fin (sound_binOp hτ h ho (ho ▸ hv))
 | unOp op T y => exact fin (sound_unOp h ho (ho ▸ hv))
 | convert S T y => exact fin (sound_convert hτ h ho (ho ▸ hv))
 | indexAddr T y i => exact fin (sound_indexAddr hτ h ho (ho ▸ hv))
 | load T y => exact fin (sound_load hτ h ho (ho ▸ hv))
 | fieldAddr T y f => exact fin (sound_fieldAddr hτ h ho (ho ▸ hv))
 | field T y f => exact fin (sound_field hτ h ho (ho ▸ hv))
 | slice T y lo hi mx =>
  cases mx with
  | none => exact fin (sound_slice hτ h ho (ho ▸ hv))
  | some m => rw [ho] at hv; simp [vres] at hv
 | extract y i => exact fin (sound_extract h ho (ho ▸ hv))
 | nilCheck y => exact fin (sound_nilCheck h ho (ho ▸ hv))
 | makeFunc f first caps =>
  cases f with
  | func f => exact fin (sound_makeFunc h ho (ho ▸ hv))
  | _ => rw [ho] at hv; simp [vres] at hv
 | makeSlice T l c => exact fin (sound_makeSlice hτ h ho (ho ▸ hv))
 | buildSlice T n parts => exact fin (sound_buildSlice hτ h ho (ho ▸ hv))
 | build T parts => exact fin (sound_build hτ h ho (ho ▸ hv))
 | box T y => exact fin (sound_box h ho (ho ▸ hv))
 | alloc T => exact fin (sound_alloc hτ h ho (ho ▸ hv))
 | call c =>
  rw [ho] at hv
  simp only [vres] at hv
  split at hv <;> try cases hv
  ·rename_i hc
   split at hv <;> try cases hv
   rename_i y T e1 e2
   split at hv <;> try cases hv
   ·rename_i e hT
    obtain ⟨n,h5,h6⟩ := map_some hv
    simp only [Prod.mk.injEq] at h6
    obtain ⟨rfl,rfl⟩ := h6
    exact fin (sound_len hτ h ho hc e1 e2 (.inl hT) h5)
   ·rename_i e m hT
    obtain ⟨n,h5,h6⟩ := map_some hv
    simp only [Prod.mk.injEq] at h6
    obtain ⟨rfl,rfl⟩ := h6
    exact fin (sound_len hτ h ho hc e1 e2 (.inr ⟨m,hT⟩) h5)
  ·rename_i hc
   split at hv <;> try cases hv
   rename_i x y e1
   exact fin (sound_mm h ho (mx := false) hc e1 hv)
  ·rename_i hc
   split at hv <;> try cases hv
   rename_i x y e1
   exact fin (sound_mm h ho (mx := true) hc e1 hv)
  ·rename_i f hc
   split at hv <;> try cases hv
   rename_i g caps ds hf hds
   split at hv <;> try cases hv
   rename_i rs hrs
   exact wp_call h ho hc (by rw [hf]; rfl) hds (hΦ _ _ _ _ _ _ _ hrs hv) hv (by rw [hf]; rfl) hK
 | _ => rw [ho] at hv; simp [vres] at hv

end
end Go.Vam
