/- The calm operations do what 'vres' tells: the operations that make memory, slices, arithmetic; all together. -/
import Derived.Test.YtalfgfpgenlokaaVamC
namespace Go.Vam
open Go Go.RowKit

section
variable {P : Program} {τ : TypeId → TK} {Φ : Orc} {R : Nat → Prop} {B : Nat → Prop} {w0 : W0} {N : Lim} {O : Own} {σ : Frm} {a : Act} {w : World}

theorem getElem_sub (xs : List D) (lo hi : Nat) (h : hi ≤ xs.length) (i : Nat) (h1 : i < ((xs.take hi).drop lo).length) :
  ((xs.take hi).drop lo)[i] = xs[lo + i]'(by simp at h1; omega) := by
 simp

theorem rd_sub {S : Nat → Prop} {g o : Nat} {cur : Array Value} {E : TypeId} {fr : Nat × Nat} {xs : List D} {vs : Nat → Value}
  (hS : S g) (hg : w.heap[g]? = some (.cells cur E fr))
  (hv : ∀ i,i < xs.length → cur[o + i]? = some (vs i)) (hr : ∀ i (h : i < xs.length),Rd w S (vs i) xs[i]) (lo hi m : Nat) (h1 : lo ≤ hi) (h2 : hi ≤ xs.length) (hm : hi ≤ m)
  (ad : Option Addr) (had : lo ≠ m → ad = some ⟨g,o + lo,none⟩) :
  Rd w S (.slice ad (hi - lo) (m - lo)) (.list ((xs.take hi).drop lo)) := by
 have hlen : ((xs.take hi).drop lo).length = hi - lo := by simp; omega
 by_cases he : lo = hi
 ·subst he
  have : (xs.take lo).drop lo = [] := List.eq_nil_of_length_eq_zero (by rw [hlen]; omega)
  rw [this]
  simp only [Nat.sub_self]
  exact .empty _ _
 ·rw [had (by omega),← hlen]
  refine .list g (o + lo) (m - lo) cur E fr _ (fun i => vs (lo + i)) hS hg (by rw [hlen]; omega) (fun i hi' => ?_) fun i hi' => ?_
  ·rw [Nat.add_assoc]; exact hv _ (by rw [hlen] at hi'; omega)
  ·rw [getElem_sub xs lo hi h2 i hi']; exact hr _ _

theorem rd_slice {S : Nat → Prop} {v : Value} {xs : List D} (hr : Rd w S v (.list xs)) (lo hi : Int) (h1 : 0 ≤ lo) (h2 : lo ≤ hi) (h3 : hi ≤ xs.length) :
  ∃ ad n c,v = .slice ad n c ∧ hi ≤ (n : Int) ∧ n ≤ c ∧
   ∀ ad',ad' = (if c = lo.toNat then ad else ad.map (·.add lo.toNat)) → Rd w S (.slice ad' (hi.toNat - lo.toNat) (c - lo.toNat)) (.list ((xs.take hi.toNat).drop lo.toNat)) := by
 cases hr with
 | empty ad cap =>
  simp only [List.length_nil] at h3
  refine ⟨ad,0,cap,rfl,h3,Nat.zero_le _,fun ad' _ => ?_⟩
  have h0 : hi.toNat = 0 := by omega
  have h1 : lo.toNat = 0 := by omega
  rw [h0,h1]
  exact Rd.empty _ _
 | list g o cap cur E fr _ vs a1 a2 a3 a4 a5 =>
  refine ⟨_,_,cap,rfl,h3,a3,fun ad' hh => ?_⟩
  exact rd_sub a1 a2 a4 a5 lo.toNat hi.toNat cap (by omega) (by omega) (by omega) ad' (fun hne => by
   rw [hh,if_neg (fun e => hne e.symm)]; simp only [Option.map_some,Addr.add]; split <;> simp_all)

theorem tree_prefix {t : Nat} {p : List Nat} {u : Bool} {v : Value} {xs : List D} (hr : Tree R w O t p u v (.list xs)) (hi : Int) (h2 : 0 ≤ hi) (h3 : hi ≤ xs.length) :
  ∃ ad n c,v = .slice ad n c ∧ hi ≤ (n : Int) ∧ n ≤ c ∧
   ∀ ad',ad' = (if c = (0 : Int).toNat then ad else ad.map (·.add (0 : Int).toNat)) → Tree R w O t p u (.slice ad' (hi.toNat - (0 : Int).toNat) (c - (0 : Int).toNat)) (.list (xs.take hi.toNat)) := by
 have hlen : (xs.take hi.toNat).length = hi.toNat := by simp; omega
 cases u with
 | true =>
  cases (hr : OwnU w O t p v (.list xs)) with
  | nil =>
   simp only [List.length_nil] at h3
   refine ⟨none,0,0,rfl,h3,Nat.le_refl _,fun ad' hh => ?_⟩
   have h0 : hi.toNat = 0 := by omega
   subst hh
   simp only [h0,Int.toNat_zero,Nat.sub_self,List.take_nil,if_pos]
   exact OwnU.nil _
  | list _ g cap cur E _ vs a1 a2 a3 a4 a5 a6 a7 =>
   refine ⟨_,_,cap,rfl,h3,a3,fun ad' hh => ?_⟩
   have e : ad' = some ⟨g,0,none⟩ := by subst hh; simp [Addr.add]
   have := OwnU.list (w := w) (O := O) (t := t) p g cap cur E (xs.take hi.toNat) vs a1 a2 (by omega) a4 a5 (fun i hi' => a6 i (by simp at hi'; omega)) fun i hi' => by
    rw [List.getElem_take]; exact a7 i (by simp at hi'; omega)
   rw [e,Int.toNat_zero,Nat.sub_zero,Nat.sub_zero]
   rwa [hlen] at this
 | false =>
  cases (hr : OwnF R w O t p v (.list xs)) with
  | nil =>
   simp only [List.length_nil] at h3
   refine ⟨none,0,0,rfl,h3,Nat.le_refl _,fun ad' hh => ?_⟩
   have h0 : hi.toNat = 0 := by omega
   subst hh
   simp only [h0,Int.toNat_zero,Nat.sub_self,List.take_nil,if_pos]
   exact OwnF.nil
  | list g cap cur E _ vs a1 a2 a3 a4 a5 a6 a7 =>
   refine ⟨_,_,cap,rfl,h3,a3,fun ad' hh => ?_⟩
   have e : ad' = some ⟨g,0,none⟩ := by subst hh; simp [Addr.add]
   have := OwnF.list (R := R) (w := w) (O := O) (t := t) (p := p) g cap cur E (xs.take hi.toNat) vs a1 a2 (by omega) a4 a5 (fun i hi' => a6 i (by simp at hi'; omega)) fun i hi' => by
    rw [List.getElem_take]; exact a7 i (by simp at hi'; omega)
   rw [e,Int.toNat_zero,Nat.sub_zero,Nat.sub_zero]
   rwa [hlen] at this

theorem slice_rel (h : St R B w0 N O σ a w) (lo hi : Int) (x : VV) (v : Value) (hr : Rel R w O x v) (y : VV) (hy : sliceVV lo hi x = some y) :
  ∃ ad n c,v = .slice ad n c ∧ 0 ≤ lo ∧ lo ≤ hi ∧ hi ≤ (n : Int) ∧ n ≤ c ∧
   ∀ ad',ad' = (if c = lo.toNat then ad else ad.map (·.add lo.toNat)) → Rel R w O y (.slice ad' (hi.toNat - lo.toNat) (c - lo.toNat)) := by
 unfold sliceVV at hy
 split at hy
 ·split at hy <;> simp only [Option.some.injEq,reduceCtorEq] at hy
  rename_i hc; subst hy
  obtain ⟨ad,n,c,h1,h2,h3,h4⟩ := rd_slice hr lo hi hc.1 hc.2.1 hc.2.2
  exact ⟨ad,n,c,h1,hc.1,hc.2.1,h2,h3,h4⟩
 ·rename_i t p u xs
  split at hy <;> try cases hy
  rename_i hc
  by_cases h0 : lo = 0
  ·rw [if_pos h0] at hy
   simp only [Option.some.injEq] at hy; subst hy; subst h0
   obtain ⟨ad,n,c,h1,h2,h3,h4⟩ := tree_prefix hr hi hc.2.1 hc.2.2
   exact ⟨ad,n,c,h1,hc.1,hc.2.1,h2,h3,h4⟩
  ·rw [if_neg h0] at hy
   simp only [Option.some.injEq] at hy; subst hy
   have hr' : Rd w (Bor R O w t) v (.list xs) := Tree.rd hr (fun g q hg => ⟨.inr ⟨_,hg⟩,(h.own g _ hg).2,h.fresh g (h.own g _ hg).1⟩) fun g hg => ⟨.inl hg.1,hg.2⟩
   obtain ⟨ad,n,c,h1,h2,h3,h4⟩ := rd_slice hr' lo hi hc.1 hc.2.1 hc.2.2
   exact ⟨ad,n,c,h1,hc.1,hc.2.1,h2,h3,h4⟩
 ·split at hy <;> simp only [Option.some.injEq,reduceCtorEq] at hy
  rename_i hc; subst hy
  obtain ⟨ad,n,c,h1,h2,h3,h4⟩ := rd_slice hr lo hi hc.1 hc.2.1 hc.2.2
  exact ⟨ad,n,c,h1,hc.1,hc.2.1,h2,h3,h4⟩
 ·cases hy

/-! ### Arithmetic -/

theorem bin_run {op : BinOp} {T : TypeId} {x y : D} {r : D} (hb : bin op x y = some r) {u v : Value} {S S' : Nat → Prop} (hx : Rd w S u x) (hy : Rd w S' v y) :
  ∃ z,(Go.binOp op T u v).run P w = .ok z w ∧ (∀ A,Rd w A z r) ∧ (∃ k n,u = .int k n) := by
 cases hx <;> cases hy <;> try (simp [bin] at hb; done)
 rename_i k n k' n'
 refine (fun hh => by obtain ⟨z,h1,h2⟩ := hh; exact ⟨z,h1,h2,k,n,rfl⟩ : (∃ z,(Go.binOp op T (.int k n) (.int k' n')).run P w = .ok z w ∧ (∀ A,Rd w A z r)) → _) ?_
 simp only [bin] at hb
 cases op <;> simp only [reduceCtorEq] at hb <;> (split at hb <;> simp only [Option.some.injEq,reduceCtorEq] at hb) <;> rename_i hc <;> subst hb
 case int.int.quo.isTrue =>
  obtain ⟨hc1,hc2⟩ := hc
  subst hc1
  exact ⟨.int k (k.wrap (n.tdiv n')),by simp [Go.binOp,Op.intDiv,hc2],fun A => .int _ _⟩
 case int.int.rem.isTrue =>
  obtain ⟨hc1,hc2⟩ := hc
  subst hc1
  exact ⟨.int k (n.tmod n'),by simp [Go.binOp,Op.intDiv,hc2],fun A => .int _ _⟩
 case int.int.shl.isFalse => exact ⟨_,by simp [Go.binOp,Op.shift,hc],fun A => .int _ _⟩
 case int.int.shr.isFalse => exact ⟨_,by simp [Go.binOp,Op.shift,hc],fun A => .int _ _⟩
 case int.int.add.isTrue => subst hc; exact ⟨_,by simp [Go.binOp,Op.intArith],fun A => .int _ _⟩
 case int.int.sub.isTrue => subst hc; exact ⟨_,by simp [Go.binOp,Op.intArith],fun A => .int _ _⟩
 case int.int.mul.isTrue => subst hc; exact ⟨_,by simp [Go.binOp,Op.intArith],fun A => .int _ _⟩
 case int.int.and.isTrue => subst hc; exact ⟨_,by simp [Go.binOp,Op.intBits],fun A => .int _ _⟩
 case int.int.or.isTrue => subst hc; exact ⟨_,by simp [Go.binOp,Op.intBits],fun A => .int _ _⟩
 case int.int.xor.isTrue => subst hc; exact ⟨_,by simp [Go.binOp,Op.intBits],fun A => .int _ _⟩
 case int.int.eql.isTrue => subst hc; exact ⟨_,by simp [Go.binOp,Op.intCmp],fun A => .bool _⟩
 case int.int.neq.isTrue => subst hc; exact ⟨_,by simp [Go.binOp,Op.intCmp],fun A => .bool _⟩
 case int.int.lss.isTrue => subst hc; exact ⟨_,by simp [Go.binOp,Op.intCmp],fun A => .bool _⟩
 case int.int.leq.isTrue => subst hc; exact ⟨_,by simp [Go.binOp,Op.intCmp],fun A => .bool _⟩
 case int.int.gtr.isTrue => subst hc; exact ⟨_,by simp [Go.binOp,Op.intCmp],fun A => .bool _⟩
 case int.int.geq.isTrue => subst hc; exact ⟨_,by simp [Go.binOp,Op.intCmp],fun A => .bool _⟩

theorem binB_run {op : BinOp} {T : TypeId} (hτ : TyOk1 P T (τ T)) {x y : D} {r : D} (hb : binB op (τ T) x y = some r) {u v : Value} {S S' : Nat → Prop} (hx : Rd w S u x) (hy : Rd w S' v y) :
  ∃ z,(Go.binOp op T u v).run P w = .ok z w ∧ (∀ A,Rd w A z r) ∧ (∃ b,u = .bool b) := by
 cases hx <;> cases hy <;> try (simp [binB] at hb; done)
 rename_i b b'
 simp only [binB] at hb
 split at hb <;> simp only [Option.some.injEq,reduceCtorEq] at hb <;> rename_i ht <;> subst hb <;> rw [ht] at hτ
 ·exact ⟨.bool (b == b'),run_eql_bool w T b b' hτ.2,fun A => .bool _,b,rfl⟩
 ·exact ⟨.bool (b != b'),by rw [run_neq_bool w T b b' hτ.2]; rfl,fun A => .bool _,b,rfl⟩

theorem una_run {op : UnOp} {x r : D} (hb : una op x = some r) {u : Value} {S : Nat → Prop} (hx : Rd w S u x) :
  ∃ z,(Op.unary op u).run P w = .ok z w ∧ ∀ A,Rd w A z r := by
 cases hx <;> try (simp [una] at hb; done)
 ·simp only [una] at hb
  split at hb <;> simp only [Option.some.injEq,reduceCtorEq] at hb
  subst hb
  exact ⟨_,by simp [Op.unary,Op.intArith],fun A => .int _ _⟩
 ·simp only [una] at hb
  split at hb <;> simp only [Option.some.injEq,reduceCtorEq] at hb
  subst hb
  exact ⟨_,by simp [Op.unary],fun A => .bool _⟩

theorem eqGuard_run (op : BinOp) (T : TypeId) (x y : Operand) {u v : Value} (h : (∃ k n,u = .int k n) ∨ ∃ b,u = .bool b) : (eqGuard op T x y u v).run P w = .ok () w := by
 rcases h with ⟨k,n,rfl⟩ | ⟨b,rfl⟩ <;> cases op <;> simp [eqGuard]

end
end Go.Vam
