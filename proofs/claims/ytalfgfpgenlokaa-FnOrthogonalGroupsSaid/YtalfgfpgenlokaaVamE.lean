/- The calm operations do what 'vres' tells: all together. -/
import Derived.Test.YtalfgfpgenlokaaVamD
namespace Go.Vam
open Go Go.RowKit

section
variable {P : Program} {τ : TypeId → TK} {Φ : Orc} {R : Nat → Prop} {B : Nat → Prop} {w0 : W0} {N : Lim} {O : Own} {σ : Frm} {a : Act} {w : World}

def Yld (P : Program) (R : Nat → Prop) (B : Nat → Prop) (O : Own) (ks : List Nat) (x : VV) (s : Sem Next) (w : World) : Prop :=
 ∃ v w' O',s.run P w = .ok (.value v) w' ∧ Made R B w w' O O' ks x v

theorem yld_quiet (h : St R B w0 N O σ a w) {s : Sem Next} {x : VV} {v : Value} (hs : s.run P w = .ok (.value v) w) (hr : Rel R w O x v) : Yld P R B O [] x s w :=
 ⟨v,w,O,hs,Made.quiet h hr⟩

theorem map_some {α β : Type} {x : Option α} {f : α → β} {y : β} (h : x.map f = some y) : ∃ z,x = some z ∧ f z = y := by
 cases x with
 | none => cases h
 | some z => exact ⟨z,rfl,by simpa using h⟩

theorem run_v {s : Sem Value} {v : Value} {w' : World} (h : s.run P w = .ok v w') : (do pure (Next.value (← s)) : Sem Next).run P w = .ok (.value v) w' := by
 simp [h]

theorem orO_or {x y : Option VV} {z : VV} (h : orO x y = some z) : x = some z ∨ y = some z := by
 cases x with
 | some q => exact .inl h
 | none => exact .inr h

theorem run_isAgg {T : TypeId} {d : TypeDesc} (hu : P.underlying T = some d) (hd : flat d = true) : (isAgg T).run P w = .ok false w := by
 simp only [isAgg,Sem.run_bind,run_underlying hu,Result.andThen_ok]
 unfold flat at hd
 split at hd
 ·cases hd
 ·cases hd
 ·rename_i h1 h2
  split
  ·exact absurd rfl (h1 _)
  ·exact absurd rfl (h2 _ _)
  ·rfl

theorem run_load {g o : Nat} {cur : Array Value} {E : TypeId} {fr : Nat × Nat} {cv : Value}
  (hg : w.heap[g]? = some (.cells cur E fr)) (hc : cur[o]? = some cv) : (load ⟨g,o,none⟩).run P w = .ok cv w := by
 have : w.cell? ⟨g,o,none⟩ = some cv := by simp [World.cell?,hg,hc]
 simp only [load,Sem.run,this]

theorem run_loadAt {T : TypeId} (hT : TyOk1 P T (τ T)) (hk : ∀ zs,τ T ≠ .st zs) (hk' : τ T ≠ .other ∧ ∀ zs,τ T ≠ .ar zs) (hk2 : ∀ e m,τ T ≠ .ss e m) {g o : Nat} {cur : Array Value} {E : TypeId} {fr : Nat × Nat} {cv : Value}
  (hg : w.heap[g]? = some (.cells cur E fr)) (hc : cur[o]? = some cv) : (Instr.loadAt T (.pointer (some ⟨g,o,none⟩))).run P w = .ok cv w := by
 have hu : ∃ d,P.underlying T = some d ∧ flat d = true := by
  cases ht : τ T <;> rw [ht] at hT
  ·exact ⟨_,hT.2,rfl⟩
  ·exact ⟨_,hT.2,rfl⟩
  ·exact ⟨_,hT.2.1,rfl⟩
  ·exact absurd ht (hk _)
  ·exact absurd ht (hk2 _ _)
  ·exact hT.2
  ·exact absurd ht (hk'.2 _)
  ·exact absurd ht hk'.1
 obtain ⟨d,hu,hd⟩ := hu
 simp only [Instr.loadAt,Instr.sureAddr,loadVar,pure_bind,Sem.run_bind,run_isAgg hu hd,Result.andThen_ok,Bool.false_eq_true,if_false]
 exact run_load hg hc

theorem run_loadCells {g o : Nat} {cur : Array Value} {E : TypeId} {fr : Nat × Nat} (hg : w.heap[g]? = some (.cells cur E fr)) :
  ∀ (n i : Nat) (acc : Array Value),o + i + n ≤ cur.size → (loadCellsFrom ⟨g,o,none⟩ i n acc).run P w = .ok (acc ++ cur.extract (o + i) (o + i + n)) w := by
 intro n
 induction n with
 | zero => intro i acc _; simp [loadCellsFrom]; omega
 | succ n ih =>
  intro i acc hi
  have hlt : o + i < cur.size := by omega
  have hadd : (⟨g,o,none⟩ : Addr).add i = ⟨g,o + i,none⟩ := by unfold Addr.add; split <;> simp_all
  have hl : (load ((⟨g,o,none⟩ : Addr).add i)).run P w = .ok cur[o + i] w := by
   rw [hadd]; simp [load,Sem.run,World.cell?,hg,hlt]
  simp only [loadCellsFrom,Sem.run_bind,hl,Result.andThen_ok]
  rw [ih (i + 1) _ (by omega)]
  congr 1
  rw [Array.push_eq_append,Array.append_assoc]
  congr 1
  rw [← Nat.add_assoc]
  apply Array.ext
  ·simp; omega
  ·intro j h1 h2
   simp only [Array.getElem_append,Array.getElem_extract]
   split
   ·rename_i hj; simp at hj; subst hj; simp
   ·rename_i hj
    simp only [List.size_toArray,List.length_cons,List.length_nil] at hj ⊢
    congr 1; omega

theorem sizeOf_run {T : TypeId} {i : TypeInfo} (h : P.info? T = some i) : (sizeOf T).run P w = .ok i.size w := by
 simp [sizeOf,typeInfo,h]

theorem run_isAggSt {T : TypeId} {fs : Array Field} (hu : P.underlying T = some (.struct fs)) : (isAgg T).run P w = .ok true w := by
 simp only [isAgg,Sem.run_bind,run_underlying hu,Result.andThen_ok]
 rfl

theorem run_loadR {T : TypeId} {zs : List D} (hT : TyOk1 P T (.st zs)) {g o : Nat} {cur : Array Value} {E : TypeId} {fr : Nat × Nat}
  (hg : w.heap[g]? = some (.cells cur E fr)) (hn : o + zs.length ≤ cur.size) : (Instr.loadAt T (.pointer (some ⟨g,o,none⟩))).run P w = .ok (.agg (cur.extract o (o + zs.length))) w := by
 obtain ⟨⟨i,z,h1,h2,h3,h4,h5,h6⟩,fs,h7,h8,h9⟩ := hT
 have hl := run_loadCells (P := P) (o := o) hg zs.length 0 #[] (by omega)
 simp only [Nat.add_zero,Array.empty_append] at hl
 simp only [Instr.loadAt,Instr.sureAddr,loadVar,pure_bind,Sem.run_bind,run_isAggSt h7,sizeOf_run h1,Result.andThen_ok,if_true,h2,loadCells,hl,Sem.run_pure]

theorem run_loadSt {T : TypeId} {zs : List D} (hT : TyOk1 P T (.st zs)) {g : Nat} {cur : Array Value} {E : TypeId} {fr : Nat × Nat}
  (hg : w.heap[g]? = some (.cells cur E fr)) (hn : cur.size = zs.length) : (Instr.loadAt T (.pointer (some ⟨g,0,none⟩))).run P w = .ok (.agg cur) w := by
 obtain ⟨⟨i,z,h1,h2,h3,h4,h5,h6⟩,fs,h7,h8,h9⟩ := hT
 have hl := run_loadCells (P := P) (o := 0) hg zs.length 0 #[] (by omega)
 have he : #[] ++ cur.extract (0 + 0) (0 + 0 + zs.length) = cur := by simp only [Nat.zero_add]; rw [← hn]; simp
 rw [he] at hl
 simp only [Instr.loadAt,Instr.sureAddr,loadVar,pure_bind,Sem.run_bind,run_isAggSt h7,sizeOf_run h1,Result.andThen_ok,if_true,h2,loadCells,hl,Sem.run_pure]

theorem sound_load (hτ : TyOk P τ) (h : St R B w0 N O σ a w) {o : Oper} {T : TypeId} {x : Operand} (ho : o.op = .load T x) {d : Nat} {ks : List Nat} {y : VV}
  (hv : vres τ Φ d (.load T x) σ = some (ks,y)) : Yld P R B O ks y (execOp a.eval o) w := by
 have hx := rel_ev h x
 have hT := hτ T
 simp only [vres] at hv
 have plain : ∀ z,(∀ zs,τ T ≠ .st zs) → (τ T ≠ .other ∧ ∀ zs,τ T ≠ .ar zs) → (∀ e m,τ T ≠ .ss e m) → (loadVV (ev σ x)).map (fun r => (([] : List Nat),r)) = some z → z = (ks,y) → Yld P R B O ks y (execOp a.eval o) w := by
  intro z h1 h2 hss h3 h4
  obtain ⟨q,h5,h6⟩ := map_some h3
  rw [← h6] at h4
  simp only [Prod.mk.injEq] at h4
  obtain ⟨rfl,rfl⟩ := h4
  obtain ⟨g,oo,cur,E,fr,cv,e1,e2,e3,e4⟩ := load_rel _ _ hx _ h5
  refine yld_quiet h ?_ e4
  simp only [execOp,ho,e1]
  exact run_v (run_loadAt hT h1 h2 hss e2 e3)
 split at hv
 ·rename_i k hk; exact plain _ (by rw [hk]; intro zs; simp) (by rw [hk]; simp) (by rw [hk]; intro e m; simp) hv rfl
 ·rename_i hk; exact plain _ (by rw [hk]; intro zs; simp) (by rw [hk]; simp) (by rw [hk]; intro e m; simp) hv rfl
 ·rename_i e hk; exact plain _ (by rw [hk]; intro zs; simp) (by rw [hk]; simp) (by rw [hk]; intro e m; simp) hv rfl
 ·rename_i hk; exact plain _ (by rw [hk]; intro zs; simp) (by rw [hk]; simp) (by rw [hk]; intro e m; simp) hv rfl
 ·rename_i zs hk
  obtain ⟨q,h5,h6⟩ := map_some hv
  simp only [Prod.mk.injEq] at h6
  obtain ⟨rfl,rfl⟩ := h6
  rw [hk] at hT
  rcases orO_or h5 with h5 | h5
  ·obtain ⟨g,cur,E,fr,e1,e2,e3,e4⟩ := loadSt_rel _ _ _ hx _ h5
   refine yld_quiet h ?_ e4
   simp only [execOp,ho,e1]
   exact run_v (run_loadSt hT e2 e3)
  ·obtain ⟨g,oo,cur,E,fr,e1,e2,e3,e4⟩ := loadR_rel _ _ _ hx _ h5
   refine yld_quiet h ?_ e4
   simp only [execOp,ho,e1]
   exact run_v (run_loadR hT e2 e3)
 ·cases hv
 ·cases hv
 ·cases hv

theorem TK.info {T : TypeId} {t : TK} (h : TyOk1 P T t) {z : D} (hz : t.zd = some z) : InfoOk P T [z] := by
 cases t <;> simp only [TK.zd,Option.some.injEq,reduceCtorEq] at hz <;> subst hz <;> exact h.1

theorem sound_indexAddr (hτ : TyOk P τ) (h : St R B w0 N O σ a w) {o : Oper} {T : TypeId} {x i : Operand} (ho : o.op = .indexAddr T x i) {d : Nat} {ks : List Nat} {y : VV}
  (hv : vres τ Φ d (.indexAddr T x i) σ = some (ks,y)) : Yld P R B O ks y (execOp a.eval o) w := by
 simp only [vres] at hv
 split at hv
 ·rename_i e n he hn
  split at hv <;> try cases hv
  rename_i hn0
  obtain ⟨q,h5,h6⟩ := map_some hv
  simp only [Prod.mk.injEq] at h6
  obtain ⟨rfl,rfl⟩ := h6
  obtain ⟨k,hk⟩ := int_rel (rel_ev h i) hn
  obtain ⟨g,oo,nn,c,e1,e2,e3⟩ := place_rel _ _ (rel_ev h x) _ _ h5
  refine yld_quiet h ?_ e3
  have hT := hτ T
  rw [he] at hT
  obtain ⟨_,hu,ie,hie,hse⟩ := hT
  simp only [execOp,ho,e1,hk]
  refine run_v ?_
  have hlt : (0 : Int) ≤ n ∧ n < (nn : Int) := by omega
  simp only [Instr.indexAt,asIntOf,pure_bind,Sem.run_bind,run_underlying hu,Result.andThen_ok]
  rw [if_pos hlt]
  simp only [Sem.run_bind,sizeOf_run hie,hse,Nat.mul_one,Result.andThen_ok,Sem.run_pure]
  simp only [Addr.add]
  split <;> simp_all
 ·rename_i e m n he hn
  split at hv <;> try cases hv
  rename_i hn0
  obtain ⟨q,h5,h6⟩ := map_some hv
  simp only [Prod.mk.injEq] at h6
  obtain ⟨rfl,rfl⟩ := h6
  obtain ⟨k,hk⟩ := int_rel (rel_ev h i) hn
  obtain ⟨g,oo,nn,c,e1,e2,e3⟩ := placeS_rel _ _ _ (rel_ev h x) _ _ h5
  refine yld_quiet h ?_ e3
  have hT := hτ T
  rw [he] at hT
  obtain ⟨hu,ie,hie,hse⟩ := hT
  simp only [execOp,ho,e1,hk]
  refine run_v ?_
  have hlt : (0 : Int) ≤ n ∧ n < (nn : Int) := by omega
  simp only [Instr.indexAt,asIntOf,pure_bind,Sem.run_bind,run_underlying hu,Result.andThen_ok]
  rw [if_pos hlt]
  simp only [Sem.run_bind,sizeOf_run hie,hse,Result.andThen_ok,Sem.run_pure]
  simp only [Addr.add]
  split <;> simp_all
 ·cases hv

theorem sound_fieldAddr (hτ : TyOk P τ) (h : St R B w0 N O σ a w) {o : Oper} {T : TypeId} {x : Operand} {f : Nat} (ho : o.op = .fieldAddr T x f) {d : Nat} {ks : List Nat} {y : VV}
  (hv : vres τ Φ d (.fieldAddr T x f) σ = some (ks,y)) : Yld P R B O ks y (execOp a.eval o) w := by
 simp only [vres] at hv
 split at hv <;> try cases hv
 rename_i zs he
 split at hv <;> try cases hv
 rename_i hf
 obtain ⟨q,h5,h6⟩ := map_some hv
 simp only [Prod.mk.injEq] at h6
 obtain ⟨rfl,rfl⟩ := h6
 have hbox : ∃ g oo,a.eval x = .pointer (some ⟨g,oo,none⟩) ∧ Rel R w O q (.pointer (some ⟨g,oo + f,none⟩)) := by
  rcases orO_or h5 with h5 | h5
  ·obtain ⟨g,e1,e3⟩ := box_rel _ _ (rel_ev h x) _ _ h5
   exact ⟨g,0,e1,by rw [Nat.zero_add]; exact e3⟩
  ·exact boxR_rel _ _ _ (rel_ev h x) _ h5
 obtain ⟨g,oo,e1,e3⟩ := hbox
 refine yld_quiet h ?_ e3
 have hT := hτ T
 rw [he] at hT
 obtain ⟨_,fs,h7,h8,h9⟩ := hT
 have hfs : ∃ fd,fs[f]? = some fd := ⟨fs[f]'(by omega),by rw [Array.getElem?_eq_getElem]⟩
 obtain ⟨fd,hfd⟩ := hfs
 obtain ⟨ho1,⟨fi,hfi,hsz⟩,dd,hdd,hdf⟩ := h9 f fd hfd
 simp only [execOp,ho,e1]
 refine run_v ?_
 simp only [Instr.fieldAt,Instr.sureAddr,pure_bind,bind_assoc,Sem.run_bind,run_underlying h7,Result.andThen_ok,hfd,fieldPlace,sizeOf_run hfi,hsz,Nat.one_ne_zero,if_false,Sem.run_pure,ho1]
 simp only [Addr.add]
 split <;> simp_all

theorem sound_field (hτ : TyOk P τ) (h : St R B w0 N O σ a w) {o : Oper} {T : TypeId} {x : Operand} {f : Nat} (ho : o.op = .field T x f) {d : Nat} {ks : List Nat} {y : VV}
  (hv : vres τ Φ d (.field T x f) σ = some (ks,y)) : Yld P R B O ks y (execOp a.eval o) w := by
 simp only [vres] at hv
 split at hv <;> try cases hv
 rename_i zs he
 split at hv <;> try cases hv
 rename_i hf
 obtain ⟨q,h5,h6⟩ := map_some hv
 simp only [Prod.mk.injEq] at h6
 obtain ⟨rfl,rfl⟩ := h6
 obtain ⟨cs,cv,e1,e2,e3⟩ := field_rel _ _ _ (rel_ev h x) _ h5
 refine yld_quiet h ?_ e3
 have hT := hτ T
 rw [he] at hT
 obtain ⟨_,fs,h7,h8,h9⟩ := hT
 have hfs : ∃ fd,fs[f]? = some fd := ⟨fs[f]'(by omega),by rw [Array.getElem?_eq_getElem]⟩
 obtain ⟨fd,hfd⟩ := hfs
 obtain ⟨ho1,⟨fi,hfi,hsz⟩,dd,hdd,hdf⟩ := h9 f fd hfd
 simp only [execOp,ho,e1]
 refine run_v ?_
 simp only [Instr.field,asAgg,part,pure_bind,Sem.run_bind,run_underlying h7,Result.andThen_ok,hfd,run_isAgg hdd hdf,Bool.false_eq_true,if_false,ho1,e2,Sem.run_pure]


theorem sound_binOp (hτ : TyOk P τ) (h : St R B w0 N O σ a w) {o : Oper} {op : BinOp} {T T' : TypeId} {x y : Operand} (ho : o.op = .binOp op T x y T') {d : Nat} {ks : List Nat} {z : VV}
  (hv : vres τ Φ d (.binOp op T x y T') σ = some (ks,z)) : Yld P R B O ks z (execOp a.eval o) w := by
 simp only [vres] at hv
 split at hv <;> try cases hv
 rename_i p q hp hq
 obtain ⟨r,h5,h6⟩ := map_some hv
 simp only [Prod.mk.injEq] at h6
 obtain ⟨rfl,rfl⟩ := h6
 have hx := rel_tmp h x hp
 have hy := rel_tmp h y hq
 have key : ∃ v,(Go.binOp op T (a.eval x) (a.eval y)).run P w = .ok v w ∧ (∀ A,Rd w A v r) ∧ ((∃ k n,a.eval x = .int k n) ∨ ∃ b,a.eval x = .bool b) := by
  unfold binop at h5
  split at h5
  ·rename_i d' hd
   simp only [Option.some.injEq] at h5; subst h5
   obtain ⟨v,h1,h2,h3⟩ := bin_run (P := P) (T := T) hd hx hy
   exact ⟨v,h1,h2,.inl h3⟩
  ·obtain ⟨v,h1,h2,h3⟩ := binB_run (P := P) (hτ T) h5 hx hy
   exact ⟨v,h1,h2,.inr h3⟩
 obtain ⟨v,h1,h2,h3⟩ := key
 refine yld_quiet h (v := v) ?_ (h2 _)
 simp only [execOp,ho]
 refine run_v ?_
 simp only [Sem.run_bind,eqGuard_run op T x y h3,Result.andThen_ok,h1]

theorem sound_unOp (h : St R B w0 N O σ a w) {o : Oper} {op : UnOp} {T : TypeId} {x : Operand} (ho : o.op = .unOp op T x) {d : Nat} {ks : List Nat} {z : VV}
  (hv : vres τ Φ d (.unOp op T x) σ = some (ks,z)) : Yld P R B O ks z (execOp a.eval o) w := by
 simp only [vres] at hv
 split at hv <;> try cases hv
 rename_i p hp
 obtain ⟨r,h5,h6⟩ := map_some hv
 simp only [Prod.mk.injEq] at h6
 obtain ⟨rfl,rfl⟩ := h6
 obtain ⟨v,h1,h2⟩ := una_run (P := P) (w := w) h5 (rel_tmp h x hp)
 refine yld_quiet h (v := v) ?_ (h2 _)
 simp only [execOp,ho]
 exact run_v h1

theorem sound_convert (hτ : TyOk P τ) (h : St R B w0 N O σ a w) {o : Oper} {S T : TypeId} {x : Operand} (ho : o.op = .convert S T x) {d : Nat} {ks : List Nat} {z : VV}
  (hv : vres τ Φ d (.convert S T x) σ = some (ks,z)) : Yld P R B O ks z (execOp a.eval o) w := by
 simp only [vres] at hv
 split at hv <;> try cases hv
 rename_i k k' _ n hs ht hp
 have hS := hτ S
 have hT := hτ T
 rw [hs] at hS
 rw [ht] at hT
 have hx := rel_tmp h x hp
 generalize hev : a.eval x = v at hx
 cases (hx : Rd w (Fro R O w) v _)
 refine yld_quiet h (v := .int k' (k'.wrap n)) ?_ (Rd.int _ _)
 simp only [execOp,ho,hev]
 refine run_v ?_
 simp only [convert,Sem.run_bind,run_underlying hS.2,run_underlying hT.2,Result.andThen_ok]
 rfl

theorem sound_pick (h : St R B w0 N O σ a w) {o : Oper} {c x y : Operand} (ho : o.op = .pick c x y) {d : Nat} {ks : List Nat} {z : VV}
  (hv : vres τ Φ d (.pick c x y) σ = some (ks,z)) : Yld P R B O ks z (execOp a.eval o) w := by
 simp only [vres] at hv
 split at hv <;> try cases hv
 ·rename_i hp
  have hc := rel_tmp h c hp
  generalize hev : a.eval c = v at hc
  cases (hc : Rd w (Fro R O w) v _)
  exact yld_quiet h (by simp [execOp,ho,hev,asBool]) (rel_ev h x)
 ·rename_i hp
  have hc := rel_tmp h c hp
  generalize hev : a.eval c = v at hc
  cases (hc : Rd w (Fro R O w) v _)
  exact yld_quiet h (by simp [execOp,ho,hev,asBool]) (rel_ev h y)

theorem sound_extract (h : St R B w0 N O σ a w) {o : Oper} {i : Nat} {x : Operand} (ho : o.op = .extract x i) {d : Nat} {ks : List Nat} {z : VV}
  (hv : vres τ Φ d (.extract x i) σ = some (ks,z)) : Yld P R B O ks z (execOp a.eval o) w := by
 simp only [vres] at hv
 obtain ⟨r,h5,h6⟩ := map_some hv
 simp only [Prod.mk.injEq] at h6
 obtain ⟨rfl,rfl⟩ := h6
 unfold tupVV at h5
 split at h5 <;> try cases h5
 ·rename_i p q hp
  obtain ⟨u,v,h1,h2,h3⟩ := rel_tmp h x hp
  split at h5 <;> simp only [Option.some.injEq,reduceCtorEq] at h5 <;> subst h5
  ·exact yld_quiet h (v := u) (by simp [execOp,ho,h1,Instr.extract]) h2
  ·exact yld_quiet h (v := v) (by simp [execOp,ho,h1,Instr.extract]) h3
 ·rename_i ds hp
  obtain ⟨vs,h1,h2,h3⟩ := rel_tmp h x hp
  split at h5 <;> simp only [Option.some.injEq,reduceCtorEq] at h5
  rename_i hi
  subst h5
  obtain ⟨u,h4,h5⟩ := h3 i hi
  have h6 : ds.getD i default = ds[i] := by simp [hi]
  rw [h6]
  exact yld_quiet h (v := u) (by simp [execOp,ho,h1,Instr.extract,h4]) h5

theorem sound_nilCheck (h : St R B w0 N O σ a w) {o : Oper} {x : Operand} (ho : o.op = .nilCheck x) {d : Nat} {ks : List Nat} {z : VV}
  (hv : vres τ Φ d (.nilCheck x) σ = some (ks,z)) : Yld P R B O ks z (execOp a.eval o) w := by
 simp only [vres] at hv
 obtain ⟨r,h5,h6⟩ := map_some hv
 simp only [Prod.mk.injEq] at h6
 obtain ⟨rfl,rfl⟩ := h6
 have hr := rel_ev h x
 have hz : r = ev σ x := by
  unfold nilVV at h5
  split at h5 <;> simp only [Option.some.injEq,reduceCtorEq] at h5 <;> exact h5.symm
 have hp : ∃ ad,a.eval x = .pointer (some ad) := by
  unfold nilVV at h5
  split at h5 <;> try cases h5
  ·rename_i xs hx
   rw [hx] at hr
   generalize a.eval x = v at hr
   cases (hr : Rd w _ v _) with
   | ptr => exact ⟨_,rfl⟩
  ·rename_i t p u xs hx
   rw [hx] at hr
   generalize a.eval x = v at hr
   cases u with
   | true => cases (hr : OwnU w _ _ _ v _) with
    | ptr => exact ⟨_,rfl⟩
   | false => cases (hr : OwnF _ w _ _ _ v _) with
    | ptr => exact ⟨_,rfl⟩
  ·rename_i t xs hx
   rw [hx] at hr
   generalize a.eval x = v at hr
   cases (hr : Rd w _ v _) with
   | ptr => exact ⟨_,rfl⟩
 obtain ⟨ad,hp⟩ := hp
 rw [hz]
 exact yld_quiet h (by simp [execOp,ho,hp]) hr

theorem sound_len (hτ : TyOk P τ) (h : St R B w0 N O σ a w) {o : Oper} {c : Call} (ho : o.op = .call c) {x : Operand} {T : TypeId} (hc : c.callee = .builtin .len)
  (ha : c.args.toList = [x]) (hT' : c.argTypes.toList = [T]) {e : TypeId} (hT : τ T = .sl e ∨ ∃ m,τ T = .ss e m) {n : Nat} (hn : lenVV (ev σ x) = some n) :
  Yld P R B O [] (.val (.int .i64 n)) (execOp a.eval o) w := by
 obtain ⟨ad,cp,e1,_⟩ := len_rel _ _ (rel_ev h x) _ hn
 have hk0 := hτ T
 have hk : P.underlying T = some (.slice e) := by
  rcases hT with hT | ⟨m,hT⟩ <;> rw [hT] at hk0
  ·exact hk0.2.1
  ·exact hk0.1
 have e2 : c.args = #[x] := by rw [← Array.toArray_toList (xs := c.args),ha]
 have e3 : c.argTypes = #[T] := by rw [← Array.toArray_toList (xs := c.argTypes),hT']
 refine yld_quiet h (v := .int .i64 n) ?_ (Rd.int _ _)
 simp [execOp,ho,resolve,hc,e2,e3,invoke,builtin,Builtin.len_,run_underlying hk,e1,goInt]

theorem vmm_some {mx : Bool} {x y : VV} {ks : List Nat} {z : VV} (h : vmm mx x y = some (ks,z)) : ∃ k a b,x = .val (.int k a) ∧ y = .val (.int k b) ∧ ks = [] ∧ z = .val (.int k (mmi mx a b)) := by
 unfold vmm at h
 split at h <;> try cases h
 rename_i k a k' b
 split at h <;> simp only [Option.some.injEq,reduceCtorEq,Prod.mk.injEq] at h
 rename_i e
 subst e
 exact ⟨k,a,b,rfl,rfl,h.1.symm,h.2.symm⟩
def mmB : Bool → Builtin
 | true => .max
 | false => .min
theorem sound_mm (h : St R B w0 N O σ a w) {o : Oper} {c : Call} (ho : o.op = .call c) {x y : Operand} {mx : Bool} (hc : c.callee = .builtin (mmB mx))
  (ha : c.args.toList = [x,y]) {ks : List Nat} {z : VV} (hv : vmm mx (ev σ x) (ev σ y) = some (ks,z)) : Yld P R B O ks z (execOp a.eval o) w := by
 obtain ⟨k,p,q,hx,hy,rfl,rfl⟩ := vmm_some hv
 have rx := rel_tmp h x hx
 have ry := rel_tmp h y hy
 generalize hxe : a.eval x = u at rx
 generalize hye : a.eval y = v at ry
 cases (rx : Rd w (Fro R O w) u _)
 cases (ry : Rd w (Fro R O w) v _)
 have e2 : c.args = #[x,y] := by rw [← Array.toArray_toList (xs := c.args),ha]
 cases mx with
 | true =>
  refine yld_quiet h (v := .int k (imax p q)) ?_ (Rd.int _ _)
  simp [execOp,ho,resolve,hc,mmB,e2,invoke,builtin,Builtin.max_,Builtin.max2,imax,hxe,hye]
 | false =>
  refine yld_quiet h (v := .int k (imin p q)) ?_ (Rd.int _ _)
  simp [execOp,ho,resolve,hc,mmB,e2,invoke,builtin,Builtin.min_,Builtin.min2,imin,hxe,hye]

theorem sliceBound_run {k : IntKind} {i : Int} {y : Nat} {c : BoundsCode} (h0 : 0 ≤ i) (h1 : i ≤ y) : (Instr.sliceBound (.int k i) y c).run P w = .ok i.toNat w := by
 simp [Instr.sliceBound,asIntOf,h0,h1]

theorem sound_slice (hτ : TyOk P τ) (h : St R B w0 N O σ a w) {o : Oper} {T : TypeId} {x : Operand} {lo hi : Option Operand} (ho : o.op = .slice T x lo hi none) {d : Nat} {ks : List Nat} {z : VV}
  (hv : vres τ Φ d (.slice T x lo hi none) σ = some (ks,z)) : Yld P R B O ks z (execOp a.eval o) w := by
 simp only [vres] at hv
 split at hv <;> try cases hv
 rename_i e l n hT hl hn
 split at hv <;> try cases hv
 rename_i hh hhi
 obtain ⟨r,h5,h6⟩ := map_some hv
 simp only [Prod.mk.injEq] at h6
 obtain ⟨rfl,rfl⟩ := h6
 obtain ⟨ad,n',c,e1,e2,e3,e4,e5,e6⟩ := slice_rel h l hh _ _ (rel_ev h x) _ h5
 obtain ⟨ad2,c2,f1,_⟩ := len_rel _ _ (rel_ev h x) _ hn
 have hnn : n' = n := by rw [e1] at f1; simp only [Value.slice.injEq] at f1; exact f1.2.1
 subst hnn
 have hk := hτ T
 rw [hT] at hk
 obtain ⟨_,hu,ie,hie,hse⟩ := hk
 refine yld_quiet h ?_ (e6 _ rfl)
 simp only [execOp,ho,e1]
 refine run_v ?_
 have b1 : ∀ (b : BoundsCode),(match hi with | some v => Instr.sliceBound (a.eval v) c b | none => (pure n' : Sem Nat)).run P w = .ok hh.toNat w := by
  intro b
  cases hi with
  | none => simp only [Option.some.injEq] at hhi; subst hhi; simp
  | some v =>
   obtain ⟨k,hk⟩ := int_rel (rel_ev h v) hhi
   simp only [hk]
   exact sliceBound_run (by omega) (by omega)
 have b2 : ∀ (b : BoundsCode),(match lo with | some v => Instr.sliceBound (a.eval v) hh.toNat b | none => (pure 0 : Sem Nat)).run P w = .ok l.toNat w := by
  intro b
  cases lo with
  | none => simp only [Option.some.injEq] at hl; subst hl; simp
  | some v =>
   obtain ⟨k,hk⟩ := int_rel (rel_ev h v) hl
   simp only [hk]
   exact sliceBound_run (by omega) (by omega)
 have hb : (Instr.sliceBounds true n' c (lo.map a.eval) (hi.map a.eval) none).run P w = .ok (l.toNat,hh.toNat,c) w := by
  have c1 := b1 .sliceAcap
  have c2 := b2 .sliceB
  cases hi <;> cases lo <;> simp only [Option.map_some,Option.map_none] at c1 c2 ⊢ <;>
   simp [Instr.sliceBounds] <;> simp_all
 simp only [Instr.sliceAt,Sem.run_bind,run_underlying hu,Result.andThen_ok,Instr.slice,Option.map_none,hb,sizeOf_run hie,hse,Nat.mul_one,Sem.run_pure]

end
end Go.Vam
