/- Maps from numbers to numbers that a call makes for itself, and loops over them. -/
import Derived.Test.YtijmfifejmgeaaaVamT
import Derived.Maps.RangeRun
import Derived.Carry
namespace Go.Vam
set_option linter.unusedVariables false
open Go Go.RowKit
set_option linter.unusedSimpArgs false
open Go.ChangeMaps (setBlock)

section
variable {P : Program} {τ : TypeId → TK} {Φ : Orc} {R B : Nat → Prop} {w0 : W0} {N : Lim} {O : Own} {σ : Frm} {a : Act} {w : World}

def OStep (P : Program) (N : Lim) (o : Oper) (σ : Frm) {ι : Type} (F : ι → Frm) (A : ι → Prop) : Prop :=
  ∀ (R B : Nat → Prop) (w0 : W0) (O : Own) (a : Act) (w : World) (K : Act → World → Prop) (Q : Exit → Act → World → Prop),
    St R B w0 N O σ a w → (∀ i O' a' w', A i → St R B w0 N O' (F i) a' w' → K a' w') → o.wp P a w K Q

theorem vrun_pre (hτ : TyOk P τ) (hΦ : Sound P Φ) {ops : Array Oper} {Q : Exit → Act → World → Prop} : ∀ (l l2 : List Oper) {σ σ' : Frm} {O : Own} {a : Act} {w : World}, St R B w0 N O σ a w → vrun τ Φ N ops l σ = some σ' →
    (∀ O' a' w', St R B w0 N O' σ' a' w' → wpList P ops Q l2 a' w') → wpList P ops Q (l ++ l2) a w
  | [], l2, σ, σ', O, a, w, h, hv, hQ => by
    simp only [vrun, Option.some.injEq] at hv
    subst hv
    exact hQ O a w h
  | o :: r, l2, σ, σ', O, a, w, h, hv, hQ => by
    simp only [vrun] at hv
    split at hv <;> try cases hv
    rename_i e he
    refine wpList_step fun K hK => ?_
    exact vact_sound hτ hΦ h he fun O' a' w' h' => hK a' w' (vrun_pre hτ hΦ r l2 h' hv hQ)

theorem st_pick {fl f1 : FL} (h : St R B w0 N O (mk fl) a w) (e : pickL (f1.map (·.1)) fl = f1) : St R B w0 N O (mk f1) a w := by
  rw [← e, ← keep_mk]
  exact h.forget (keep_spec _ _)

theorem VW.mid (hτ : TyOk P τ) (hΦ : Sound P Φ) (ds : List (Option Nat)) (k : Nat) (f1 : FL) {ι : Type} (F f2 : ι → FL) (A : ι → Prop) {id : Nat} {l : List Oper} {y : Code} {fl : FL} {Q : Exit → Frm → Prop}
    (o : Oper) (hds : l.map (·.dst) = ds) (ho : l[k]? = some o) (hg : o.guard = none)
    (h1 : AfterL (runL τ Φ N ds (l.take k) fl) fun f => pickL (f1.map (·.1)) f = f1)
    (hs : OStep P N o (mk f1) (fun i => mk (F i)) A)
    (h2 : ∀ i, A i → AfterL (runL τ Φ N ds (l.drop (k + 1)) (F i)) fun f => pickL ((f2 i).map (·.1)) f = f2 i)
    (h3 : ∀ i, A i → VW P N y (mk (f2 i)) Q) : VW P N (.seq (.region id l.toArray false) y) (mk fl) Q := by
  subst hds
  refine VW.seq ?_
  intro R B w0 O a w hst
  have el : l.take k ++ o :: l.drop (k + 1) = l := by
    obtain ⟨hk, e⟩ := List.getElem?_eq_some_iff.1 ho
    rw [← e, ← List.drop_eq_getElem_cons hk, List.take_append_drop]
  refine wp_region_lit ?_
  have : wpList P l.toArray (fun e a' w' => ∃ O' σ', St R B w0 N O' σ' a' w' ∧ Nx (fun σ' => VW P N y σ' Q) Q e σ') (l.take k ++ o :: l.drop (k + 1)) a w := by
    cases hv : runL τ Φ N (l.map (·.dst)) (l.take k) fl with
    | none => rw [hv] at h1; exact h1.elim
    | some f1' =>
      rw [hv] at h1
      refine vrun_pre hτ hΦ (l.take k) (o :: l.drop (k + 1)) hst (runL_ok (l0 := l) (l.take k) fl f1' hv) fun O1 a1 w1 hst1 => ?_
      have hst2 := st_pick hst1 h1
      refine wpList_step fun K hK => ?_
      have hw : Region.wanted o (yielded l.toArray a1.tmps) = true := by simp [Region.wanted, hg]
      rw [if_pos hw]
      refine hs R B w0 O1 a1 w1 K _ hst2 fun i O2 a2 w2 hA hst3 => hK a2 w2 ?_
      have h2' := h2 i hA
      cases hv2 : runL τ Φ N (l.map (·.dst)) (l.drop (k + 1)) (F i) with
      | none => rw [hv2] at h2'; exact h2'.elim
      | some f2' =>
        rw [hv2] at h2'
        refine vrun_sound hτ hΦ (l.drop (k + 1)) hst3 (runL_ok (l0 := l) (l.drop (k + 1)) (F i) f2' hv2) fun O3 a3 w3 hst4 => ?_
        exact ⟨O3, mk (f2 i), st_pick hst4 h2', h3 i hA⟩
  rwa [el] at this
theorem VW.midr (hτ : TyOk P τ) (hΦ : Sound P Φ) (ds : List (Option Nat)) (k : Nat) (f1 : FL) {ι : Type} (F f2 : ι → FL) (A : ι → Prop) {id : Nat} {l : List Oper} {fl : FL} {Q : Exit → Frm → Prop}
    (o : Oper) (hds : l.map (·.dst) = ds) (ho : l[k]? = some o) (hg : o.guard = none)
    (h1 : AfterL (runL τ Φ N ds (l.take k) fl) fun f => pickL (f1.map (·.1)) f = f1)
    (hs : OStep P N o (mk f1) (fun i => mk (F i)) A)
    (h2 : ∀ i, A i → AfterL (runL τ Φ N ds (l.drop (k + 1)) (F i)) fun f => pickL ((f2 i).map (·.1)) f = f2 i)
    (h3 : ∀ i, A i → Q .normal (mk (f2 i))) : VW P N (.region id l.toArray false) (mk fl) Q := by
  subst hds
  intro R B w0 O a w hst
  have el : l.take k ++ o :: l.drop (k + 1) = l := by
    obtain ⟨hk, e⟩ := List.getElem?_eq_some_iff.1 ho
    rw [← e, ← List.drop_eq_getElem_cons hk, List.take_append_drop]
  refine wp_region_lit ?_
  have : wpList P l.toArray (fun e a' w' => ∃ O' σ', St R B w0 N O' σ' a' w' ∧ Q e σ') (l.take k ++ o :: l.drop (k + 1)) a w := by
    cases hv : runL τ Φ N (l.map (·.dst)) (l.take k) fl with
    | none => rw [hv] at h1; exact h1.elim
    | some f1' =>
      rw [hv] at h1
      refine vrun_pre hτ hΦ (l.take k) (o :: l.drop (k + 1)) hst (runL_ok (l0 := l) (l.take k) fl f1' hv) fun O1 a1 w1 hst1 => ?_
      have hst2 := st_pick hst1 h1
      refine wpList_step fun K hK => ?_
      have hw : Region.wanted o (yielded l.toArray a1.tmps) = true := by simp [Region.wanted, hg]
      rw [if_pos hw]
      refine hs R B w0 O1 a1 w1 K _ hst2 fun i O2 a2 w2 hA hst3 => hK a2 w2 ?_
      have h2' := h2 i hA
      cases hv2 : runL τ Φ N (l.map (·.dst)) (l.drop (k + 1)) (F i) with
      | none => rw [hv2] at h2'; exact h2'.elim
      | some f2' =>
        rw [hv2] at h2'
        refine vrun_sound hτ hΦ (l.drop (k + 1)) hst3 (runL_ok (l0 := l) (l.drop (k + 1)) (F i) f2' hv2) fun O3 a3 w3 hst4 => ?_
        exact ⟨O3, mk (f2 i), st_pick hst4 h2', h3 i hA⟩
  rwa [el] at this

theorem mk_upd_kill (d : Nat) (x : VV) (ks : List Nat) (fl : FL) : mk ((d, x) :: fl.map fun q => (q.1, kmap ks q.2)) = upd (killl ks (mk fl)) d x := by
  funext s
  simp only [upd, mk_cons]
  rw [mk_map (kmap ks) (kmap_dead ks)]
  rfl
theorem mk_upd (d : Nat) (x : VV) (fl : FL) : mk ((d, x) :: fl) = upd (mk fl) d x := by
  funext s
  simp only [upd, mk_cons]

theorem Made.fresh (h : St R B w0 N O σ a w) (d : Nat) (obj : Obj) (x : VV) (v : Value)
    (hr : ∀ O' : Own, O' w.heap.size = some (d, []) → (∀ g t p, O g = some (t, p) → t ≠ d → O' g = some (t, p)) → Rel R (w.alloc obj) O' x v) :
    ∃ O', Made R B w (w.alloc obj) O O' [d] x v := by
  let O' : Own := fun g => if g = w.heap.size then some (d, []) else match O g with | some (t, p) => if t = d then none else some (t, p) | none => none
  have h1 : O' w.heap.size = some (d, []) := by simp [O']
  have h2 : ∀ g, g ≠ w.heap.size → O' g = (match O g with | some (t, p) => if t = d then none else some (t, p) | none => none) := fun g hg => by simp only [O', if_neg hg]
  have h3 : ∀ g t p, O' g = some (t, p) → g = w.heap.size ∧ t = d ∧ p = [] ∨ g ≠ w.heap.size ∧ O g = some (t, p) ∧ t ≠ d := by
    intro g t p hg
    by_cases e : g = w.heap.size
    · subst e; rw [h1] at hg; simp only [Option.some.injEq, Prod.mk.injEq] at hg; exact .inl ⟨rfl, hg.1.symm, hg.2.symm⟩
    · rw [h2 g e] at hg
      split at hg
      · rename_i t' p' hO
        split at hg
        · cases hg
        · rename_i hne
          simp only [Option.some.injEq, Prod.mk.injEq] at hg
          obtain ⟨rfl, rfl⟩ := hg
          exact .inr ⟨e, hO, hne⟩
      · cases hg
  have hget : ∀ g, g < w.heap.size → (w.alloc obj).heap[g]? = w.heap[g]? := fun g hg => heap_alloc_old w _ hg
  have hsz : (w.alloc obj).heap.size = w.heap.size + 1 := by simp
  have h4 : ∀ g t p, O g = some (t, p) → t ≠ d → O' g = some (t, p) := by
    intro g t p hg ht
    have := (h.own g _ hg).2
    rw [h2 g (by omega), hg]
    simp only [if_neg ht]
  refine ⟨O', ⟨by omega, fun g hg hn => ⟨by rw [h2 g (by omega), hn], hget g hg⟩, fun g t p hg htk => ?_⟩, ⟨rfl, rfl, rfl, by omega, fun g hg => hget g (h.base g hg)⟩, ?_, ?_, ?_⟩
  · exact ⟨h4 g t p hg (by simpa using htk), hget g (h.own g _ hg).2⟩
  · rintro g ⟨t, p⟩ hg
    rcases h3 g t p hg with ⟨rfl, _, _⟩ | ⟨_, e, _⟩
    · exact ⟨h.newB (Nat.le_refl _), by omega⟩
    · exact ⟨(h.own g _ e).1, by have := (h.own g _ e).2; omega⟩
  · rintro g g' ⟨t, p⟩ e1 e2
    rcases h3 g t p e1 with ⟨a1, a2, a3⟩ | ⟨a1, a2, a3⟩ <;> rcases h3 g' t p e2 with ⟨b1, b2, b3⟩ | ⟨b1, b2, b3⟩
    · rw [a1, b1]
    · exact absurd a2 b3
    · exact absurd b2 a3
    · exact h.inj g g' _ a2 b2
  · exact hr O' h1 h4

/-! ### The entries -/
theorem entL_len : ∀ (es : List (Int × Int)) (n : Nat), (entL n es).length = es.length
  | [], _ => rfl
  | e :: r, n => by simp [entL, entL_len r]
theorem entL_app : ∀ (es : List (Int × Int)) (n : Nat) (e : Int × Int), entL n (es ++ [e]) = entL n es ++ [⟨.int .i64 e.1, .int .i64 e.2, n + es.length⟩]
  | [], n, e => by simp [entL]
  | x :: r, n, e => by
    simp only [List.cons_append, entL, entL_app r, List.length_cons]
    rw [show n + 1 + r.length = n + (r.length + 1) by omega]
theorem entL_get : ∀ (es : List (Int × Int)) (n i : Nat) (h : i < es.length), (entL n es)[i]? = some ⟨.int .i64 es[i].1, .int .i64 es[i].2, n + i⟩
  | e :: r, n, 0, _ => by simp [entL]
  | e :: r, n, i + 1, h => by
    simp only [entL, List.getElem?_cons_succ, List.getElem_cons_succ]
    rw [entL_get r (n + 1) i (by simpa using h), show n + 1 + i = n + (i + 1) by omega]
theorem entL_mem {es : List (Int × Int)} {n : Nat} {x : MapEntry} (h : x ∈ entL n es) : ∃ i, ∃ hi : i < es.length, x = ⟨.int .i64 es[i].1, .int .i64 es[i].2, n + i⟩ := by
  obtain ⟨i, hi, e⟩ := List.getElem_of_mem h
  rw [entL_len] at hi
  have := entL_get es n i hi
  rw [List.getElem?_eq_getElem (by rw [entL_len]; exact hi), e] at this
  exact ⟨i, hi, Option.some.inj this⟩
theorem entL_born (es : List (Int × Int)) : ∀ n, (entL n es).map (·.born) = List.range' n es.length := by
  induction es with
  | nil => intro n; rfl
  | cons e r ih => intro n; simp only [entL, List.map_cons, ih, List.length_cons, List.range'_succ]
def hasK (es : List (Int × Int)) (k : Int) : Bool := es.any fun e => decide (e.1 = k)
def lookD (es : List (Int × Int)) (k : Int) : Int := ((es.find? fun e => decide (e.1 = k)).map (·.2)).getD 0
theorem findNow_entL (k : Int) : ∀ (es : List (Int × Int)) (n i : Nat), (hasK es k = false ∧ Instr.findNow (.int .i64) (.int .i64 k) (entL n es) i = some none) ∨
    (hasK es k = true ∧ ∃ j, Instr.findNow (.int .i64) (.int .i64 k) (entL n es) i = some (some (j, .int .i64 (lookD es k))))
  | [], n, i => .inl ⟨rfl, rfl⟩
  | e :: r, n, i => by
    by_cases h : e.1 = k
    · refine .inr ⟨by simp [hasK, h], i, ?_⟩
      simp [entL, Instr.findNow, Instr.sameNow, h, lookD]
    · have h' : (k == e.1) = false := by simpa using fun x => h x.symm
      rcases findNow_entL k r (n + 1) (i + 1) with ⟨a1, a2⟩ | ⟨a1, j, a2⟩
      · refine .inl ⟨by simp [hasK, h] at a1 ⊢; exact a1, ?_⟩
        simp [entL, Instr.findNow, Instr.sameNow, h', a2]
      · refine .inr ⟨by simp [hasK, h] at a1 ⊢; exact a1, j, ?_⟩
        simp [entL, Instr.findNow, Instr.sameNow, h', a2, lookD, h]

/-! ### The operations -/
theorem step_makeMap {o : Oper} {T : TypeId} {d : Nat} {fl : FL} (ho : o.op = .makeMap T none) (hd : o.dst = some d) (hN : d ∈ N) :
    OStep P N o (mk fl) (fun _ : Unit => mk ((d, .mp d []) :: fl.map fun q => (q.1, kmap [d] q.2))) (fun _ => True) := by
  intro R B w0 O a w K Q hst hK
  obtain ⟨O', hm⟩ := Made.fresh hst d (.map #[] 0) (.mp d []) (.map (some w.heap.size)) (fun O' h1 _ => ⟨w.heap.size, #[], rfl, h1, heap_alloc_new w _, rfl⟩)
  refine wp_val (v := .map (some w.heap.size)) (w' := w.alloc (.map #[] 0)) ?_ ?_
  · simp only [execOp, ho]
    exact run_v (run_makeMap T w)
  · rw [hd]
    refine hK () O' _ _ trivial ?_
    rw [mk_upd_kill]
    exact hst.made hm hN

theorem step_range {o : Oper} {T k e : TypeId} {d s tm : Nat} {es : List (Int × Int)} {fl : FL} (ho : o.op = .range T (.tmp s)) (hd : o.dst = some d) (hN : d ∈ N) (hT : P.underlying T = some (.map k e)) (hs : mk fl s = .mp tm es) (hne : tm ≠ d) :
    OStep P N o (mk fl) (fun _ : Unit => mk ((d, .itr d tm es []) :: fl.map fun q => (q.1, kmap [d] q.2))) (fun _ => True) := by
  intro R B w0 O a w K Q hst hK
  have hr := hst.slots s
  rw [hs] at hr
  obtain ⟨g, cur, h1, h2, h3, h4⟩ := hr
  have hgs := (hst.own g _ h2).2
  obtain ⟨O', hm⟩ := Made.fresh hst d (.mapIter (some g) es.length #[] es.length) (.itr d tm es []) (.pointer (some ⟨w.heap.size, 0, none⟩)) (fun O' e1 e2 => ⟨w.heap.size, g, cur, rfl, e1, e2 g tm [] h2 hne, heap_alloc_new w _, by rw [heap_alloc_old w _ hgs]; exact h3, h4⟩)
  refine wp_val (v := .pointer (some ⟨w.heap.size, 0, none⟩)) (w' := w.alloc (.mapIter (some g) es.length #[] es.length)) ?_ ?_
  · simp only [execOp, ho]
    have : a.eval (.tmp s) = .map (some g) := h1
    rw [this]
    exact run_v (run_range_map w T k e g cur es.length hT h3)
  · rw [hd]
    refine hK () O' _ _ trivial ?_
    rw [mk_upd_kill]
    exact hst.made hm hN

theorem run_checkKey_int {k : TypeId} (hk : P.underlying k = some (.int .i64)) (b : Bool) (x : Int) (w : World) : (Instr.checkKey b 10000 k (.int .i64 x)).run P w = .ok () w :=
  MapKept.run_checkKey hk (show MapKept.IsKey (.int .i64) (.int .i64 x) from rfl) b 9999
theorem run_findKey {k : TypeId} (hk : P.underlying k = some (.int .i64)) {x : Int} {l : List MapEntry} {r : Option (Nat × Value)} (h : Instr.findNow (.int .i64) (.int .i64 x) l 0 = some r) (w : World) : (Instr.findKey k (.int .i64 x) l).run P w = .ok r w := by
  simp [Instr.findKey, run_underlying hk, h]

theorem step_lookup {o : Oper} {T k e : TypeId} {d s sk t : Nat} {es : List (Int × Int)} {n : Int} {fl : FL} (ho : o.op = .lookup T (.tmp s) (.tmp sk) true) (hd : o.dst = some d) (hN : d ∈ N) (hT : P.underlying T = some (.map k e)) (hk : P.underlying k = some (.int .i64))
    (hz : ∀ w, (zeroValue e).run P w = .ok (.int .i64 0) w) (hs : mk fl s = .mp t es) (hsk : mk fl sk = .val (.int .i64 n)) :
    OStep P N o (mk fl) (fun _ : Unit => mk ((d, .tup (.val (.int .i64 (if hasK es n then lookD es n else 0))) (.val (.bool (hasK es n)))) :: fl)) (fun _ => True) := by
  intro R B w0 O a w K Q hst hK
  have hr := hst.slots s
  rw [hs] at hr
  obtain ⟨g, cur, h1, h2, h3, h4⟩ := hr
  have hr2 := hst.slots sk
  rw [hsk] at hr2
  have e1 : a.eval (.tmp s) = .map (some g) := h1
  have e2 : a.eval (.tmp sk) = .int .i64 n := by
    show a.tmps.getD sk undef = _
    generalize a.tmps.getD sk undef = v at hr2
    cases (hr2 : Rd w (Fro R O w) v _)
    rfl
  unfold Ents at h4
  have hrun : (Instr.lookup T (.map (some g)) (.int .i64 n) true).run P w = .ok (.tuple #[.int .i64 (if hasK es n then lookD es n else 0), .bool (hasK es n)]) w := by
    rcases findNow_entL n es 0 0 with ⟨b1, b2⟩ | ⟨b1, j, b2⟩
    · have hf : (Instr.findKey k (.int .i64 n) cur.toList).run P w = .ok none w := by rw [h4]; exact run_findKey hk b2 w
      simp [Instr.lookup, run_underlying hT, MapKept.run_getObj_map h3, run_checkKey_int hk, hf, hz, b1]
    · have hf : (Instr.findKey k (.int .i64 n) cur.toList).run P w = .ok (some (j, .int .i64 (lookD es n))) w := by rw [h4]; exact run_findKey hk b2 w
      simp [Instr.lookup, run_underlying hT, MapKept.run_getObj_map h3, run_checkKey_int hk, hf, b1]
  refine wp_val (v := .tuple #[.int .i64 (if hasK es n then lookD es n else 0), .bool (hasK es n)]) (w' := w) ?_ ?_
  · simp only [execOp, ho, e1, e2]
    exact run_v hrun
  · rw [hd]
    refine hK () O _ _ trivial ?_
    rw [mk_upd]
    have := hst.made (ks := []) (x := .tup (.val (.int .i64 (if hasK es n then lookD es n else 0))) (.val (.bool (hasK es n)))) (v := .tuple #[.int .i64 (if hasK es n then lookD es n else 0), .bool (hasK es n)]) (d := d)
      ⟨Keeps.refl _ _ _, .refl _ _, hst.own, hst.inj, _, _, rfl, Rd.int _ _, Rd.bool _⟩ hN
    rwa [killl_nil] at this

def mpPut (t : Nat) (es' : List (Int × Int)) (x : VV) : VV := match x with
  | .mp r es => if r = t then .mp r es' else .mp r es
  | y => if y.on t then .dead else y
theorem setBlock_get {w : World} {g : Nat} {o o' : Obj} (h : w.heap[g]? = some o) : (setBlock w g o').heap[g]? = some o' := by
  obtain ⟨hg, _⟩ := Array.getElem?_eq_some_iff.1 h
  simp [setBlock, hg]
theorem setBlock_other {w : World} {g i : Nat} {o' : Obj} (h : i ≠ g) : (setBlock w g o').heap[i]? = w.heap[i]? := by
  simp only [setBlock]
  rw [Array.getElem?_setIfInBounds_ne (fun e => h e.symm)]
theorem setBlock_size {w : World} {g : Nat} {o' : Obj} : (setBlock w g o').heap.size = w.heap.size := by simp [setBlock]
theorem st_setBlock {g t : Nat} {o o' : Obj} {f : VV → VV} (h : St R B w0 N O σ a w) (hg : O g = some (t, [])) (ho : w.heap[g]? = some o)
    (hf : ∀ x v, Rel R w O x v → f x = .dead ∨ (x.on t = false ∧ f x = x) ∨ Rel R (setBlock w g o') O (f x) v) : St R B w0 N O (fun s => f (σ s)) a (ChangeMaps.setBlock w g o') := by
  have k : Keeps w (ChangeMaps.setBlock w g o') O O (fun r => r = t) := by
    refine ⟨by rw [setBlock_size]; exact Nat.le_refl _, fun i hi hn => ⟨hn, setBlock_other fun e => ?_⟩, fun i r p hi hr => ⟨hi, setBlock_other fun e => ?_⟩⟩
    · rw [e, hg] at hn; cases hn
    · rw [e, hg] at hi
      simp only [Option.some.injEq, Prod.mk.injEq] at hi
      exact hr hi.1.symm
  refine ⟨h.below.trans ⟨rfl, rfl, rfl, by rw [setBlock_size]; exact Nat.le_refl _, fun i hi => setBlock_other fun e => (h.own g _ hg).1 (e ▸ hi)⟩, fun i hi => by rw [setBlock_size]; exact h.base i hi, h.fresh, fun i x hi => by rw [setBlock_size]; exact h.own i x hi, h.inj, h.size, h.defers, h.pin, fun s => ?_⟩
  rcases hf (σ s) _ (h.slots s) with e | ⟨e1, e2⟩ | e
  · rw [e]; exact trivial
  · rw [e2]; exact (h.slots s).keeps k fun r hr => by rw [hr]; exact e1
  · exact e

theorem step_mapUpdate {o : Oper} {T k e : TypeId} {s sk sv t : Nat} {es : List (Int × Int)} {n m : Int} {fl : FL} (ho : o.op = .mapUpdate T (.tmp s) (.tmp sk) (.tmp sv)) (hd : o.dst = none) (hT : P.underlying T = some (.map k e)) (hk : P.underlying k = some (.int .i64))
    (hs : mk fl s = .mp t es) (hsk : mk fl sk = .val (.int .i64 n)) (hsv : mk fl sv = .val (.int .i64 m)) (hnew : hasK es n = false) :
    OStep P N o (mk fl) (fun _ : Unit => mk (fl.map fun q => (q.1, mpPut t (es ++ [(n, m)]) q.2))) (fun _ => True) := by
  intro R B w0 O a w K Q hst hK
  have hr := hst.slots s
  rw [hs] at hr
  obtain ⟨g, cur, h1, h2, h3, h4⟩ := hr
  have val : ∀ {s : Nat} {n : Int}, mk fl s = .val (.int .i64 n) → a.eval (.tmp s) = .int .i64 n := by
    intro s n hsk
    have hr2 := hst.slots s
    rw [hsk] at hr2
    show a.tmps.getD s undef = _
    generalize a.tmps.getD s undef = v at hr2
    cases (hr2 : Rd w (Fro R O w) v _)
    rfl
  have e1 : a.eval (.tmp s) = .map (some g) := h1
  have e2 := val hsk
  have e3 := val hsv
  have h4' : cur = (entL 0 es).toArray := h4
  have hsz : cur.size = es.length := by rw [h4']; simp [entL_len]
  have hf : (Instr.findKey k (.int .i64 n) cur.toList).run P w = .ok none w := by
    rcases findNow_entL n es 0 0 with ⟨b1, b2⟩ | ⟨b1, j, b2⟩
    · rw [h4']; exact run_findKey hk b2 w
    · rw [hnew] at b1; cases b1
  have hset : (setObj g (.map (cur.push { key := .int .i64 n, val := .int .i64 m, born := es.length }) (es.length + 1))).run P w = .ok () (setBlock w g (.map (cur.push { key := .int .i64 n, val := .int .i64 m, born := es.length }) (es.length + 1))) := by
    simp [setObj, Sem.run, h3, setBlock]
  have hrun : (Instr.mapUpdate T (.map (some g)) (.int .i64 n) (.int .i64 m)).run P w = .ok () (setBlock w g (.map (cur.push { key := .int .i64 n, val := .int .i64 m, born := es.length }) (es.length + 1))) := by
    simp [Instr.mapUpdate, run_underlying hT, MapKept.run_getObj_map h3, run_checkKey_int hk, hf, hset]
  have hst' : St R B w0 N O (fun s => mpPut t (es ++ [(n, m)]) (mk fl s)) a (setBlock w g (.map (cur.push { key := .int .i64 n, val := .int .i64 m, born := es.length }) (es.length + 1))) := by
    refine st_setBlock hst h2 h3 fun x v hx => ?_
    unfold mpPut
    split
    · rename_i r es1
      by_cases hrt : r = t
      · subst hrt
        rw [if_pos rfl]
        obtain ⟨g1, cur1, q1, q2, q3, q4⟩ := hx
        have hgg := hst.inj g1 g _ q2 h2
        subst hgg
        refine .inr (.inr ⟨g1, cur.push { key := .int .i64 n, val := .int .i64 m, born := es.length }, q1, h2, ?_, ?_⟩)
        · rw [setBlock_get h3]; simp
        · show _ = (entL 0 (es ++ [(n, m)])).toArray
          rw [entL_app, h4']; simp
      · rw [if_neg hrt]
        exact .inr (.inl ⟨by simp [VV.on, hrt], rfl⟩)
    · split
      · exact .inl rfl
      · rename_i hno
        exact .inr (.inl ⟨by simpa using hno, rfl⟩)
  unfold Oper.wp
  have : (execOp a.eval o).run P w = .ok .skip (setBlock w g (.map (cur.push { key := .int .i64 n, val := .int .i64 m, born := es.length }) (es.length + 1))) := by
    simp only [execOp, ho, e1, e2, e3]
    simp [Sem.run_bind, hrun, Result.andThen]
  rw [this]
  simp only [Oper.upon, hd, Act.put]
  refine hK () O a _ trivial ?_
  have e4 : (fun s => mpPut t (es ++ [(n, m)]) (mk fl s)) = mk (fl.map fun q => (q.1, mpPut t (es ++ [(n, m)]) q.2)) := by
    funext s
    rw [mk_map (mpPut t (es ++ [(n, m)])) (by simp [mpPut, VV.on])]
  rw [← e4]
  exact hst'

theorem step_entry {o : Oper} {d s t tm i : Nat} {es : List (Int × Int)} {seen : List Nat} {fl : FL} (ho : o.op = .entry (.tmp s)) (hd : o.dst = some d) (hN : d ∈ N) (hs : mk fl s = .itr t tm es (seen ++ [i])) (hi : i < es.length) :
    OStep P N o (mk fl) (fun _ : Unit => mk ((d, .tup (.val (.int .i64 es[i].1)) (.val (.int .i64 es[i].2))) :: fl)) (fun _ => True) := by
  intro R B w0 O a w K Q hst hK
  have hr := hst.slots s
  rw [hs] at hr
  obtain ⟨gi, gm, cur, h1, h2, h3, h4, h5, h6⟩ := hr
  have e1 : a.eval (.tmp s) = .pointer (some ⟨gi, 0, none⟩) := h1
  have h6' : cur = (entL 0 es).toArray := h6
  have hmem : (⟨.int .i64 es[i].1, .int .i64 es[i].2, i⟩ : MapEntry) ∈ cur.toList := by
    rw [h6']
    have := entL_get es 0 i hi
    rw [Nat.zero_add] at this
    exact List.mem_of_getElem? this
  have hnd : (cur.toList.map (·.born)).Nodup := by
    rw [h6']
    show ((entL 0 es).map (·.born)).Nodup
    rw [entL_born]
    exact List.nodup_range'
  have h4' : w.heap[gi]? = some (.mapIter (some gm) es.length ((seen.toArray).push i) es.length) := by rw [h4]; simp
  have hrun := run_entry_at (P := P) w gi gm es.length seen.toArray cur es.length ⟨.int .i64 es[i].1, .int .i64 es[i].2, i⟩ h4' h5 hmem hnd
  refine wp_val (v := .tuple #[.int .i64 es[i].1, .int .i64 es[i].2]) (w' := w) ?_ ?_
  · simp only [execOp, ho, e1]
    exact run_v hrun
  · rw [hd]
    refine hK () O _ _ trivial ?_
    rw [mk_upd]
    have := hst.made (ks := []) (x := .tup (.val (.int .i64 es[i].1)) (.val (.int .i64 es[i].2))) (v := .tuple #[.int .i64 es[i].1, .int .i64 es[i].2]) (d := d)
      ⟨Keeps.refl _ _ _, .refl _ _, hst.own, hst.inj, _, _, rfl, Rd.int _ _, Rd.int _ _⟩ hN
    rwa [killl_nil] at this

def itPut (t : Nat) (seen' : List Nat) (x : VV) : VV := match x with
  | .itr r m es seen => if r = t then (if m = t then .dead else .itr r m es seen') else if m = t then .dead else .itr r m es seen
  | y => if y.on t then .dead else y
theorem VW.next {id : Nat} {o1 o2 : Oper} {s t tm d1 d2 : Nat} {es : List (Int × Int)} {seen : List Nat} {fl : FL} {y : Code} {Q : Exit → Frm → Prop}
    (h1 : o1.op = .next (.tmp s) false) (hd1 : o1.dst = some d1) (hN1 : d1 ∈ N) (g1 : o1.guard = none)
    (h2 : o2.op = .extract (.tmp d1) 0) (hd2 : o2.dst = some d2) (hN2 : d2 ∈ N) (g2 : o2.guard = none)
    (hs : mk fl s = .itr t tm es seen)
    (hover : (∀ i, i < es.length → i ∈ seen) → VW P N y (mk ((d2, .val (.bool false)) :: (d1, .dead) :: fl)) Q)
    (hmore : ∀ i, i < es.length → i ∉ seen → VW P N y (mk ((d2, .val (.bool true)) :: (d1, .dead) :: fl.map fun q => (q.1, itPut t (seen ++ [i]) q.2))) Q) :
    VW P N (.seq (.region id [o1, o2].toArray false) y) (mk fl) Q := by
  refine VW.seq ?_
  intro R B w0 O a w hst
  refine wp_region_lit ?_
  have hr := hst.slots s
  rw [hs] at hr
  obtain ⟨gi, gm, cur, q1, q2, q3, q4, q5, q6⟩ := hr
  have e1 : a.eval (.tmp s) = .pointer (some ⟨gi, 0, none⟩) := q1
  have q6' : cur = (entL 0 es).toArray := q6
  have hw1 : Region.wanted o1 (yielded [o1, o2].toArray a.tmps) = true := by simp [Region.wanted, g1]
  have two : ∀ (b : Bool) (rest : List Value) (fl' : FL) (w1 : World), (execOp a.eval o1).run P w = .ok (.value (.tuple (.bool b :: rest).toArray)) w1 → St R B w0 N O (mk fl') a w1 → VW P N y (mk ((d2, .val (.bool b)) :: (d1, .dead) :: fl')) Q →
      wpList P [o1, o2].toArray (fun e a' w' => ∃ O' σ', St R B w0 N O' σ' a' w' ∧ Nx (fun σ' => VW P N y σ' Q) Q e σ') [o1, o2] a w := by
    intro b rest fl' w1 hrun hst1 hy
    refine wpList_step fun K hK => ?_
    rw [if_pos hw1]
    refine wp_val hrun (hK _ _ ?_)
    have hst2 : St R B w0 N O (mk ((d1, .dead) :: fl')) (a.put o1.dst (.tuple (.bool b :: rest).toArray)) w1 := by
      rw [hd1, mk_upd]
      have := hst1.made (ks := []) (x := .dead) (v := .tuple (.bool b :: rest).toArray) (d := d1) ⟨Keeps.refl _ _ _, .refl _ _, hst1.own, hst1.inj, trivial⟩ hN1
      rwa [killl_nil] at this
    have e2 : (a.put o1.dst (.tuple (.bool b :: rest).toArray)).eval (.tmp d1) = .tuple (.bool b :: rest).toArray := by
      show (a.put o1.dst _).tmps.getD d1 undef = _
      rw [hd1, getD_put (by rw [hst.size]; exact hN1.2), if_pos rfl]
    refine wpList_step fun K2 hK2 => ?_
    have hw2 : Region.wanted o2 (yielded [o1, o2].toArray (a.put o1.dst (.tuple (.bool b :: rest).toArray)).tmps) = true := by simp [Region.wanted, g2]
    rw [if_pos hw2]
    refine wp_val (v := .bool b) (w' := w1) ?_ (hK2 _ _ ?_)
    · simp only [execOp, h2, e2]
      simp [Instr.extract]
    · refine wpList_nil ⟨O, mk ((d2, .val (.bool b)) :: (d1, .dead) :: fl'), ?_, hy⟩
      rw [hd2, mk_upd]
      have := hst2.made (ks := []) (x := .val (.bool b)) (v := .bool b) (d := d2) ⟨Keeps.refl _ _ _, .refl _ _, hst2.own, hst2.inj, Rd.bool _⟩ hN2
      rwa [killl_nil] at this
  have hold : ∀ x ∈ cur.toList, x.born < es.length := by
    intro x hx
    rw [q6'] at hx
    obtain ⟨i, hi, rfl⟩ := entL_mem (n := 0) hx
    simpa using hi
  rcases run_next_at (P := P) w o1.type gi gm es.length es.length seen.toArray cur es.length q4 q5 hold (Nat.le_refl _) with ⟨r1, r2⟩ | ⟨e, r1, w1, r2, r3⟩
  · refine two false [] fl w (by simp only [execOp, h1, e1]; exact run_v r2) hst (hover fun i hi => ?_)
    unfold leftOf at r1
    by_cases hmem : i ∈ seen
    · exact hmem
    · exfalso
      have := entL_get es 0 i hi
      rw [Nat.zero_add] at this
      have hm := List.mem_of_getElem? this
      have hin : (⟨.int .i64 es[i].1, .int .i64 es[i].2, i⟩ : MapEntry) ∈ cur.filter (fun e => !seen.toArray.contains e.born) := by
        rw [Array.mem_filter, q6']
        exact ⟨by simpa using hm, by simpa using hmem⟩
      rw [Array.eq_empty_of_size_eq_zero r1] at hin
      simp at hin
  · unfold leftOf at r1
    rw [Array.mem_toList_iff, Array.mem_filter, q6'] at r1
    obtain ⟨i, hi, rfl⟩ := entL_mem (n := 0) (by simpa using r1.1)
    have hni : i ∉ seen := by simpa using r1.2
    have hst1 : St R B w0 N O (mk fl) a w1 := by
      rcases r2 with rfl | rfl
      · exact hst
      · exact hst.drew
    have hw1i : w1.heap[gi]? = some (.mapIter (some gm) es.length seen.toArray es.length) := by rcases r2 with rfl | rfl <;> exact q4
    have hw1m : w1.heap[gm]? = some (.map cur es.length) := by rcases r2 with rfl | rfl <;> exact q5
    have hgm : gm ≠ gi := fun e => by rw [e, hw1i] at hw1m; cases hw1m
    refine two true _ _ _ (by simp only [execOp, h1, e1]; exact run_v r3) ?_ (hmore i hi hni)
    have e4 : (fun s => itPut t (seen ++ [i]) (mk fl s)) = mk (fl.map fun q => (q.1, itPut t (seen ++ [i]) q.2)) := by
      funext s
      rw [mk_map (itPut t (seen ++ [i])) (by simp [itPut, VV.on])]
    rw [← e4]
    refine st_setBlock hst1 q2 hw1i fun x v hx => ?_
    unfold itPut
    split
    · rename_i r m es1 seen1
      by_cases hrt : r = t
      · subst hrt
        rw [if_pos rfl]
        split
        · exact .inl rfl
        obtain ⟨gi1, gm1, cur1, p1, p2, p3, p4, p5, p6⟩ := hx
        have hgg := hst.inj gi1 gi _ p2 q2
        subst hgg
        rw [hw1i] at p4
        simp only [Option.some.injEq, Obj.mapIter.injEq] at p4
        obtain ⟨p41, p42, p43, p44⟩ := p4
        subst p41
        refine .inr (.inr ⟨gi1, gm, cur1, p1, p2, p3, ?_, ?_, p6⟩)
        · rw [setBlock_get hw1i]
          simp [← p42]
        · rw [setBlock_other hgm]; exact p5
      · rw [if_neg hrt]
        by_cases hmt : m = t
        · rw [if_pos hmt]; exact .inl rfl
        · rw [if_neg hmt]
          exact .inr (.inl ⟨by simp [VV.on, hrt, hmt], rfl⟩)
    · split
      · exact .inl rfl
      · rename_i hno
        exact .inr (.inl ⟨by simpa using hno, rfl⟩)

theorem VW.loopI {ι : Type} {c : Code} {fl : FL} {Q : Exit → Frm → Prop} (fr : ι → FL) (I : ι → Prop) (μ : ι → Nat) (i0 : ι) (h0 : I i0) (hfl : Fits N (fr i0) (mk fl))
    (round : ∀ i, I i → VW P N c (mk (fr i)) (Nx (fun σ' => ∃ j, (I j ∧ μ j < μ i) ∧ Fits N (fr j) σ') Q)) : VW P N (.loop c) (mk fl) Q := by
  refine VW.loop (fun i σ => I i ∧ Fits N (fr i) σ) μ i0 ⟨h0, hfl⟩ fun i σ ⟨hi, hf⟩ => ?_
  refine VW.fits hf ((round i hi).mono fun e σ' h => ?_)
  cases e with
  | normal => obtain ⟨j, ⟨h1, h2⟩, h3⟩ := h; exact ⟨j, ⟨h1, h3⟩, h2⟩
  | _ => exact h
theorem nodup_full : ∀ {n : Nat} {l : List Nat}, l.Nodup → (∀ i ∈ l, i < n) → n ≤ l.length → ∀ i, i < n → i ∈ l
  | 0, _, _, _, _, i, hi => by omega
  | n + 1, l, hn, hlt, hl, i, hi => by
    have hm : n ∈ l := by
      by_cases h : n ∈ l
      · exact h
      · exfalso
        have hlt' : ∀ j ∈ l, j < n := fun j hj => by
          have := hlt j hj
          have : j ≠ n := fun e => h (e ▸ hj)
          omega
        have : l.length ≤ n := by
          have := List.Nodup.length_le_of_subset (l₂ := List.range n) hn fun j hj => List.mem_range.2 (hlt' j hj)
          simpa using this
        omega
    by_cases e : i = n
    · rw [e]; exact hm
    · have h1 := nodup_full (n := n) (l := l.erase n) (hn.erase n) (fun j hj => by
        have h2 := List.mem_of_mem_erase hj
        have h3 := hlt j h2
        have h4 : j ≠ n := fun e => by rw [e] at hj; exact (hn.not_mem_erase) hj
        omega) (by rw [List.length_erase_of_mem hm]; omega) i (by omega)
      exact List.mem_of_mem_erase h1
theorem VCall.frz {f : FuncId} {ds : List D} {u : Bool} {x : D} (h : VCall P f ds [.own u x]) : VCall P f ds [.shr x] := by
  refine ⟨h.1, fun w A vs hA hn hv => (h.2 w A vs hA hn hv).mono ?_⟩
  rintro e w' ⟨v, O, he, hb, ho, hi, hr⟩
  refine ⟨v, fun _ => none, he, hb, (fun g y hy => by simp at hy), (fun g g' y hy => by simp at hy), ⟨fun _ => rfl, ?_⟩⟩
  exact Tree.rd hr (fun g q hg => ⟨.inr (ho g _ hg).1, (ho g _ hg).2⟩) (fun g hg => ⟨hg.2.2, hg.2.1⟩)
end
attribute [simp] mpPut itPut
end Go.Vam
