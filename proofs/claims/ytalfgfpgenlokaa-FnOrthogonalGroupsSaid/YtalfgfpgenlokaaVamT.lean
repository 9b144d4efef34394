/- Results that stand in a cell; the door of a call that may spoil its first argument. -/
import Derived.Test.YtalfgfpgenlokaaVamR
import Derived.Laws.Cover3
namespace Go.Vam
open Go Go.RowKit
set_option linter.unusedSimpArgs false

section
variable {P : Program} {N : Lim} {fl : FL} {Q : Exit → Frm → Prop}

theorem run_loadVarSt {w : World} {T : TypeId} {zs : List D} (hT : TyOk1 P T (.st zs)) {g : Nat} {cur : Array Value} {E : TypeId} {fr : Nat × Nat}
  (hg : w.heap[g]? = some (.cells cur E fr)) (hn : cur.size = zs.length) : (loadVar T ⟨g,0,none⟩).run P w = .ok (.agg cur) w := by
 obtain ⟨⟨i,z,h1,h2,h3,h4,h5,h6⟩,fs,h7,h8,h9⟩ := hT
 have hl := run_loadCells (P := P) (o := 0) hg zs.length 0 #[] (by omega)
 have he : #[] ++ cur.extract (0 + 0) (0 + 0 + zs.length) = cur := by simp only [Nat.zero_add]; rw [← hn]; simp
 rw [he] at hl
 simp only [loadVar,Sem.run_bind,run_isAggSt h7,sizeOf_run h1,Result.andThen_ok,if_true,h2,loadCells,hl,Sem.run_pure]

theorem results_cell1 {fn : Func} {a : Tmp} {T : TypeId} (h : fn.results.toList = [.cell a T]) {tmps : Array Value} {w : World} {g : Nat} {v : Value}
  (ha : tmps.getD a undef = .pointer (some ⟨g,0,none⟩)) (hl : (loadVar T ⟨g,0,none⟩).run P w = .ok v w) : (results fn tmps).run P w = .ok v w := by
 have : fn.results = #[.cell a T] := by rw [← Array.toArray_toList (xs := fn.results),h]
 have ha' : tmps[a]?.getD undef = .pointer (some ⟨g,0,none⟩) := by rw [← ha,Array.getD_eq_getD_getElem?]
 simp [results,this,ha',asAddr,hl]
def PostC (a : Tmp) (n : Nat) (xs : List D) : Exit → Frm → Prop
 | .normal,σ => (∃ k p,σ a = .ref k p true (.ptr xs)) ∧ xs.length = n
 | .ret,σ => (∃ k p,σ a = .ref k p true (.ptr xs)) ∧ xs.length = n
 | _,_ => False
def PostC2 (a s : Tmp) (n : Nat) (xs : List D) (y : D) : Exit → Frm → Prop
 | .normal,σ => (∃ k p,σ a = .ref k p true (.ptr xs)) ∧ xs.length = n ∧ σ s = .val y ∧ y.sc = true
 | .ret,σ => (∃ k p,σ a = .ref k p true (.ptr xs)) ∧ xs.length = n ∧ σ s = .val y ∧ y.sc = true
 | _,_ => False

theorem door_st {w : World} {A : Nat → Prop} {vs : Array Value} {ds : List D} (n : Nat) (hA : ∀ g,A g → g < w.heap.size) (hsz : vs.size = ds.length)
  (hvs : ∀ i (h : i < ds.length),∃ v,vs[i]? = some v ∧ Rd w A v ds[i]) (hn : ds.length ≤ n) :
  St (fun g => A g ∨ w.heap.size ≤ g) (fun g => g < w.heap.size) ⟨w,fun _ => undef⟩ ⟨n,0⟩ (fun _ => none) (mk (dl 0 ds)) { tmps := vs ++ Array.replicate (n - vs.size) undef,defers := [] } w := by
 refine ⟨.refl _ _,fun g hg => hg,fun g hg => .inr (by omega),fun g y hy => (by cases hy),fun g g' y hy => (by cases hy),by simp; omega,rfl,fun s hs => absurd hs (Nat.not_lt_zero _),fun s => ?_⟩
 rw [← door_mk]
 unfold Vam.door
 split
 ·rename_i d hd
  have hs : s < ds.length := (List.getElem?_eq_some_iff.1 hd).1
  obtain ⟨v,h1,h2⟩ := hvs s hs
  have hd' : ds[s] = d := by rw [List.getElem?_eq_getElem hs] at hd; exact Option.some.inj hd
  rw [hd'] at h2
  have hg : (vs ++ Array.replicate (n - vs.size) undef).getD s undef = v := by
   rw [Array.getD_eq_getD_getElem?,Array.getElem?_append_left (by omega),h1]; rfl
  simp only
  rw [hg]
  exact h2.keep (fun g hg => ⟨rfl,hA g hg,.inl hg⟩) fun _ _ => rfl
 ·exact trivial

theorem own_ptr {w : World} {O : Own} {k : Nat} {p : List Nat} {v : Value} {xs : List D} (h : OwnU w O k p v (.ptr xs)) :
  ∃ g cur E,v = .pointer (some ⟨g,0,none⟩) ∧ w.heap[g]? = some (.cells cur E (0,0)) ∧ cur.size = xs.length ∧ OwnU w O k p (.agg cur) (.agg xs) := by
 cases h with
 | ptr _ g cur E _ vs h1 h2 h3 h4 h5 => exact ⟨g,cur,E,rfl,h2,h3,.agg p cur xs vs h3 h4 h5⟩

theorem tree_out {w0 : World} {A : Nat → Prop} {O : Own} {σ : Frm} {a : Act} {w : World} {n : Nat} (hs : St (fun g => A g ∨ w0.heap.size ≤ g) (fun g => g < w0.heap.size) ⟨w0,fun _ => undef⟩ ⟨n,0⟩ O σ a w)
  {k : Nat} {p : List Nat} {v : Value} {x : D} (h : OwnU w O k p v x) : ∃ O' : Own,(∀ g y,O' g = some y → w0.heap.size ≤ g ∧ g < w.heap.size) ∧ (∀ g g' y,O' g = some y → O' g' = some y → g = g') ∧ OwnU w O' 0 [] v x := by
 have m := ren_made hs k 0 p true x v h
 exact ⟨_,fun g y hy => ⟨Nat.not_lt.1 (m.own g y hy).1,(m.own g y hy).2⟩,m.inj,m.rel⟩

theorem VCall.enterC {f : FuncId} {fn : Func} {c : Code} {ds : List D} (hcall : ∀ args w,(callFunc f args).run P w = .ok (.enter f args) w)
  (hf : P.funcs[f]? = some fn) (hb : fn.body = some c) (n : Nat) (hn' : fn.ntmps = n) (hn : ds.length ≤ n) {T : TypeId} {zs : List D} (hT : TyOk1 P T (.st zs)) (a : Tmp)
  (hres : fn.results.toList = [.cell a T]) {xs : List D} (hw : VW P ⟨n,0⟩ c (mk (dl 0 ds)) (PostC a zs.length xs)) : VCall P f ds [.own true (.agg xs)] := by
 subst hn'
 refine ⟨hcall,fun w A vs hA hsz hvs => calls_of_wp hf hb ?_⟩
 refine wp_mono (hw _ _ _ _ _ _ (door_st fn.ntmps hA hsz hvs hn)) ?_
 rintro e a' w' ⟨O,σ,hs,hq⟩
 have fin : ((∃ k p,σ a = .ref k p true (.ptr xs)) ∧ xs.length = zs.length) → ∃ v,(results fn a'.tmps).run P w' = .ok v w' ∧ ∃ (v' : Value) (O : Own),Ending.returned v = .returned v' ∧ Below w.heap.size w w' ∧
   (∀ g y,O g = some y → w.heap.size ≤ g ∧ g < w'.heap.size) ∧ (∀ g g' y,O g = some y → O g' = some y → g = g') ∧ RetOk (fun g => A g ∨ w.heap.size ≤ g) w' O [.own true (.agg xs)] v' := by
  rintro ⟨⟨k,p,hσ⟩,hlen⟩
  have h1 := hs.slots a
  rw [hσ] at h1
  obtain ⟨g,cur,E,e1,e2,e3,e4⟩ := own_ptr h1
  obtain ⟨O',o1,o2,o3⟩ := tree_out hs e4
  exact ⟨_,results_cell1 hres e1 (run_loadVarSt hT e2 (by omega)),_,O',rfl,hs.below.below,o1,o2,o3⟩
 cases e with
 | normal => obtain ⟨v,h1,h2⟩ := fin hq; exact ⟨hs.defers,v,h1,h2⟩
 | ret => obtain ⟨v,h1,h2⟩ := fin hq; exact ⟨hs.defers,v,h1,h2⟩
 | _ => exact hq.elim

theorem VSpoil.enter {f : FuncId} {fn : Func} {c : Code} {d : D} {ds : List D} {r : D} (hcall : ∀ args w,(callFunc f args).run P w = .ok (.enter f args) w)
  (hf : P.funcs[f]? = some fn) (hb : fn.body = some c) (n : Nat) (hn' : fn.ntmps = n) (hn : ds.length + 1 ≤ n) (t : Tmp) (hres : fn.results.toList = [.tmp t])
  (hw : VW P ⟨n,0⟩ c (mk ((0,.ref 0 [] true d) :: dl 1 ds)) (Post [.tmp t] [.sc r])) : VSpoil P f d ds r := by
 subst hn'
 refine ⟨hcall,fun w A C vs v hA hC hinj hown hsz hv0 hvs => calls_of_wp hf hb ?_⟩
 have hst : St (fun g => A g ∨ ¬ (g < w.heap.size ∧ C g = none)) (fun g => g < w.heap.size ∧ C g = none) ⟨w,fun s => undef⟩ ⟨fn.ntmps,0⟩ (asO C) (mk ((0,.ref 0 [] true d) :: dl 1 ds)) { tmps := vs ++ Array.replicate (fn.ntmps - vs.size) undef,defers := [] } w := by
  have hget : ∀ s,s < vs.size → (vs ++ Array.replicate (fn.ntmps - vs.size) undef).getD s undef = vs.getD s undef := fun s hs => by
   rw [Array.getD_eq_getD_getElem?,Array.getElem?_append_left hs,Array.getD_eq_getD_getElem?]
  refine ⟨.refl _ _,fun g hg => hg.1,fun g hg => .inr hg,fun g y hy => ?_,fun g g' y h1 h2 => ?_,by simp; omega,rfl,fun s hs => absurd hs (Nat.not_lt_zero _),fun s => ?_⟩
  ·obtain ⟨q,h1,h2⟩ := Option.map_eq_some_iff.1 hy
   exact ⟨fun h => (by rw [h.2] at h1; cases h1),hC g q h1⟩
  ·obtain ⟨q,a1,a2⟩ := Option.map_eq_some_iff.1 h1
   obtain ⟨q',b1,b2⟩ := Option.map_eq_some_iff.1 h2
   rw [← a2] at b2
   simp only [Prod.mk.injEq,true_and] at b2
   subst b2
   exact hinj g g' _ a1 b1
  ·by_cases hs : s = 0
   ·subst hs
    simp only [mk_cons,if_true]
    have h1 : (vs ++ Array.replicate (fn.ntmps - vs.size) undef).getD 0 undef = v := by
     rw [hget 0 (by omega),Array.getD_eq_getD_getElem?,hv0]; rfl
    rw [h1]
    exact hown
   ·simp only [mk_cons,if_neg hs,dl_at]
    by_cases h1 : 1 ≤ s
    ·rw [if_pos h1]
     cases hd : ds[s - 1]? with
     | none => exact trivial
     | some d =>
      have hs1 : s - 1 < ds.length := (List.getElem?_eq_some_iff.1 hd).1
      obtain ⟨u,h2,h3⟩ := hvs (s - 1) hs1
      have hd' : ds[s - 1] = d := by rw [List.getElem?_eq_getElem hs1] at hd; exact Option.some.inj hd
      rw [hd'] at h3
      have e : s - 1 + 1 = s := by omega
      rw [e] at h2
      have hg : (vs ++ Array.replicate (fn.ntmps - vs.size) undef).getD s undef = u := by
       rw [hget s (by have := (Array.getElem?_eq_some_iff.1 h2).1; exact this),Array.getD_eq_getD_getElem?,h2]; rfl
      simp only
      rw [hg]
      exact h3.keep (fun g hg => ⟨by simp only [asO]; rw [(hA g hg).2]; rfl,(hA g hg).1,.inl hg⟩) fun _ _ => rfl
    ·omega
 refine wp_mono (hw _ _ _ _ _ _ hst) ?_
 rintro e a' w' ⟨O,σ,hs,hq⟩
 have fin : resVV [.tmp t] σ [.sc r] → ∃ v,(results fn a'.tmps).run P w' = .ok v w' ∧ ∃ x,Ending.returned v = .returned x ∧ Rd w' (fun _ => False) x r ∧ Blw (fun g => g < w.heap.size ∧ C g = none) w w' := by
  rintro ⟨t',h1,h2,h3⟩
  simp only [List.cons.injEq,ResultVar.tmp.injEq,and_true] at h1
  subst h1
  have r1 := hs.slots t
  rw [h2] at r1
  exact ⟨_,results_tmp1 hres _ _,_,rfl,sc_rd h3 (sc_own h3 r1 (fun _ => none) w' 0 []) _ _,hs.below⟩
 cases e with
 | normal => obtain ⟨v,h1,h2⟩ := fin hq; exact ⟨hs.defers,v,h1,h2⟩
 | ret => obtain ⟨v,h1,h2⟩ := fin hq; exact ⟨hs.defers,v,h1,h2⟩
 | _ => exact hq.elim

theorem VW.nilcmp {τ : TypeId → TK} (hτ : TyOk P τ) {T e : TypeId} (hT : τ T = .sl e) {t0 t3 t4 : Tmp} {xs : List D} {id : Nat} {o1 o2 : Oper} {y : Code}
  (h0 : mk fl t0 = .val (.list xs)) (e1 : o1.op = .move (.tmp t0)) (d1 : o1.dst = some t3) (g1 : o1.guard = none) (n3 : t3 ∈ N)
  (e2 : o2.op = .binOp .eql T (.tmp t3) (.const (.slice none 0 0)) T) (d2 : o2.dst = some t4) (g2 : o2.guard = none) (n4 : t4 ∈ N)
  (h : ∀ b,(b = true → xs = []) → VW P N y (mk ((t4,.val (.bool b)) :: (t3,.val (.list xs)) :: fl)) Q) : VW P N (.seq (.region id [o1,o2].toArray false) y) (mk fl) Q := by
 refine VW.seq fun R B w0 O a w hs => wp_region_lit ?_
 refine wpList_step fun K hK => ?_
 have hv : vact τ Orc.none N [o1,o2].toArray o1 (mk fl) = some ⟨kmap [],some (t3,.val (.list xs))⟩ := by
  unfold vact
  rw [g1]
  simp only [vdo,d1,if_pos n3,e1,vmut,vval,vres,ev,h0,Option.map_some]
 refine vact_sound hτ Sound.none hs hv fun O1 a1 w1 h1 => hK a1 w1 ?_
 have hf : (Eff.run ⟨kmap [],some (t3,.val (.list xs))⟩ (mk fl)) = mk ((t3,.val (.list xs)) :: fl) := by
  funext s
  simp only [Eff.run,upd,mk_cons]
  split
  ·rfl
  ·simp [kmap]
 rw [hf] at h1
 refine wpList_step fun K2 hK2 => ?_
 have hw : Region.wanted o2 (yielded [o1,o2].toArray a1.tmps) = true := by simp [Region.wanted,g2]
 rw [if_pos hw]
 have h3 := h1.slots t3
 rw [mk_cons,if_pos rfl] at h3
 have hu : P.underlying T = some (.slice e) := by have := hτ T; rw [hT] at this; exact this.2.1
 have fin : ∀ b,(b = true → xs = []) → (execOp a1.eval o2).run P w1 = .ok (.value (.bool b)) w1 → o2.wp P a1 w1 K2 (fun e a' w' => ∃ O' σ',St R B w0 N O' σ' a' w' ∧ Nx (fun σ' => VW P N y σ' Q) Q e σ') := by
  intro b hb hr
  have h4 := h1.made (ks := []) (x := .val (.bool b)) (v := .bool b) (d := t4) ⟨Keeps.refl _ _ _,.refl _ _,h1.own,h1.inj,Rd.bool b⟩ n4
  rw [killl_nil] at h4
  have : upd (mk ((t3,.val (.list xs)) :: fl)) t4 (.val (.bool b)) = mk ((t4,.val (.bool b)) :: (t3,.val (.list xs)) :: fl) := by funext s; simp only [upd,mk_cons]
  rw [this,← d2] at h4
  exact wp_val hr (hK2 _ _ (wpList_nil ⟨O1,_,h4,h b hb⟩))
 have hev : a1.eval (.tmp t3) = a1.tmps.getD t3 undef := rfl
 generalize hvv : a1.tmps.getD t3 undef = vv at h3
 have run : ∀ (ad : Option Addr) (n cap : Nat),vv = .slice ad n cap → (execOp a1.eval o2).run P w1 = .ok (.value (.bool ad.isNone)) w1 := by
  intro ad n cap hv
  have h5 : a1.eval (.tmp t3) = .slice ad n cap := by rw [hev,hvv,hv]
  simp only [execOp,e2,h5]
  have h6 : (Go.binOp .eql T (.slice ad n cap) (.slice none 0 0)).run P w1 = .ok (.bool ad.isNone) w1 := by
   simp only [Go.binOp,Sem.run_bind,run_equal_slice_nil w1 T e ad n cap hu,Result.andThen_ok,Sem.run_pure]
  refine run_v ?_
  simp only [Sem.run_bind,Act.eval]
  simp [eqGuard]
  exact h6
 cases (h3 : Rd w1 (Fro R O1 w1) vv (.list xs)) with
 | empty ad cap => exact fin _ (fun _ => rfl) (run ad 0 cap rfl)
 | list g o cap cur E fr _ vs q1 q2 q3 q4 q5 => exact fin false (fun h => by cases h) (run _ _ _ rfl)
end
end Go.Vam

