/- From a row's reading of the arguments to data, and from a contract over data to what a law's row asks. -/
import Derived.Test.YtalfgfpgenlokaaVamN
import Derived.ProofKit
import Derived.OpenShut
import Derived.Deep.Matrix
namespace Go.Vam
open Go Go.RowKit Go.ChangeShapes Go.WideShapes Go.ChangeAt

abbrev Blk (W : World) : Nat → Prop := fun g => g < W.heap.size

def Opens (P : Program) (H : Type) (enc : TypeId × Value → H) (t : TypeId) (β : D → Prop) : Prop :=
 ∀ (W : World) (fuel : Nat) (v : Value) (x : DataW H × List MemPlace),DataW.trod enc P W 0 (fun _ => true) true fuel t [v] = some x → ∃ d,Rd W (Blk W) v d ∧ β d

section
variable {P : Program} {H : Type} {enc : TypeId × Value → H}

def bL (β : D → Prop) : D → Prop := fun d => ∃ ds : List D,d = .list ds ∧ ds.length ≤ 9223372036854775807 ∧ ∀ x ∈ ds,β x

theorem opens_slice {t e : TypeId} (ht : P.underlying t = some (.slice e)) (hc : P.cellsOf e = 1) {β : D → Prop} (he : Opens P H enc e β) : Opens P H enc t (bL β) := by
 intro W fuel v x h
 rcases Deep.open_slice1 ht hc h with ⟨h0,_⟩ | ⟨a,len,cap,m,n,V,_,_,h0,hb,hl,hm,hmm,_,hx⟩
 ·simp only [List.cons.injEq,and_true] at h0
  subst h0
  exact ⟨_,.empty _ _,[],rfl,by simp,by simp⟩
 ·simp only [List.cons.injEq,and_true] at h0
  subst h0
  simp only [if_true] at hmm
  have each : ∀ i,i < len → ∃ d,Rd W (Blk W) (V i) d ∧ β d := fun i hi => he W n (V i) _ (hx i (by omega)).2
  obtain ⟨f,hf⟩ := Deep.choose_lt each
  refine ⟨.list ((List.range len).map f),?_,_,rfl,by simp [maxLen] at hm ⊢; omega,?_⟩
  ·cases len with
   | zero => exact .empty _ _
   | succ k =>
    have h1 := (hx 0 (by omega)).1
    have hsp := World.cell?_spot h1
    obtain ⟨g,o,sp⟩ := a
    have hsp : sp = none := hsp
    subst hsp
    have hlt := World.block_lt_of_cell? _ _ h1
    have hadd : ∀ i,(⟨g,o,none⟩ : Addr).add i = ⟨g,o + i,none⟩ := fun i => by cases i <;> simp [Addr.add]
    rw [hadd] at hlt
    have cells : ∀ i,i < m → ∃ cur E fr,W.heap[g]? = some (.cells cur E fr) ∧ cur[o + i]? = some (V i) := by
     intro i hi
     have h2 := (hx i hi).1
     rw [hadd] at h2
     simp only [World.cell?] at h2
     split at h2
     ·rename_i c E fr hg
      exact ⟨c,E,fr,hg,by simpa using h2⟩
     ·cases h2
    obtain ⟨cur,E,fr,hg,_⟩ := cells 0 (by omega)
    have key : Rd W (Blk W) (.slice (some ⟨g,o,none⟩) ((List.range (k + 1)).map f).length cap) (.list ((List.range (k + 1)).map f)) := ?_
    ·simpa using key
    refine .list g o cap cur E fr _ V hlt hg (by simpa using hl) (fun i hi => ?_) (fun i hi => ?_)
    ·obtain ⟨cur',E',fr',hg',hi'⟩ := cells i (by simp at hi; omega)
     rw [hg] at hg'
     cases hg'
     exact hi'
    ·simp only [List.getElem_map,List.getElem_range]
     exact (hf i (by simpa using hi)).1
  ·intro d hd
   simp only [List.mem_map,List.mem_range] at hd
   obtain ⟨i,hi,rfl⟩ := hd
   exact (hf i hi).2

section
variable {W : World} {b0 : Nat} {t e e2 e3 : TypeId} {v : Value} {d : DataW H} {ps : List MemPlace}
def bU8 : D → Prop := fun d => ∃ n,d = .int .u8 n ∧ 0 ≤ n ∧ n ≤ 255
theorem opens_u8 {t : TypeId} (ht : P.underlying t = some (.int .u8)) : Opens P H enc t bU8 := by
 intro W fuel v x h
 obtain ⟨n,hc,_,hw⟩ := DataW.trod_int ht h
 simp only [List.cons.injEq,and_true] at hc
 subst hc
 exact ⟨_,.int _ _,n,rfl,bounds_u8 hw⟩
theorem of_bLU {d : D} (h : bL bU8 d) : ∃ xs : List Int,d = .list (xs.map (D.int .u8)) ∧ xs.length ≤ 9223372036854775807 ∧ ∀ x ∈ xs,0 ≤ x ∧ x ≤ 255 := by
 obtain ⟨ds,rfl,hl,h⟩ := h
 have key : ∀ ds : List D,(∀ x ∈ ds,bU8 x) → ∃ xs : List Int,ds = xs.map (D.int .u8) ∧ ∀ x ∈ xs,0 ≤ x ∧ x ≤ 255 := by
  intro ds
  induction ds with
  | nil => intro _; exact ⟨[],rfl,by simp⟩
  | cons d ds ih =>
   intro h
   obtain ⟨n,rfl,h1⟩ := h d (by simp)
   obtain ⟨xs,rfl,h2⟩ := ih fun x hx => h x (by simp [hx])
   refine ⟨n :: xs,rfl,fun x hx => ?_⟩
   rcases List.mem_cons.1 hx with rfl | hx
   ·exact h1
   ·exact h2 x hx
 obtain ⟨xs,rfl,h2⟩ := key ds h
 exact ⟨xs,rfl,by simpa using hl,h2⟩
theorem arg_bytes (ht : P.underlying t = some (.slice e)) (he : P.underlying e = some (.int .u8)) (ce : P.cellsOf e = 1) (hval : Value.okWide P W .any b0 t v)
  (h : DataW.Trod enc P W 0 (fun _ => true) true t v d ps) : ∃ xs : List Int,Rd W (Blk W) v (.list (xs.map (D.int .u8))) ∧ xs.length ≤ 9223372036854775807 ∧ ∀ x ∈ xs,0 ≤ x ∧ x ≤ 255 := by
 obtain ⟨a,len,cap,rfl⟩ := okWide_slice ht hval
 obtain ⟨fuel,hf⟩ := h
 simp only [Value.cells] at hf
 obtain ⟨d,hd,hb⟩ := opens_slice ht ce (opens_u8 he) W fuel _ _ hf
 obtain ⟨m,rfl,hm⟩ := of_bLU hb
 exact ⟨m,hd,hm⟩
end

theorem trodAll_below (hl : laidOutB P = true) {W W' : World} (hb : Below W.heap.size W W') : ∀ {ts : List TypeId} {vs : List Value} {ds : List (DataW H)} {ps : List MemPlace}
  (_ : ts.all (fun t => P.readableRec t && decide (t < P.types.size)) = true) (_ : DataW.TrodAll enc P W 0 (fun _ => true) true ts vs ds ps) (_ : ∀ x ∈ ps,x.block < W.heap.size),
  DataW.TrodAll enc P W' 0 (fun b => decide (b < W.heap.size)) true ts vs ds ps
 | [],_,_,_,_,h,_ => by
  obtain ⟨rfl,rfl,rfl⟩ := trodAll_nil h
  exact trodAll_mk0
 | t :: ts,_,_,_,ht,h,hlt => by
  obtain ⟨v,vs,d,ds,p,q,rfl,rfl,rfl,h1,h2⟩ := trodAll_cons h
  simp only [List.all_cons,Bool.and_eq_true,decide_eq_true_eq] at ht
  exact trodAll_cons_mk (Below.trod hl ht.1.1 ht.1.2 h1 hb fun x hx => hlt x (by simp [hx])) (trodAll_below hl hb (by simpa using ht.2) h2 fun x hx => hlt x (by simp [hx]))

theorem law_post {f : Func} {s : ChangeSpec} {W W' : World} {args : Array Value} {ds gs : List (DataW H)} {before : List MemPlace} {tb : TypeId}
  (hl : laidOutB P = true) (hv : s.vars = []) (hres : f.resultTypes = #[tb]) (htb : P.underlying tb = some .bool)
  (hts : f.params.toList.all (fun t => P.readableRec t && decide (t < P.types.size)) = true)
  (hW : DataW.Whole enc P f.params.toList s.vars false W args.toList ds gs before)
  (he : s.fn H (ds ++ gs) = { results := [.lit (.bool true)],args := ds }) (hB : Below W.heap.size W W') :
  s.post enc P f false true false false W args (.bool true) W' := by
 have hW' := hW
 obtain ⟨p,q,hA,hV,rfl,_,_⟩ := hW
 rw [hv] at hV
 obtain ⟨rfl,rfl⟩ := trodVars_none hV
 simp only [List.append_nil] at hW'
 have hlt : ∀ x ∈ p,x.block < W.heap.size := fun x hx => hW'.lt x (by simpa using hx)
 refine ⟨ds,[],p,[],p,[],hW',?_,?_,?_,hB.frame _,fun h => by cases h⟩
 ·rw [he,hres]; exact trodAll_mk1 (shut_bool htb true)
 ·rw [he]; exact trodAll_below hl hB hts hA hlt
 ·rw [he,hv]; rfl

theorem VCall.law {f : FuncId} {ds : List D} (h : VCall P f ds [.sc (.bool true)]) {W : World} {vs : Array Value} (hn : vs.size = ds.length)
  (ha : ∀ i (h : i < ds.length),∃ v,vs[i]? = some v ∧ Rd W (Blk W) v ds[i]) : Calls P f vs W fun e W' => e = .returned (.bool true) ∧ Below W.heap.size W W' := by
 refine (h.2 W (Blk W) vs (fun _ hg => hg) hn ha).mono ?_
 rintro e W' ⟨v,O,rfl,hb,_,_,hr⟩
 cases (hr : Rd W' _ v _)
 exact ⟨rfl,hb⟩
end
end Go.Vam
