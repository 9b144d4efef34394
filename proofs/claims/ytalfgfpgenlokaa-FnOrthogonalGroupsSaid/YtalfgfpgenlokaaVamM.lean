/- Words for the walk: lists of numbers as data, small laws that simp takes. -/
import Derived.Test.YtalfgfpgenlokaaVamL
namespace Go.Vam
open Go Go.RowKit

abbrev dI (xs : List Int) : D := .list (xs.map (D.int .i64))
abbrev dM (xs : List (List Int)) : D := .list (xs.map fun r => D.list (r.map (D.int .i64)))
abbrev dC (xs : List (List (List Int))) : D := .list (xs.map fun m => D.list (m.map fun r => D.list (r.map (D.int .i64))))
abbrev i64 (n : Int) : D := .int .i64 n

theorem wrap_in {x : Int} (h1 : -9223372036854775808 ≤ x) (h2 : x ≤ 9223372036854775807) : IntKind.i64.wrap x = x := IntWalk.i64_in x ⟨h1,h2⟩

def dl : Nat → List D → List (Nat × VV)
 | _,[] => []
 | k,d :: r => (k,.val d) :: dl (k + 1) r

theorem dl_at : ∀ (ds : List D) (k s : Nat),mk (dl k ds) s = if k ≤ s then (match ds[s - k]? with | some d => .val d | none => .dead) else .dead
 | [],k,s => by simp [dl,mk]
 | d :: r,k,s => by
  simp only [dl,mk_cons,dl_at r]
  by_cases h1 : s = k
  ·subst h1; simp
  ·rw [if_neg h1]
   by_cases h2 : k + 1 ≤ s
   ·rw [if_pos h2,if_pos (by omega)]
    have : s - k = (s - (k + 1)) + 1 := by omega
    rw [this]; simp
   ·rw [if_neg h2]
    by_cases h3 : k ≤ s
    ·omega
    ·rw [if_neg h3]

theorem door_mk (ds : List D) : door ds = mk (dl 0 ds) := by
 funext s
 rw [dl_at]
 simp only [door,Nat.zero_le,if_true,Nat.sub_zero]
 cases ds[s]? <;> rfl

section
variable {P : Program} {τ : TypeId → TK} {Φ : Orc} {N : Lim} {σ : Frm} {Q : Exit → Frm → Prop}

theorem VW.rd (hτ : TyOk P τ) (hΦ : Sound P Φ) (hm : P.follows .mixedOrders = true) (ks : List Nat) {id : Nat} {l : List Oper} (n : Nat) {fl : List (Nat × VV)}
  (hB : drawB l.toArray n = true) (hf : freshB (newDs (l.take n)) fl = true)
  (h : ∀ K : Frm → Prop,(∀ σ,Q .normal σ → K σ) → After (vmix τ Φ N l.toArray n 0 l (mk fl)) fun σ' => K (keep ks σ')) : VW P N (.region id l.toArray true) (mk fl) Q :=
 VW.regD hτ hΦ hm ks n hB hf (h _ fun _ hh => hh)

theorem VW.fr (ks : List Nat) {c : Code} (h : ∀ K : Frm → Prop,(∀ σ',VW P N c σ' Q → K σ') → K (keep ks σ)) : VW P N c σ Q := by
 refine VW.forget (σ' := keep ks σ) (fun s => ?_) (h _ fun _ hh => hh)
 by_cases hs : s ∈ ks
 ·right
  clear h
  unfold keep
  induction ks with
  | nil => cases hs
  | cons k r ih =>
   simp only [List.map_cons,mk_cons]
   by_cases hk : s = k
   ·subst hk; simp
   ·rw [if_neg hk]; exact ih ((List.mem_cons.1 hs).resolve_left hk)
 ·left
  clear h
  unfold keep
  induction ks with
  | nil => rfl
  | cons k r ih =>
   simp only [List.map_cons,mk_cons]
   rw [if_neg fun e => hs (by simp [e])]
   exact ih fun e => hs (by simp [e])

theorem VCall.enter {f : FuncId} {fn : Func} {c : Code} {ds : List D} {rs : List Ret} (hcall : ∀ args w,(callFunc f args).run P w = .ok (.enter f args) w)
  (hf : P.funcs[f]? = some fn) (hb : fn.body = some c) (n : Nat) (hn' : fn.ntmps = n) (hn : ds.length ≤ n) (res : List ResultVar) (hres : fn.results.toList = res)
  (hw : VW P ⟨n,0⟩ c (mk (dl 0 ds)) (Post res rs)) : VCall P f ds rs := by
 subst hn'; subst hres
 exact VCall.intro hcall hf hb hn (by rw [door_mk]; exact hw)

end

def Orc.none : Orc := fun _ _ _ => Option.none
open Classical in
noncomputable def Orc.add (d' : Nat) (f' : FuncId) (ds' : List D) (rs' : List Ret) (Φ : Orc) : Orc := fun d f ds => if d = d' then (if f = f' ∧ ds = ds' then some rs' else Option.none) else Φ d f ds

theorem Sound.none {P : Program} : Sound P Orc.none := fun _ _ _ _ h => by cases h
def noMut : List Ret → Bool
 | .mut _ :: _ => false
 | .spoil :: _ => false
 | .ptr _ :: _ => false
 | _ => true
theorem VCall.ok {P : Program} {f : FuncId} {ds : List D} {rs : List Ret} (h : VCall P f ds rs) (hn : noMut rs = true) : VOk P f ds rs := by
 unfold VOk
 split
 ·simp [noMut] at hn
 ·simp [noMut] at hn
 ·simp [noMut] at hn
 ·exact h
theorem Sound.ok {P : Program} {Φ : Orc} (d' : Nat) {f' : FuncId} {ds' : List D} {rs' : List Ret} (hg : VOk P f' ds' rs') (h : Sound P Φ) : Sound P (Orc.add d' f' ds' rs' Φ) := by
 intro d k ds rs hk
 unfold Orc.add at hk
 split at hk
 ·split at hk
  ·rename_i e
   obtain ⟨rfl,rfl⟩ := e
   simp only [Option.some.injEq] at hk
   subst hk
   exact hg
  ·cases hk
 ·exact h d k ds rs hk
theorem Sound.add {P : Program} {Φ : Orc} (d' : Nat) {f' : FuncId} {ds' : List D} {rs' : List Ret} (hg : VCall P f' ds' rs') (hn : noMut rs' = true) (h : Sound P Φ) : Sound P (Orc.add d' f' ds' rs' Φ) :=
 h.ok d' (hg.ok hn)
theorem Sound.ptrc {P : Program} {Φ : Orc} (d' : Nat) {f' : FuncId} {xs xs' : List D} {rs : List Ret} {ds' : List D} (hg : VPtr P f' xs ds' rs xs') (h : Sound P Φ) : Sound P (Orc.add d' f' (.ptr xs :: ds') (.ptr xs' :: rs) Φ) :=
 h.ok d' hg
section
variable {P : Program} {τ : TypeId → TK} {Φ : Orc} {N : Lim} {σ : Frm} {Q : Exit → Frm → Prop}

end

@[simp] theorem Orc.add_same (d' : Nat) (f' : FuncId) (ds' : List D) (rs' : List Ret) (Φ : Orc) (f : FuncId) (ds : List D) (h : f = f' ∧ ds = ds') : Orc.add d' f' ds' rs' Φ d' f ds = some rs' := by
 unfold Orc.add; simp [h]
@[simp] theorem Orc.add_other (d' : Nat) (f' : FuncId) (ds' : List D) (rs' : List Ret) (Φ : Orc) (d : Nat) (f : FuncId) (ds : List D) (h : d ≠ d') : Orc.add d' f' ds' rs' Φ d f ds = Φ d f ds := by
 unfold Orc.add; simp [h]

end Go.Vam
