/- Code as functions: loops with fuel, checked reading, and the rules that lead a walk along such a function. -/
import Derived.Test.YtalfgfpgenlokaaVamP
namespace Go.Vam
open Go Go.RowKit

def BIG : Nat := 4611686018427387904

def loop {S B : Type} (step : S → Option (S ⊕ B)) : Nat → S → Option B
 | 0,_ => none
 | n + 1,s => match step s with
  | none => none
  | some (.inl s') => loop step n s'
  | some (.inr b) => some b

def idx {α : Type} (xs : List α) (i : Int) : Option α := if 0 ≤ i then xs[i.toNat]? else none
def chk (p : Prop) [Decidable p] : Option Unit := if p then some () else none
abbrev w64 (n : Int) : Int := IntKind.i64.wrap n

theorem bind_some {α β : Type} {o : Option α} {f : α → Option β} {r : β} (h : o.bind f = some r) : ∃ a,o = some a ∧ f a = some r := by
 cases o with
 | none => cases h
 | some a => exact ⟨a,rfl,h⟩
theorem idx_some {α : Type} {xs : List α} {i : Int} {v : α} (h : idx xs i = some v) : 0 ≤ i ∧ i.toNat < xs.length ∧ xs[i.toNat]? = some v ∧ ∀ h,xs[i.toNat]'h = v := by
 unfold idx at h
 split at h
 ·exact ⟨‹_›,(List.getElem?_eq_some_iff.1 h).1,h,fun _ => (List.getElem?_eq_some_iff.1 h).2⟩
 ·cases h
theorem chk_some {p : Prop} [Decidable p] {β : Type} {f : Unit → Option β} {r : β} (h : (chk p).bind f = some r) : p ∧ f () = some r := by
 unfold chk at h
 split at h
 ·exact ⟨‹_›,h⟩
 ·cases h
theorem chk_ok {p : Prop} [Decidable p] (h : p) : chk p = some () := by simp [chk,h]
theorem idx_nat {α : Type} (xs : List α) (k : Nat) : idx xs (k : Int) = xs[k]? := by simp [idx]
section
variable {S B : Type} {step : S → Option (S ⊕ B)}
theorem loop_succ (n : Nat) (s : S) : loop step (n + 1) s = match step s with
  | none => none
  | some (.inl s') => loop step n s'
  | some (.inr b) => some b := (rfl)

theorem loop_ford (st : Nat → S) (n : Nat) {b : B} : ∀ (m N : Nat),m + n + 1 ≤ N + m → (∀ k,k < n → step (st (m + k)) = some (.inl (st (m + k + 1)))) → step (st (m + n)) = some (.inr b) → loop step N (st m) = some b := by
 induction n with
 | zero =>
  intro m N hN _ h1
  cases N with
  | zero => omega
  | succ N => simp only [loop,Nat.add_zero] at h1 ⊢; rw [h1]
 | succ n ih =>
  intro m N hN h0 h1
  cases N with
  | zero => omega
  | succ N =>
   have := h0 0 (by omega)
   simp only [loop]
   rw [Nat.add_zero] at this
   rw [this]
   refine ih (m + 1) N (by omega) (fun k hk => ?_) ?_
   ·have := h0 (k + 1) (by omega)
    rw [show m + (k + 1) = m + 1 + k by omega,show m + 1 + k + 1 = m + 1 + k + 1 from rfl] at this
    exact this
   ·rw [show m + 1 + n = m + (n + 1) by omega]; exact h1
theorem loop_for (st : Nat → S) (n : Nat) {b : B} {s : S} (hn : n < BIG) (h0 : s = st 0) (hs : ∀ k,k < n → step (st k) = some (.inl (st (k + 1)))) (he : step (st n) = some (.inr b)) :
  loop step BIG s = some b := by
 subst h0
 exact loop_ford st n 0 BIG (by omega) (fun k hk => by simpa using hs k hk) (by simpa using he)

theorem loop_inv (I : S → Prop) (μ : S → Nat) (Q : B → Prop) {s : S} (h0 : I s) (hm : μ s < BIG)
  (hr : ∀ s,I s → (∃ s',step s = some (.inl s') ∧ I s' ∧ μ s' < μ s) ∨ (∃ b,step s = some (.inr b) ∧ Q b)) : ∃ b,loop step BIG s = some b ∧ Q b := by
 have key : ∀ (n : Nat) (s : S),I s → μ s < n → ∃ b,loop step n s = some b ∧ Q b := by
  intro n
  induction n with
  | zero => intro s _ h; omega
  | succ n ih =>
   intro s hI hn
   rcases hr s hI with ⟨s',h1,h2,h3⟩ | ⟨b,h1,h2⟩
   ·obtain ⟨b,h4,h5⟩ := ih s' h2 (by omega)
    exact ⟨b,by simp only [loop,h1]; exact h4,h5⟩
   ·exact ⟨b,by simp only [loop,h1],h2⟩
 exact key BIG s h0 hm
end

section
variable {P : Program} {τ : TypeId → TK} {Φ : Orc} {N : Lim} {fl : FL} {Q : Exit → Frm → Prop}

def Le (N : Lim) (σ' σ : Frm) : Prop := ∀ (R : Nat → Prop) (B : Nat → Prop) (w0 : W0) (O : Own) (a : Act) (w : World),St R B w0 N O σ a w → ∃ O',St R B w0 N O' σ' a w
theorem Le.trans {σ1 σ2 σ3 : Frm} (h1 : Le N σ1 σ2) (h2 : Le N σ2 σ3) : Le N σ1 σ3 := fun R B w0 O a w h => by
 obtain ⟨O',h'⟩ := h2 R B w0 O a w h
 exact h1 R B w0 O' a w h'
theorem VW.le {c : Code} {σ' σ : Frm} (hl : Le N σ' σ) (h : VW P N c σ' Q) : VW P N c σ Q := fun R B w0 O a w hs => by
 obtain ⟨O',h'⟩ := hl R B w0 O a w hs
 exact h R B w0 O' a w h'
def Fits (N : Lim) (fl' : FL) (σ : Frm) : Prop := Le N (mk fl') σ
theorem Fits.of {fl' : FL} {σ : Frm} (h : keep (fl'.map (·.1)) σ = mk fl') : Fits N fl' σ := fun R B w0 O a w hs =>
 ⟨O,hs.forget fun s => by rw [← h]; exact keep_spec _ σ s⟩
theorem VW.fits {c : Code} {fl' : FL} {σ : Frm} (hf : Fits N fl' σ) (h : VW P N c (mk fl') Q) : VW P N c σ Q := VW.le hf h
def Cl (N : Lim) (K : Frm → Prop) : Prop := ∀ σ σ' : Frm,Le N σ' σ → K σ' → K σ
theorem Cl.fits (fl : FL) : Cl N (Fits N fl) := fun _ _ h hf => Le.trans hf h
theorem Cl.ex {V : Type} (p : V → Prop) (fr : V → FL) : Cl N (fun σ => ∃ v,p v ∧ Fits N (fr v) σ) := fun σ σ' h ⟨v,hp,hf⟩ => ⟨v,hp,Cl.fits _ σ σ' h hf⟩
theorem Fits.weak {fl fl' : FL} {s t : Nat} {xs : List D} (hs : mk fl s = .ref t [] true (.list xs)) (hN : s ∈ N)
  (h : Fits N fl' (mk ((s,.ref t [] false (.list xs)) :: fl.map fun q => (q.1,kmap [t] q.2)))) : Fits N fl' (mk fl) := fun R B w0 O a w hst => by
 obtain ⟨O',h'⟩ := hst.weak hs hN
 have e : upd (killl [t] (mk fl)) s (.ref t [] false (.list xs)) = mk ((s,.ref t [] false (.list xs)) :: fl.map fun q => (q.1,kmap [t] q.2)) := by
  funext j
  simp only [upd,mk_cons,mk_map (kmap [t]) (kmap_dead [t])]
  rfl
 rw [e] at h'
 exact h R B w0 O' a w h'
theorem Fits.freeze {fl fl' : FL} {s t : Nat} {p : List Nat} {u : Bool} {x : D} (hs : mk fl s = .ref t p u x) (hN : s ∈ N)
  (h : Fits N fl' (mk ((s,.val x) :: fl.map fun q => (q.1,kmap [t] q.2)))) : Fits N fl' (mk fl) := fun R B w0 O a w hst => by
 obtain ⟨O',h'⟩ := hst.freeze hs hN
 have e : upd (killl [t] (mk fl)) s (.val x) = mk ((s,.val x) :: fl.map fun q => (q.1,kmap [t] q.2)) := by
  funext j
  simp only [upd,mk_cons,mk_map (kmap [t]) (kmap_dead [t])]
  rfl
 rw [e] at h'
 exact h R B w0 O' a w h'
theorem VW.sqc {x y : Code} {σ : Frm} (h : ∀ K : Frm → Prop,(∀ σ,VW P N y σ Q → K σ) → Cl N K → VW P N x σ (Nx K Q)) : VW P N (.seq x y) σ Q :=
 VW.seq (h _ (fun _ hh => hh) fun _ _ hf hk => VW.le hf hk)
theorem VW.tlE {x : Code} (fl' : FL) (hc : Cl N (Q .normal)) (h2 : Q .normal (mk fl')) (h1 : VW P N x (mk fl) (Nx (Fits N fl') Q)) : VW P N x (mk fl) Q :=
 h1.mono fun e σ he => by
  cases e with
  | normal => exact hc _ _ he h2
  | _ => exact he
theorem VW.tlO {V T : Type} {x : Code} (fr : V → FL) (o : V ⊕ T) (hc : Cl N (Q .normal)) (h2 : ∀ v,o = .inl v → Q .normal (mk (fr v)))
  (h1 : VW P N x (mk fl) (Nx (fun σ => ∃ v,o = .inl v ∧ Fits N (fr v) σ) Q)) : VW P N x (mk fl) Q :=
 h1.mono fun e σ he => by
  cases e with
  | normal => obtain ⟨v,h,hf⟩ := he; exact hc _ _ hf (h2 v h)
  | _ => exact he

theorem VW.sqE {x y : Code} (fl' : FL) (h2 : VW P N y (mk fl') Q) (h1 : VW P N x (mk fl) (Nx (Fits N fl') Q)) : VW P N (.seq x y) (mk fl) Q :=
 VW.seq (h1.mono fun e σ he => by
  cases e with
  | normal => exact VW.fits he h2
  | _ => exact he)

theorem VW.loopF {S B : Type} (step : S → Option (S ⊕ B)) (fr : S → FL) {n : Nat} {s0 : S} {b : B} {c : Code} (h : Go.Vam.loop step n s0 = some b) (hfl : Fits N (fr s0) (mk fl))
  (round : ∀ s o,step s = some o → (∀ b',o = .inr b' → b' = b) → VW P N c (mk (fr s)) (Nx (fun σ' => ∃ s',o = .inl s' ∧ Fits N (fr s') σ') Q)) : VW P N (.loop c) (mk fl) Q := by
 refine VW.loop (ι := Nat) (fun m σ => ∃ s,Go.Vam.loop step m s = some b ∧ Fits N (fr s) σ) (fun m => m) n ⟨s0,h,hfl⟩ ?_
 rintro m σ ⟨s,hl,hf⟩
 refine VW.fits hf ?_
 cases m with
 | zero => cases hl
 | succ m =>
  simp only [Go.Vam.loop] at hl
  cases ho : step s with
  | none => rw [ho] at hl; cases hl
  | some o =>
   rw [ho] at hl
   refine (round s o ho ?_).mono ?_
   ·rintro b' rfl
    simpa using hl
   ·intro e σ' he
    cases e with
    | normal =>
     obtain ⟨s',rfl,hf'⟩ := he
     exact ⟨m,⟨s',hl,hf'⟩,Nat.lt_succ_self m⟩
    | _ => exact he

theorem VW.ws (hτ : TyOk P τ) (hΦ : Sound P Φ) (ds : List (Option Nat)) (fl' : FL) {id : Nat} {l : List Oper} {y : Code} (hds : l.map (·.dst) = ds)
  (h1 : AfterL (runL τ Φ N ds l fl) fun f => pickL (fl'.map (·.1)) f = fl') (h2 : VW P N y (mk fl') Q) : VW P N (.seq (.region id l.toArray false) y) (mk fl) Q :=
 VW.es hτ hΦ ds (fl'.map (·.1)) hds fun K hK => by
  cases ho : runL τ Φ N ds l fl with
  | none => rw [ho] at h1; exact h1.elim
  | some f => rw [ho] at h1; have h1' : pickL (fl'.map (·.1)) f = fl' := h1; show K (pickL (fl'.map (·.1)) f); rw [h1']; exact hK _ h2
theorem VW.wr (hτ : TyOk P τ) (hΦ : Sound P Φ) (ds : List (Option Nat)) (fl' : FL) {id : Nat} {l : List Oper} (hds : l.map (·.dst) = ds)
  (h1 : AfterL (runL τ Φ N ds l fl) fun f => pickL (fl'.map (·.1)) f = fl') (h2 : Q .normal (mk fl')) : VW P N (.region id l.toArray false) (mk fl) Q :=
 VW.er hτ hΦ ds (fl'.map (·.1)) hds fun K hK => by
  cases ho : runL τ Φ N ds l fl with
  | none => rw [ho] at h1; exact h1.elim
  | some f => rw [ho] at h1; have h1' : pickL (fl'.map (·.1)) f = fl' := h1; show K (pickL (fl'.map (·.1)) f); rw [h1']; exact hK _ h2
theorem VW.wds (hτ : TyOk P τ) (hΦ : Sound P Φ) (hm : P.follows .mixedOrders = true) (ds : List (Option Nat)) (fl' : FL) {id : Nat} {l : List Oper} (n : Nat) {y : Code} (hds : l.map (·.dst) = ds)
  (hB : drawB l.toArray n = true) (hf : freshB (newDs (l.take n)) fl = true)
  (h1 : AfterL (mixL τ Φ N ds n l fl) fun f => pickL (fl'.map (·.1)) f = fl') (h2 : VW P N y (mk fl') Q) : VW P N (.seq (.region id l.toArray true) y) (mk fl) Q :=
 VW.ed hτ hΦ hm ds (fl'.map (·.1)) n hds hB hf fun K hK => by
  cases ho : mixL τ Φ N ds n l fl with
  | none => rw [ho] at h1; exact h1.elim
  | some f => rw [ho] at h1; have h1' : pickL (fl'.map (·.1)) f = fl' := h1; show K (pickL (fl'.map (·.1)) f); rw [h1']; exact hK _ h2
theorem VW.wdr (hτ : TyOk P τ) (hΦ : Sound P Φ) (hm : P.follows .mixedOrders = true) (ds : List (Option Nat)) (fl' : FL) {id : Nat} {l : List Oper} (n : Nat) (hds : l.map (·.dst) = ds)
  (hB : drawB l.toArray n = true) (hf : freshB (newDs (l.take n)) fl = true)
  (h1 : AfterL (mixL τ Φ N ds n l fl) fun f => pickL (fl'.map (·.1)) f = fl') (h2 : Q .normal (mk fl')) : VW P N (.region id l.toArray true) (mk fl) Q :=
 VW.edr hτ hΦ hm ds (fl'.map (·.1)) n hds hB hf fun K hK => by
  cases ho : mixL τ Φ N ds n l fl with
  | none => rw [ho] at h1; exact h1.elim
  | some f => rw [ho] at h1; have h1' : pickL (fl'.map (·.1)) f = fl' := h1; show K (pickL (fl'.map (·.1)) f); rw [h1']; exact hK _ h2


theorem VW.sqO {V T : Type} {x y : Code} (fr : V → FL) (o : V ⊕ T) (h2 : ∀ v,o = .inl v → VW P N y (mk (fr v)) Q)
  (h1 : VW P N x (mk fl) (Nx (fun σ => ∃ v,o = .inl v ∧ Fits N (fr v) σ) Q)) : VW P N (.seq x y) (mk fl) Q :=
 VW.seq (h1.mono fun e σ he => by
  cases e with
  | normal => obtain ⟨v,h,hf⟩ := he; exact VW.fits hf (h2 v h)
  | _ => exact he)
theorem VW.cut {c y : Code} (fl' : FL) (h2 : VW P N y (mk fl') Q) (h1 : VW P N y (mk fl') Q → VW P N (.seq c y) (mk fl) Q) : VW P N (.seq c y) (mk fl) Q := h1 h2
theorem VW.cutr {c : Code} (fl' : FL) (h2 : Q .normal (mk fl')) (h1 : Q .normal (mk fl') → VW P N c (mk fl) Q) : VW P N c (mk fl) Q := h1 h2
end


def bxor (k : IntKind) (a b : Int) : Int := k.wrap (BitVec.ofInt k.bits a ^^^ BitVec.ofInt k.bits b).toNat
def band (k : IntKind) (a b : Int) : Int := k.wrap (BitVec.ofInt k.bits a &&& BitVec.ofInt k.bits b).toNat
def bor (k : IntKind) (a b : Int) : Int := k.wrap (BitVec.ofInt k.bits a ||| BitVec.ofInt k.bits b).toNat
def shl (k : IntKind) (a b : Int) : Int := k.wrap (a * 2 ^ (min b.toNat k.bits))
def shr (k : IntKind) (a b : Int) : Int := a.fdiv (2 ^ (min b.toNat k.bits))
section
variable (k k' : IntKind) (t : TK) (a b : Int)
theorem vbin_xor : vbin .xor t (.val (.int k a)) (.val (.int k b)) = some ([],.val (.int k (bxor k a b))) := by simp [vbin,binop,bin,bxor]
theorem vbin_and : vbin .and t (.val (.int k a)) (.val (.int k b)) = some ([],.val (.int k (band k a b))) := by simp [vbin,binop,bin,band]
theorem vbin_or : vbin .or t (.val (.int k a)) (.val (.int k b)) = some ([],.val (.int k (bor k a b))) := by simp [vbin,binop,bin,bor]
theorem vbin_shl (h : 0 ≤ b) : vbin .shl t (.val (.int k a)) (.val (.int k' b)) = some ([],.val (.int k (shl k a b))) := by
 have : ¬ b < 0 := by omega
 simp [vbin,binop,bin,shl,this]
theorem vbin_shr (h : 0 ≤ b) : vbin .shr t (.val (.int k a)) (.val (.int k' b)) = some ([],.val (.int k (shr k a b))) := by
 have : ¬ b < 0 := by omega
 simp [vbin,binop,bin,shr,this]
end
theorem vbs_nil (τ : TypeId → TK) (d : Nat) (e : TypeId) (h : (τ e).zd.isSome = true) : vbs τ d (.sl e) 0 [] (some []) = some ([d],.ref d [] true (.list [])) := by
 unfold vbs
 simp only [List.range_zero,h,if_true,Nat.zero_le,and_self,List.all_nil]
theorem mutR_int (d : Nat) (fl : FL) (t : Nat) (p : List Nat) (d0 d' : D) (k : IntKind) (n : Int) : mutR d fl t p d0 (some [.mut d',.sc (.int k n)]) = some ((d,.val (.int k n)) :: fl.map fun q => (q.1,mutVV t p d0 d' q.2)) := mutR_mut _ _ _ _ _ _ _ rfl
theorem mutR_bool (d : Nat) (fl : FL) (t : Nat) (p : List Nat) (d0 d' : D) (b : Bool) : mutR d fl t p d0 (some [.mut d',.sc (.bool b)]) = some ((d,.val (.bool b)) :: fl.map fun q => (q.1,mutVV t p d0 d' q.2)) := mutR_mut _ _ _ _ _ _ _ rfl
theorem range_2 : List.range 2 = [0,1] := (rfl)
theorem range_3 : List.range 3 = [0,1,2] := (rfl)
theorem range_4 : List.range 4 = [0,1,2,3] := (rfl)
theorem range_5 : List.range 5 = [0,1,2,3,4] := (rfl)
theorem range_6 : List.range 6 = [0,1,2,3,4,5] := (rfl)
theorem range_7 : List.range 7 = [0,1,2,3,4,5,6] := (rfl)
theorem range_8 : List.range 8 = [0,1,2,3,4,5,6,7] := (rfl)
theorem range_9 : List.range 9 = [0,1,2,3,4,5,6,7,8] := (rfl)
theorem range_10 : List.range 10 = [0,1,2,3,4,5,6,7,8,9] := (rfl)
theorem range_11 : List.range 11 = [0,1,2,3,4,5,6,7,8,9,10] := (rfl)
theorem range_12 : List.range 12 = [0,1,2,3,4,5,6,7,8,9,10,11] := (rfl)
theorem mutR_spoil_int (d : Nat) (fl : FL) (t : Nat) (d0 : D) (k : IntKind) (n : Int) : mutR d fl t [] d0 (some [.spoil,.sc (.int k n)]) = some ((d,.val (.int k n)) :: fl.map fun q => (q.1,kmap [t] q.2)) := by simp [mutR,D.sc]
theorem mutR_shr (d : Nat) (fl : FL) (t : Nat) (p : List Nat) (d0 r : D) (l : List Ret) : mutR d fl t p d0 (some (.shr r :: l)) = none := (rfl)
theorem take_map_len {α β : Type} (f : α → β) (xs : List α) : (xs.map f).take xs.length = xs.map f := by
 rw [List.take_of_length_le (by simp)]
attribute [simp] take_map_len mutR_spoil_int mutR_shr range_2 range_3 range_4 range_5 range_6 range_7 range_8 range_9 range_10 range_11 range_12 mutR_int mutR_bool vbs_nil vbin_xor vbin_and vbin_or vbin_shl vbin_shr

attribute [simp] nilT
end Go.Vam
