/- Closures that catch the addresses of trees: what they do to these. -/
import Derived.Test.YtalfgfpgenlokaaVamAG
namespace Go.Vam
open Go Go.RowKit
set_option linter.unusedSimpArgs false
set_option linter.unusedVariables false

inductive CapK where
 | own (xs : List D)
 | fro (d : D)
 | self
 deriving Inhabited
def CapK.mutB : CapK → Bool
 | .fro _ => false
 | _ => true
def capAs (t : Nat) : CapK → Cap
 | .own _ => .tok t
 | .fro d => .dat d
 | .self => .tok t
def capsAs : Nat → List CapK → List Cap
 | _,[] => []
 | t,c :: r => capAs t c :: capsAs (t + 1) r
theorem capsAs_len : ∀ (cs : List CapK) (t : Nat),(capsAs t cs).length = cs.length
 | [],_ => rfl
 | c :: r,t => by simp [capsAs,capsAs_len r]
theorem capsAs_at : ∀ (cs : List CapK) (t i : Nat) (h : i < cs.length) (h' : i < (capsAs t cs).length),(capsAs t cs)[i] = capAs (t + i) cs[i]
 | [],_,i,h,_ => absurd h (by simp)
 | c :: r,t,i,h,h' => by
  cases i with
  | zero => rfl
  | succ i =>
   simp only [capsAs,List.getElem_cons_succ]
   rw [capsAs_at r (t + 1) i (by simpa using h) (by rw [capsAs_len]; simpa using h)]
   congr 1
   omega
def capV (f : FuncId) (cc : List Cap) (t : Nat) : CapK → VV
 | .own xs => .ref t [] true (.ptr xs)
 | .fro d => .val d
 | .self => .cel t f cc
theorem CloR.more {R R' : Nat → Prop} {w : World} {O : Own} {f : FuncId} {cs : List Cap} {v : Value} (h : ∀ g,R g → R' g) (hc : CloR R w O f cs v) : CloR R' w O f cs v := by
 obtain ⟨vs,h1,h2,h3⟩ := hc
 refine ⟨vs,h1,h2,fun i hi => ?_⟩
 obtain ⟨u,h4,h5⟩ := h3 i hi
 refine ⟨u,h4,?_⟩
 cases hci : cs[i] with
 | tok t => rw [hci] at h5; exact h5
 | dat d => rw [hci] at h5; exact (h5 : Rd w (Fro R O w) u d).keep (fun g hg => ⟨hg.1,hg.2.1,h g hg.2.2⟩) fun _ _ => rfl
def PostClo (f : FuncId) (cc : List Cap) (n : Nat) (cs' : List CapK) : Exit → Frm → Prop
 | .normal,σ => ∀ k c,cs'[k]? = some c → c.mutB = true → σ (n + k) = capV f cc (n + k) c
 | .ret,σ => ∀ k c,cs'[k]? = some c → c.mutB = true → σ (n + k) = capV f cc (n + k) c
 | _,_ => False
def PostClx (N : Lim) (f : FuncId) (cc : List Cap) (n : Nat) (cs' : List CapK) (e : Exit) (σ : Frm) : Prop := ∃ σ',Le N σ' σ ∧ PostClo f cc n cs' e σ'
theorem Cl.post {N : Lim} (f : FuncId) (cc : List Cap) {n : Nat} {cs' : List CapK} : Cl N (PostClx N f cc n cs' .normal) := fun _ _ h ⟨σ2,h1,h2⟩ => ⟨σ2,Le.trans h1 h,h2⟩

section
variable {P : Program} {N : Lim}

end
end Go.Vam
