/- Closures: how they are made, and called. -/
import Derived.Test.YtijmfifejmgeaaaVamAH
namespace Go.Vam
open Go Go.RowKit
set_option linter.unusedSimpArgs false
set_option linter.unusedVariables false

def VV.cap : VV → Option Cap
  | .ref t [] true (.ptr _) => some (Cap.tok t)
  | .cel t _ _ => some (Cap.tok t)
  | .val d => some (Cap.dat d)
  | _ => none
def Cap.tk : Cap → Option Nat
  | .tok t => some t
  | .dat _ => none
inductive All2 {α β : Type} (r : α → β → Prop) : List α → List β → Prop
  | nil : All2 r [] []
  | cons {a : α} {b : β} {as : List α} {bs : List β} (h : r a b) (t : All2 r as bs) : All2 r (a :: as) (b :: bs)
theorem All2.len {α β : Type} {r : α → β → Prop} {as : List α} {bs : List β} (h : All2 r as bs) : as.length = bs.length := by
  induction h with
  | nil => rfl
  | cons _ _ ih => simp [ih]
theorem All2.at {α β : Type} {r : α → β → Prop} {as : List α} {bs : List β} (h : All2 r as bs) : ∀ {k : Nat} {a : α} {b : β}, as[k]? = some a → bs[k]? = some b → r a b := by
  induction h with
  | nil => intro k a b h1; simp at h1
  | cons h _ ih =>
    intro k a b h1 h2
    cases k with
    | zero => simp only [List.getElem?_cons_zero, Option.some.injEq] at h1 h2; subst h1; subst h2; exact h
    | succ k => exact ih (by simpa using h1) (by simpa using h2)

section
variable {P : Program} {N : Lim} {τ : TypeId → TK}

end
@[simp] theorem vasn_clo (f : FuncId) (cs : List Cap) : vasn (.clo f cs) = some ([], .clo f cs) := (rfl)
@[simp] theorem vassign_clo (d : Nat) (f : FuncId) (cs : List Cap) : vassign d (.clo f cs) = ([], .clo f cs) := (rfl)
attribute [simp] Cap.on
@[simp] theorem capV_own (f : FuncId) (cc : List Cap) (t : Nat) (xs : List D) : capV f cc t (.own xs) = .ref t [] true (.ptr xs) := (rfl)
@[simp] theorem capV_self (f : FuncId) (cc : List Cap) (t : Nat) : capV f cc t .self = .cel t f cc := (rfl)
def postOk (fl : FL) (f : FuncId) (cc : List Cap) : Nat → List CapK → Prop
  | _, [] => True
  | n, .fro _ :: r => postOk fl f cc (n + 1) r
  | n, c :: r => mk fl n = capV f cc n c ∧ postOk fl f cc (n + 1) r
theorem postOk.spec {fl : FL} {f : FuncId} {cc : List Cap} : ∀ {cs : List CapK} {n : Nat}, postOk fl f cc n cs → ∀ k c, cs[k]? = some c → c.mutB = true → mk fl (n + k) = capV f cc (n + k) c
  | [], _, _, k, c, h, _ => by simp at h
  | c :: r, n, h, k, c', hk, hm => by
    cases k with
    | zero =>
      simp only [List.getElem?_cons_zero, Option.some.injEq] at hk
      subst hk
      cases c with
      | own ys => exact h.1
      | fro d => cases hm
      | self => exact h.1
    | succ k =>
      have h' : postOk fl f cc (n + 1) r := by
        cases c with
        | own ys => exact h.2
        | fro d => exact h
        | self => exact h.2
      have := h'.spec k c' (by simpa using hk) hm
      rw [show n + 1 + k = n + (k + 1) by omega] at this
      exact this
theorem PostClo.n {fl : FL} {f : FuncId} {cc : List Cap} {n : Nat} {cs : List CapK} (h : postOk fl f cc n cs) : PostClo f cc n cs .normal (mk fl) := h.spec
theorem PostClx.n {N : Lim} {fl : FL} {f : FuncId} {cc : List Cap} {n : Nat} {cs : List CapK} (h : postOk fl f cc n cs) : PostClx N f cc n cs .normal (mk fl) := ⟨_, fun _ _ _ O _ _ h => ⟨O, h⟩, PostClo.n h⟩
theorem PostClo.r {fl : FL} {f : FuncId} {cc : List Cap} {n : Nat} {cs : List CapK} (h : postOk fl f cc n cs) : PostClo f cc n cs .ret (mk fl) := h.spec
theorem PostClx.r {N : Lim} {fl : FL} {f : FuncId} {cc : List Cap} {n : Nat} {cs : List CapK} (h : postOk fl f cc n cs) : PostClx N f cc n cs .ret (mk fl) := ⟨_, fun _ _ _ O _ _ h => ⟨O, h⟩, PostClo.r h⟩
end Go.Vam
