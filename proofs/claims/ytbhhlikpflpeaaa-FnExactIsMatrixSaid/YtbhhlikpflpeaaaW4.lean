import Derived.Test.YtbhhlikpflpeaaaW3
namespace Go.Vam
open Go Go.RowKit Go.Proofs
set_option maxRecDepth 100000
set_option linter.unusedSimpArgs false
set_option linter.unusedVariables false

/-- A row of the implementation's table. -/
def tabRow (p : Int) (n : Nat) (r : List Int) : Bool := decide (r.length = n) && decide (1 ≤ r.length) && decide (r.length ≤ 16) && nums p r
def isTab (p : Int) (m : List (List Int)) : Bool := decide (m.length ≤ 16) && m.all (tabRow p (m.getD 0 []).length)

theorem isMat_tab (p : Int) (m : List (List Int)) : isMat p m = (isP p && (decide (0 < m.length) && isTab p m)) := by
  cases m with
  | nil => simp [isMat]
  | cons r m =>
    have e : (r :: m).getD 0 [] = r := rfl
    rw [Bool.eq_iff_iff]
    simp only [isMat, isTab, e, List.all_eq_true, Bool.and_eq_true, decide_eq_true_eq, okRow, tabRow]
    constructor
    · rintro ⟨⟨⟨⟨⟨h1, h2⟩, h3⟩, h4⟩, h5⟩, h6⟩
      exact ⟨h1, h2, h3, fun x hx => by obtain ⟨a, b⟩ := h6 x hx; exact ⟨⟨⟨a, by omega⟩, by omega⟩, b⟩⟩
    · rintro ⟨h1, h2, h3, h6⟩
      obtain ⟨⟨⟨a, b⟩, c⟩, d⟩ := h6 r (by simp)
      exact ⟨⟨⟨⟨⟨h1, h2⟩, h3⟩, b⟩, c⟩, fun x hx => ⟨(h6 x hx).1.1.1, (h6 x hx).2⟩⟩

theorem sIsMatrix (p : Int) (m : List (List Int)) (hl : m.length ≤ 1048576) (hr : ∀ r ∈ m, r.length ≤ 1048576) :
    VCall Try.prog 10 [i64 p, dM m] [.sc (.bool (isMat p m))] := by
  refine VCall.enter Try.call10 Try.func10 rfl 8 Try.ntmps10 (by simp) [.tmp 4] rfl ?_
  -- region 0
  refine VW.es tau_ok Sound.none [some 4] [0, 1] rfl fun K hK => ?_
  simp
  refine hK _ ?_
  clear hK K
  -- region 1
  refine VW.es tau_ok (Sound.none.add 7 (l02Is p m hl hr)) [some 5, some 6, some 7, some 4] [4] rfl fun K hK => ?_
  simp
  refine hK _ ?_
  clear hK K
  refine VW.ret ?_
  simp [Post, Nx, Bk] <;> try omega

theorem isTable (p : Int) (m : List (List Int)) (hp : -9223372036854775808 < p) (hp1 : p ≤ 9223372036854775807) (hl : m.length ≤ 1048576) (hr : ∀ r ∈ m, r.length ≤ 1048576) :
    VCall Try.prog 50 [i64 p, dM m] [.sc (.bool (isTab p m))] := by
  refine VCall.enter Try.call50 Try.func50 rfl 40 Try.ntmps50 (by simp) [.tmp 4] rfl ?_
  -- region 0
  refine VW.es tau_ok Sound.none [some 4] [0, 1] rfl fun K hK => ?_
  simp
  refine hK _ ?_
  clear hK K
  refine VW.sq fun K1 hK1 => ?_
  -- region 1
  refine VW.vs tau_ok Sound.none [some 7, some 8, some 9] [(9, .val (.bool (decide (16 < (m.length : Int)))))] [0, 1] rfl ?_ ?_
  ·
    simp <;> try omega
  refine VW.cond rfl (fun hb9 => ?_) (fun hb9 => ?_)
  ·
    replace hb9 := of_decide_eq_true hb9
    have hs : isTab p m = false := by unfold isTab; rw [decide_eq_false (by omega)]; rfl
    -- region 2
    refine VW.es tau_ok Sound.none [some 4] [4] rfl fun K hK => ?_
    simp [hb9, hs]
    refine hK _ ?_
    clear hK K
    refine VW.ret ?_
    simp [Post, Nx, Bk, hb9, hs] <;> try omega
  ·
    replace hb9 := of_decide_eq_false hb9
    have hs : isTab p m = m.all (tabRow p (m.getD 0 []).length) := by unfold isTab; rw [decide_eq_true (by omega)]; rfl
    refine VW.skip ?_
    refine hK1 _ ?_
    refine VW.sq fun K2 hK2 => ?_
    -- region 3
    refine VW.es tau_ok Sound.none [some 10, some 11, some 12] [0, 1, 10, 11, 12] rfl fun K hK => ?_
    simp
    refine hK _ ?_
    clear hK K
    refine VW.block ?_
    refine VW.frL [12, 0, 1, 10, 11] fun K hK => ?_
    simp
    refine hK _ ?_
    clear hK K
    refine VW.loopN (m.length) (fun k => [(12, .val (i64 k))]) (fun k => (m.take k).all (tabRow p (m.getD 0 []).length) = true) rfl ?_ ?_
    ·
      simp
    ·
      intro k hk hF0
      -- region 4
      refine VW.vs tau_ok Sound.none [some 13] [(13, .val (.bool (decide (k < m.length))))] [0, 1, 10, 11, 12] rfl ?_ ?_
      ·
        simp <;> try omega
      refine VW.sq fun K3 hK3 => ?_
      refine VW.cond rfl (fun hb13 => ?_) (fun hb13 => ?_)
      ·
        replace hb13 := of_decide_eq_true hb13
        obtain ⟨x, hx, ex⟩ := at_ hb13
        obtain ⟨r, hr0, er0⟩ := at_ (show 0 < m.length by omega)
        have er1 : m.getD 0 [] = r := by simp [hr0]
        have hm0 : 0 < m.length := by omega
        refine VW.skip ?_
        refine hK3 _ ?_
        refine VW.sq fun K4 hK4 => ?_
        refine VW.block ?_
        -- region 5
        refine VW.es tau_ok Sound.none [some 14, some 15, some 6] [0, 1, 6, 10, 11, 12] rfl fun K hK => ?_
        simp [hb13, hx, ex, hm0, hr0, er0, wrap_in (x := (k : Int) + 1) (by omega) (by omega)]
        refine hK _ ?_
        clear hK K
        -- region 6
        refine VW.vs tau_ok (Sound.none.add 36 (fis p x hp hp1 (hr _ (List.mem_of_getElem? hx)))) [some 16, some 17, some 18, some 19, some 20, some 21, some 22, some 23, some 24, some 25, some 26, some 27, some 28, some 29, some 30, some 31, some 32, some 33, some 34, some 35, some 36, some 37, some 38] [(38, .val (.bool (decide (tabRow p r.length x = false))))] [0, 1, 10, 11, 12] rfl ?_ ?_
        ·
          by_cases hg0 : x.length = r.length
          rotate_left
          ·
            simp [tabRow, hb13, hx, ex, hm0, hr0, er0, wrap_in (x := (k : Int) + 1) (by omega) (by omega), hg0] <;> try omega
          ·
            by_cases hg1 : (r.length : Int) < 1
            ·
              have hm : r = [] := List.eq_nil_of_length_eq_zero (by omega)
              simp [tabRow, hb13, hx, ex, hm0, hr0, er0, wrap_in (x := (k : Int) + 1) (by omega) (by omega), hg0, hg1, hm] <;> try omega
            ·
              by_cases hg2 : 16 < (r.length : Int)
              ·
                simp [tabRow, hb13, hx, ex, hm0, hr0, er0, wrap_in (x := (k : Int) + 1) (by omega) (by omega), hg0, hg1, hg2] <;> try omega
              ·
                have hc1 : 1 ≤ r.length := by omega
                have hc2 : r.length ≤ 16 := by omega
                simp [tabRow, hb13, hx, ex, hm0, hr0, er0, wrap_in (x := (k : Int) + 1) (by omega) (by omega), hg0, hg1, hg2, hc1, hc2] <;> try omega
        refine VW.cond rfl (fun hb38 => ?_) (fun hb38 => ?_)
        ·
          replace hb38 := of_decide_eq_true hb38
          have hall : isTab p m = false := by rw [hs, er1, all_false_at hx hb38]
          -- region 7
          refine VW.es tau_ok Sound.none [some 4] [4] rfl fun K hK => ?_
          simp [hb13, hx, ex, hm0, hr0, er0, wrap_in (x := (k : Int) + 1) (by omega) (by omega), hb38, hall]
          refine hK _ ?_
          clear hK K
          refine VW.ret ?_
          simp [Post, Nx, Bk, hb13, hx, ex, hm0, hr0, er0, wrap_in (x := (k : Int) + 1) (by omega) (by omega), hb38, hall] <;> try omega
        ·
          replace hb38 := of_decide_eq_false hb38
          simp only [Bool.not_eq_false] at hb38
          refine VW.skip ?_
          refine hK4 _ ?_
          -- region 8
          refine VW.er tau_ok Sound.none [some 39, some 12] [12, 0, 1, 10, 11] rfl fun K hK => ?_
          simp [hb13, hx, ex, hm0, hr0, er0, wrap_in (x := (k : Int) + 1) (by omega) (by omega), hb38]
          refine hK _ ?_
          clear hK K
          refine and3 ?_ ?_ ?_
          ·
            omega
          ·
            rw [er1]; exact all_take hx (er1 ▸ hF0) hb38
          ·
            simp [hb13, hx, ex, hm0, hr0, er0, wrap_in (x := (k : Int) + 1) (by omega) (by omega), hb38] <;> try omega
      ·
        replace hb13 := of_decide_eq_false hb13
        have hall : isTab p m = true := by rw [hs, all_full (by omega) hF0]
        refine VW.exit ?_
        refine hK2 _ ?_
        -- region 9
        refine VW.es tau_ok Sound.none [some 4] [4] rfl fun K hK => ?_
        simp [hb13, hall]
        refine hK _ ?_
        clear hK K
        refine VW.ret ?_
        simp [Post, Nx, Bk, hb13, hall] <;> try omega

theorem fIsMatrix (p : Int) (m : List (List Int)) (hp : -9223372036854775808 < p) (hp1 : p ≤ 9223372036854775807) (hl : m.length ≤ 1048576) (hr : ∀ r ∈ m, r.length ≤ 1048576) :
    VCall Try.prog 33 [i64 p, dM m] [.sc (.bool (decide (0 < m.length) && isTab p m))] := by
  refine VCall.enter Try.call33 Try.func33 rfl 13 Try.ntmps33 (by simp) [.tmp 4] rfl ?_
  -- region 0
  refine VW.es tau_ok Sound.none [some 4] [0, 1] rfl fun K hK => ?_
  simp
  refine hK _ ?_
  clear hK K
  -- region 1
  refine VW.vs tau_ok (Sound.none.add 11 (isTable p m hp hp1 hl hr)) [some 5, some 6, some 7, some 8, some 9, some 10, some 11, some 12, some 4] [(4, .val (.bool (decide (0 < m.length) && isTab p m)))] [] rfl ?_ ?_
  ·
    by_cases hg0 : 0 < m.length
    rotate_left
    ·
      simp [hg0] <;> try omega
    ·
      simp [hg0] <;> try omega
  refine VW.ret ?_
  simp [Post, Nx, Bk] <;> try omega

theorem iIsMatrix_p (p : Int) (m : List (List Int)) (hP : isP p = true) (hl : m.length ≤ 1048576) (hr : ∀ r ∈ m, r.length ≤ 1048576) :
    VCall Try.prog 12 [i64 p, dM m] [.sc (.bool (isMat p m))] := by
  refine VCall.enter Try.call12 Try.func12 rfl 12 Try.ntmps12 (by simp) [.tmp 4] rfl ?_
  -- region 0
  refine VW.es tau_ok Sound.none [some 4] [0, 1] rfl fun K hK => ?_
  simp
  refine hK _ ?_
  clear hK K
  -- region 1
  refine VW.vs tau_ok ((Sound.none.add 6 (IsPrime p)).add 10 (fIsMatrix p m (by have := isP_le hP; omega) (by have := isP_le hP; omega) hl hr)) [some 5, some 6, some 7, some 8, some 9, some 10, some 11, some 4] [(4, .val (.bool (isMat p m)))] [] rfl ?_ ?_
  ·
    simp [isMat_tab, hP] <;> try omega
  refine VW.ret ?_
  simp [Post, Nx, Bk] <;> try omega

theorem iIsMatrix_n (p : Int) (m : List (List Int)) (hP : isP p = false) (hl : m.length ≤ 1048576) (hr : ∀ r ∈ m, r.length ≤ 1048576) :
    VCall Try.prog 12 [i64 p, dM m] [.sc (.bool (isMat p m))] := by
  refine VCall.enter Try.call12 Try.func12 rfl 12 Try.ntmps12 (by simp) [.tmp 4] rfl ?_
  -- region 0
  refine VW.es tau_ok Sound.none [some 4] [0, 1] rfl fun K hK => ?_
  simp
  refine hK _ ?_
  clear hK K
  -- region 1
  refine VW.vs tau_ok (Sound.none.add 6 (IsPrime p)) [some 5, some 6, some 7, some 8, some 9, some 10, some 11, some 4] [(4, .val (.bool (isMat p m)))] [] rfl ?_ ?_
  ·
    simp [isMat_tab, hP] <;> try omega
  refine VW.ret ?_
  simp [Post, Nx, Bk] <;> try omega

theorem iIsMatrix (p : Int) (m : List (List Int)) (hl : m.length ≤ 1048576) (hr : ∀ r ∈ m, r.length ≤ 1048576) : VCall Try.prog 12 [i64 p, dM m] [.sc (.bool (isMat p m))] := by
  cases h : isP p
  · exact iIsMatrix_n p m h hl hr
  · exact iIsMatrix_p p m h hl hr

theorem LawIsMatrix (p : Int) (m : List (List Int)) (hl : m.length ≤ 9223372036854775807) (hr : ∀ r ∈ m, r.length ≤ 9223372036854775807) :
    VCall Try.prog 3 [i64 p, dM m] [.sc (.bool true)] := by
  refine VCall.enter Try.call3 Try.func3 rfl 31 Try.ntmps3 (by simp) [.tmp 4] rfl ?_
  -- region 0
  refine VW.es tau_ok Sound.none [some 4] [0, 1] rfl fun K hK => ?_
  simp
  refine hK _ ?_
  clear hK K
  -- region 1
  refine VW.es tau_ok Sound.none [some 5] [0, 1, 5] rfl fun K hK => ?_
  simp
  refine hK _ ?_
  clear hK K
  -- region 2
  refine VW.es tau_ok (Sound.none.add 11 (szM m 1048576 hl hr (by omega) (by omega))) [some 9, some 10, some 11, some 5] [0, 1, 5] rfl fun K hK => ?_
  simp
  refine hK _ ?_
  clear hK K
  have hsz : szv (m.length + rowsum m) 1048576 < 0 ↔ 1048576 < ((m.length + rowsum m : Nat) : Int) := by unfold szv; split <;> omega
  refine VW.sq fun K1 hK1 => ?_
  -- region 3
  refine VW.vs tau_ok Sound.none [some 12, some 13] [(13, .val (.bool (decide (1048576 < ((m.length + rowsum m : Nat) : Int)))))] [0, 1] rfl ?_ ?_
  ·
    simp [hsz] <;> try omega
  refine VW.cond rfl (fun hb13 => ?_) (fun hb13 => ?_)
  ·
    replace hb13 := of_decide_eq_true hb13
    -- region 4
    refine VW.es tau_ok Sound.none [some 4] [4] rfl fun K hK => ?_
    simp [hb13]
    refine hK _ ?_
    clear hK K
    refine VW.ret ?_
    simp [Post, Nx, Bk, hb13] <;> try omega
  ·
    replace hb13 := of_decide_eq_false hb13
    have hl' : m.length ≤ 1048576 := by omega
    have hr' : ∀ r ∈ m, r.length ≤ 1048576 := fun r h => by have := rowsum_mem h; omega
    refine VW.skip ?_
    refine hK1 _ ?_
    -- region 5
    refine VW.es tau_ok ((Sound.none.add 16 (toM m hl' hr')).add 17 (sIsMatrix p m hl' hr')) [some 14, some 15, some 16, some 17, some 6] [0, 1, 6] rfl fun K hK => ?_
    simp
    refine hK _ ?_
    clear hK K
    -- region 6
    refine VW.es tau_ok (Sound.none.add 19 (toM m hl' hr')) [some 18, some 19, some 7] [0, 1, 6, 7] rfl fun K hK => ?_
    simp
    refine hK _ ?_
    clear hK K
    -- region 7
    refine VW.es tau_ok (Sound.none.add 22 (iIsMatrix p m hl' hr')) [some 20, some 21, some 22, some 8] [1, 6, 7, 8] rfl fun K hK => ?_
    simp
    refine hK _ ?_
    clear hK K
    refine VW.sq fun K2 hK2 => ?_
    -- region 8
    refine VW.vs tau_ok Sound.none [some 23, some 24, some 25] [(25, .val (.bool (decide (False))))] [1, 7] rfl ?_ ?_
    ·
      simp <;> try omega
    refine VW.cond rfl (fun hb25 => ?_) (fun hb25 => ?_)
    ·
      replace hb25 := of_decide_eq_true hb25
      exact hb25.elim
    ·
      replace hb25 := of_decide_eq_false hb25
      refine VW.skip ?_
      refine hK2 _ ?_
      refine VW.sq fun K3 hK3 => ?_
      -- region 10
      refine VW.vs tau_ok ((Sound.none.add 28 (toM m hl' hr')).add 29 (eqM m m hl hr)) [some 26, some 27, some 28, some 29, some 30] [(30, .val (.bool (decide (False))))] [] rfl ?_ ?_
      ·
        simp <;> try omega
      refine VW.cond rfl (fun hb30 => ?_) (fun hb30 => ?_)
      ·
        replace hb30 := of_decide_eq_true hb30
        exact hb30.elim
      ·
        replace hb30 := of_decide_eq_false hb30
        refine VW.skip ?_
        refine hK3 _ ?_
        -- region 12
        refine VW.es tau_ok Sound.none [some 4] [4] rfl fun K hK => ?_
        simp
        refine hK _ ?_
        clear hK K
        refine VW.ret ?_
        simp [Post, Nx, Bk] <;> try omega

end Go.Vam
