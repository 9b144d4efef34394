import Derived.Test.YtbhhlikpflpeaaaTryW2
namespace Go.Vam
open Go Go.RowKit Go.Proofs
set_option maxRecDepth 100000
set_option linter.unusedSimpArgs false
set_option linter.unusedVariables false

theorem iIsMatrix_p (p : Int) (m : List (List Int)) (hP : isP p = true) (hl : m.length ≤ 1048576) (hr : ∀ r ∈ m, r.length ≤ 1048576) :
    VCall Try.prog 12 [i64 p, dM m] [.sc (.bool (isMat p m))] := by
  refine VCall.enter Try.call12 Try.func12 rfl 12 Try.ntmps12 (by simp) [.tmp 4] rfl ?_
  -- region 0
  refine VW.es tau_ok Sound.none [some 4] [0, 1] rfl fun K hK => ?_
  simp
  refine hK _ ?_
  clear hK K
  -- region 1
  refine VW.vs tau_ok ((Sound.none.add 6 (IsPrime p) rfl).add 10 (fIsMatrix p m (by have := isP_le hP; omega) (by have := isP_le hP; omega) hl hr) rfl) [some 5, some 6, some 7, some 8, some 9, some 10, some 11, some 4] [(4, .val (.bool (isMat p m)))] [] rfl ?_ ?_
  ·
    simp [isMat_tab, hP] <;> try omega
  refine VW.ret ?_
  simp [Post, PostM, Nx, Bk] <;> try omega

theorem iIsMatrix_n (p : Int) (m : List (List Int)) (hP : isP p = false) (hl : m.length ≤ 1048576) (hr : ∀ r ∈ m, r.length ≤ 1048576) :
    VCall Try.prog 12 [i64 p, dM m] [.sc (.bool (isMat p m))] := by
  refine VCall.enter Try.call12 Try.func12 rfl 12 Try.ntmps12 (by simp) [.tmp 4] rfl ?_
  -- region 0
  refine VW.es tau_ok Sound.none [some 4] [0, 1] rfl fun K hK => ?_
  simp
  refine hK _ ?_
  clear hK K
  -- region 1
  refine VW.vs tau_ok (Sound.none.add 6 (IsPrime p) rfl) [some 5, some 6, some 7, some 8, some 9, some 10, some 11, some 4] [(4, .val (.bool (isMat p m)))] [] rfl ?_ ?_
  ·
    simp [isMat_tab, hP] <;> try omega
  refine VW.ret ?_
  simp [Post, PostM, Nx, Bk] <;> try omega

theorem iIsMatrix (p : Int) (m : List (List Int)) (hl : m.length ≤ 1048576) (hr : ∀ r ∈ m, r.length ≤ 1048576) : VCall Try.prog 12 [i64 p, dM m] [.sc (.bool (isMat p m))] := by
  cases h : isP p
  · exact iIsMatrix_n p m h hl hr
  · exact iIsMatrix_p p m h hl hr


theorem LawIsMatrix (p : Int) (m : List (List Int)) (hl : m.length ≤ 9223372036854775807) (hr : ∀ r ∈ m, r.length ≤ 9223372036854775807) :
    VCall Try.prog 3 [i64 p, dM m] [.sc (.bool true)] := by
  refine VCall.enter Try.call3 Try.func3 rfl 31 Try.ntmps3 (by simp) [.tmp 4] rfl ?_
  -- region 0
  refine VW.es tau_ok Sound.none [some 4] [0, 1] rfl fun K hK => ?_
  simp
  refine hK _ ?_
  clear hK K
  -- region 1
  refine VW.es tau_ok Sound.none [some 5] [0, 1, 5] rfl fun K hK => ?_
  simp
  refine hK _ ?_
  clear hK K
  -- region 2
  refine VW.es tau_ok (Sound.none.add 11 (szM m 1048576 hl hr (by omega) (by omega)) rfl) [some 9, some 10, some 11, some 5] [0, 1, 5] rfl fun K hK => ?_
  simp
  refine hK _ ?_
  clear hK K
  have hsz : szv (m.length + rowsum m) 1048576 < 0 ↔ 1048576 < ((m.length + rowsum m : Nat) : Int) := by unfold szv; split <;> omega
  refine VW.sq fun K1 hK1 => ?_
  -- region 3
  refine VW.vs tau_ok Sound.none [some 12, some 13] [(13, .val (.bool (decide (1048576 < ((m.length + rowsum m : Nat) : Int)))))] [0, 1] rfl ?_ ?_
  ·
    simp [hsz] <;> try omega
  refine VW.cond rfl (fun hb13 => ?_) (fun hb13 => ?_)
  ·
    replace hb13 := of_decide_eq_true hb13
    -- region 4
    refine VW.es tau_ok Sound.none [some 4] [4] rfl fun K hK => ?_
    simp [hb13]
    refine hK _ ?_
    clear hK K
    refine VW.ret ?_
    simp [Post, PostM, Nx, Bk, hb13] <;> try omega
  ·
    replace hb13 := of_decide_eq_false hb13
    have hl' : m.length ≤ 1048576 := by omega
    have hr' : ∀ r ∈ m, r.length ≤ 1048576 := fun r h => by have := rowsum_mem h; omega
    refine VW.skip ?_
    refine hK1 _ ?_
    -- region 5
    refine VW.es tau_ok ((Sound.none.add 16 (toM m hl' hr') rfl).add 17 (sIsMatrix p m hl' hr') rfl) [some 14, some 15, some 16, some 17, some 6] [0, 1, 6] rfl fun K hK => ?_
    simp
    refine hK _ ?_
    clear hK K
    -- region 6
    refine VW.es tau_ok (Sound.none.add 19 (toM m hl' hr') rfl) [some 18, some 19, some 7] [0, 1, 6, 7] rfl fun K hK => ?_
    simp
    refine hK _ ?_
    clear hK K
    -- region 7
    refine VW.es tau_ok (Sound.none.add 22 (iIsMatrix p m hl' hr') rfl) [some 20, some 21, some 22, some 8] [1, 6, 7, 8] rfl fun K hK => ?_
    simp
    refine hK _ ?_
    clear hK K
    refine VW.sq fun K2 hK2 => ?_
    -- region 8
    refine VW.vs tau_ok Sound.none [some 23, some 24, some 25] [(25, .val (.bool (decide (False))))] [1, 7] rfl ?_ ?_
    ·
      simp <;> try omega
    refine VW.cond rfl (fun hb25 => ?_) (fun hb25 => ?_)
    ·
      replace hb25 := of_decide_eq_true hb25
      exact hb25.elim
    ·
      replace hb25 := of_decide_eq_false hb25
      refine VW.skip ?_
      refine hK2 _ ?_
      refine VW.sq fun K3 hK3 => ?_
      -- region 10
      refine VW.vs tau_ok ((Sound.none.add 28 (toM m hl' hr') rfl).add 29 (eqM m m hl hr) rfl) [some 26, some 27, some 28, some 29, some 30] [(30, .val (.bool (decide (False))))] [] rfl ?_ ?_
      ·
        simp <;> try omega
      refine VW.cond rfl (fun hb30 => ?_) (fun hb30 => ?_)
      ·
        replace hb30 := of_decide_eq_true hb30
        exact hb30.elim
      ·
        replace hb30 := of_decide_eq_false hb30
        refine VW.skip ?_
        refine hK3 _ ?_
        -- region 12
        refine VW.es tau_ok Sound.none [some 4] [4] rfl fun K hK => ?_
        simp
        refine hK _ ?_
        clear hK K
        refine VW.ret ?_
        simp [Post, PostM, Nx, Bk] <;> try omega

theorem fnum (p n : Int) (hp : 0 < p) (hp1 : p ≤ 1048576) (hn : fit n) :
    VCall Try.prog 51 [i64 p, i64 n] [.sc (.int .i64 (n % p))] := by
  refine VCall.enter Try.call51 Try.func51 rfl 14 Try.ntmps51 (by simp) [.tmp 4] rfl ?_
  -- region 0
  refine VW.es tau_ok Sound.none [some 4] [0, 1] rfl fun K hK => ?_
  simp
  refine hK _ ?_
  clear hK K
  -- region 1
  refine VW.es tau_ok Sound.none [some 6, some 5] [1, 5] rfl fun K hK => ?_
  simp
  refine hK _ ?_
  clear hK K
  -- region 2
  have hp0 : p ≠ 0 := by omega
  have hb := tmod_bounds n hp
  have e2 := num_mod n hp
  refine VW.es tau_ok Sound.none [some 7, some 8, some 9, some 10, some 11, some 12, some 13, some 4] [4] rfl fun K hK => ?_
  simp [hp0, e2, wrap_in (x := n.tmod p + p) (by omega) (by omega)]
  refine hK _ ?_
  clear hK K
  refine VW.ret ?_
  simp [Post, PostM, Nx, Bk] <;> try omega

theorem l02Square (p : Int) (m : List (List Int)) (hl : m.length ≤ 1048576) (hr : ∀ r ∈ m, r.length ≤ 1048576) :
    VCall Try.prog 34 [i64 p, dM m] [.sc (.int .i64 (sqM p m))] := by
  refine VCall.enter Try.call34 Try.func34 rfl 16 Try.ntmps34 (by simp) [.tmp 4] rfl ?_
  -- region 0
  refine VW.es tau_ok Sound.none [some 4] [0, 1] rfl fun K hK => ?_
  simp
  refine hK _ ?_
  clear hK K
  refine VW.sq fun K1 hK1 => ?_
  -- region 1
  refine VW.vs tau_ok (Sound.none.add 7 (l02Is p m hl hr) rfl) [some 5, some 6, some 7, some 8] [(8, .val (.bool (decide (isMat p m = false))))] [1] rfl ?_ ?_
  ·
    simp <;> try omega
  refine VW.cond rfl (fun hb8 => ?_) (fun hb8 => ?_)
  ·
    replace hb8 := of_decide_eq_true hb8
    have hs : sqM p m = 1 := by unfold sqM; rw [if_neg (by simp [hb8])]
    -- region 2
    refine VW.es tau_ok Sound.none [some 4] [4] rfl fun K hK => ?_
    simp [hb8, hs]
    refine hK _ ?_
    clear hK K
    refine VW.ret ?_
    simp [Post, PostM, Nx, Bk, hb8, hs] <;> try omega
  ·
    replace hb8 := of_decide_eq_false hb8
    simp only [Bool.not_eq_false] at hb8
    obtain ⟨hp3, hp13, hm1, hm16, hr1, hr16, hrow⟩ := isMat_facts hb8
    obtain ⟨r, hr0, er0⟩ := at_ (show 0 < m.length by omega)
    have hm0 : 0 < m.length := by omega
    have er1 := getD0_of hr0
    rw [er1] at hr1 hr16 hrow
    refine VW.skip ?_
    refine hK1 _ ?_
    refine VW.sq fun K2 hK2 => ?_
    -- region 3
    refine VW.vs tau_ok Sound.none [some 9, some 10, some 11, some 12, some 13, some 14, some 15] [(15, .val (.bool (decide (¬ m.length = r.length))))] [] rfl ?_ ?_
    ·
      simp [hm0, hr0, er0] <;> try omega
    refine VW.cond rfl (fun hb15 => ?_) (fun hb15 => ?_)
    ·
      replace hb15 := of_decide_eq_true hb15
      have hs : sqM p m = 2 := by unfold sqM; rw [if_pos hb8, er1, if_neg hb15]
      -- region 4
      refine VW.es tau_ok Sound.none [some 4] [4] rfl fun K hK => ?_
      simp [hm0, hr0, er0, hb15, hs]
      refine hK _ ?_
      clear hK K
      refine VW.ret ?_
      simp [Post, PostM, Nx, Bk, hm0, hr0, er0, hb15, hs] <;> try omega
    ·
      replace hb15 := of_decide_eq_false hb15
      simp only [Decidable.not_not] at hb15
      have hs : sqM p m = 0 := by unfold sqM; rw [if_pos hb8, er1, if_pos hb15]
      refine VW.skip ?_
      refine hK2 _ ?_
      -- region 5
      refine VW.es tau_ok Sound.none [some 4] [4] rfl fun K hK => ?_
      simp [hm0, hr0, er0, hs]
      refine hK _ ?_
      clear hK K
      refine VW.ret ?_
      simp [Post, PostM, Nx, Bk, hm0, hr0, er0, hs] <;> try omega

theorem ckM1 (p : Int) (m : List (List Int)) (hP : isP p = true) (hl : m.length ≤ 1048576) (hr : ∀ r ∈ m, r.length ≤ 1048576) :
    VCall Try.prog 53 [dM m, .ptr [i64 p]] [.sc (.bool (noTab p m))] := by
  refine VCall.enter Try.call53 Try.func53 rfl 8 Try.ntmps53 (by simp) [.tmp 3] rfl ?_
  -- region 0
  refine VW.es tau_ok Sound.none [some 3] [0, 1] rfl fun K hK => ?_
  simp
  refine hK _ ?_
  clear hK K
  -- region 1
  refine VW.vs tau_ok (Sound.none.add 6 (fIsMatrix p m (by have := isP_le hP; omega) (by have := isP_le hP; omega) hl hr) rfl) [some 4, some 5, some 6, some 7, some 3] [(3, .val (.bool (noTab p m)))] [] rfl ?_ ?_
  ·
    simp [noTab] <;> try omega
  refine VW.ret ?_
  simp [Post, PostM, Nx, Bk] <;> try omega

theorem idxM (p : Int) (c : List (List (List Int))) (hP : isP p = true) (hc : szC_ok c) :
    VCall Try.prog 57 [dC c, .fn 53 [.ptr [i64 p]]] [.sc (.int .i64 (fidx (noTab p) c))] := by
  refine VCall.enter Try.call57 Try.func57 rfl 19 Try.ntmps57 (by simp) [.tmp 4] rfl ?_
  -- region 0
  refine VW.es tau_ok Sound.none [some 4] [0, 1] rfl fun K hK => ?_
  simp
  refine hK _ ?_
  clear hK K
  refine VW.sq fun K1 hK1 => ?_
  -- region 1
  have hcl := hc.1
  refine VW.es tau_ok Sound.none [some 6, some 7, some 8] [0, 1, 7, 8] rfl fun K hK => ?_
  simp
  refine hK _ ?_
  clear hK K
  refine VW.block ?_
  refine VW.frL [8, 0, 1, 7] fun K hK => ?_
  simp
  refine hK _ ?_
  clear hK K
  refine VW.loopN (c.length) (fun k => [(8, .val (i64 k))]) (fun k => (c.take k).all (fun y => !noTab p y) = true) rfl ?_ ?_
  ·
    simp
  ·
    intro k hk hF0
    -- region 2
    refine VW.vs tau_ok Sound.none [some 9] [(9, .val (.bool (decide (k < c.length))))] [0, 1, 7, 8] rfl ?_ ?_
    ·
      simp <;> try omega
    refine VW.sq fun K2 hK2 => ?_
    refine VW.cond rfl (fun hb9 => ?_) (fun hb9 => ?_)
    ·
      replace hb9 := of_decide_eq_true hb9
      obtain ⟨x, hx, ex⟩ := at_ hb9
      refine VW.skip ?_
      refine hK2 _ ?_
      refine VW.sq fun K3 hK3 => ?_
      refine VW.block ?_
      -- region 3
      refine VW.es tau_ok Sound.none [some 10, some 5] [0, 1, 5, 7, 8] rfl fun K hK => ?_
      simp [hb9, hx, ex, wrap_in (x := (k : Int) + 1) (by omega) (by omega)]
      refine hK _ ?_
      clear hK K
      -- region 4
      refine VW.vs tau_ok (Sound.none.add 16 (ckM1 p x hP (hc.2 _ (List.mem_of_getElem? hx)).1 (hc.2 _ (List.mem_of_getElem? hx)).2) rfl) [some 11, some 12, some 13, some 14, some 15, some 16] [(16, .val (.bool (decide (noTab p x = true))))] [0, 1, 5, 7, 8] rfl ?_ ?_
      ·
        simp [hb9, hx, ex, wrap_in (x := (k : Int) + 1) (by omega) (by omega)] <;> try omega
      refine VW.cond rfl (fun hb16 => ?_) (fun hb16 => ?_)
      ·
        replace hb16 := of_decide_eq_true hb16
        have hs : fidx (noTab p) c = k := fidx_at hx hb16 hF0
        -- region 5
        refine VW.es tau_ok Sound.none [some 17, some 4] [4] rfl fun K hK => ?_
        simp [hb9, hx, ex, wrap_in (x := (k : Int) + 1) (by omega) (by omega), hb16, hs]
        refine hK _ ?_
        clear hK K
        refine VW.ret ?_
        simp [Post, PostM, Nx, Bk, hb9, hx, ex, wrap_in (x := (k : Int) + 1) (by omega) (by omega), hb16, hs] <;> try omega
      ·
        replace hb16 := of_decide_eq_false hb16
        simp only [Bool.not_eq_true] at hb16
        refine VW.skip ?_
        refine hK3 _ ?_
        -- region 6
        refine VW.er tau_ok Sound.none [some 18, some 8] [8, 0, 1, 7] rfl fun K hK => ?_
        simp [hb9, hx, ex, wrap_in (x := (k : Int) + 1) (by omega) (by omega), hb16]
        refine hK _ ?_
        clear hK K
        refine and3 ?_ ?_ ?_
        ·
          omega
        ·
          exact all_take hx hF0 (by simp [hb16])
        ·
          simp [hb9, hx, ex, wrap_in (x := (k : Int) + 1) (by omega) (by omega), hb16] <;> try omega
    ·
      replace hb9 := of_decide_eq_false hb9
      have hs : fidx (noTab p) c = -1 := fidx_no (all_full (by omega) hF0)
      refine VW.exit ?_
      refine hK1 _ ?_
      -- region 7
      refine VW.es tau_ok Sound.none [some 4] [4] rfl fun K hK => ?_
      simp [hb9, hs]
      refine hK _ ?_
      clear hK K
      refine VW.ret ?_
      simp [Post, PostM, Nx, Bk, hb9, hs] <;> try omega
end Go.Vam
