import Derived.Test.YtbhhlikpflpeaaaTryW4
namespace Go.Vam
open Go Go.RowKit Go.Proofs
set_option maxRecDepth 100000
set_option linter.unusedSimpArgs false
set_option linter.unusedVariables false

theorem LawTraceOf (p : Int) (m : List (List Int)) (hl : m.length ≤ 9223372036854775807) (hr : ∀ r ∈ m, r.length ≤ 9223372036854775807) :
    VCall Try.prog 4 [i64 p, dM m] [.sc (.bool true)] := by
  refine VCall.enter Try.call4 Try.func4 rfl 44 Try.ntmps4 (by simp) [.tmp 4] rfl ?_
  -- region 0
  refine VW.es tau_ok Sound.none [some 4] [0, 1] rfl fun K hK => ?_
  simp
  refine hK _ ?_
  clear hK K
  -- region 1
  refine VW.es tau_ok Sound.none [some 5] [0, 1, 5] rfl fun K hK => ?_
  simp
  refine hK _ ?_
  clear hK K
  -- region 2
  refine VW.es tau_ok (Sound.none.add 13 (szM m 1048576 hl hr (by omega) (by omega)) rfl) [some 11, some 12, some 13, some 5] [0, 1, 5] rfl fun K hK => ?_
  simp
  refine hK _ ?_
  clear hK K
  have hsz : szv (m.length + rowsum m) 1048576 < 0 ↔ 1048576 < ((m.length + rowsum m : Nat) : Int) := by unfold szv; split <;> omega
  refine VW.sq fun K1 hK1 => ?_
  -- region 3
  refine VW.vs tau_ok Sound.none [some 14, some 15] [(15, .val (.bool (decide (1048576 < ((m.length + rowsum m : Nat) : Int)))))] [0, 1] rfl ?_ ?_
  ·
    simp [hsz] <;> try omega
  refine VW.cond rfl (fun hb15 => ?_) (fun hb15 => ?_)
  ·
    replace hb15 := of_decide_eq_true hb15
    -- region 4
    refine VW.es tau_ok Sound.none [some 4] [4] rfl fun K hK => ?_
    simp [hb15]
    refine hK _ ?_
    clear hK K
    refine VW.ret ?_
    simp [Post, PostM, Nx, Bk, hb15] <;> try omega
  ·
    replace hb15 := of_decide_eq_false hb15
    have hl' : m.length ≤ 1048576 := by omega
    have hr' : ∀ r ∈ m, r.length ≤ 1048576 := fun r h => by have := rowsum_mem h; omega
    refine VW.skip ?_
    refine hK1 _ ?_
    -- region 5
    refine VW.es tau_ok ((Sound.none.add 19 (toM m hl' hr') rfl).add 20 (sTraceOf p m hl' hr') rfl) [some 17, some 18, some 19, some 20, some 16, some 21, some 22, some 6, some 7] [0, 1, 6, 7] rfl fun K hK => ?_
    simp
    refine hK _ ?_
    clear hK K
    -- region 6
    refine VW.es tau_ok (Sound.none.add 24 (toM m hl' hr') rfl) [some 23, some 24, some 8] [0, 1, 6, 7, 8] rfl fun K hK => ?_
    simp
    refine hK _ ?_
    clear hK K
    -- region 7
    refine VW.es tau_ok (Sound.none.add 28 (iTraceOf p m hl' hr') rfl) [some 26, some 27, some 28, some 25, some 29, some 30, some 9, some 10] [1, 6, 7, 8, 9, 10] rfl fun K hK => ?_
    simp
    refine hK _ ?_
    clear hK K
    refine VW.sq fun K2 hK2 => ?_
    -- region 8
    refine VW.vs tau_ok Sound.none [some 31, some 32, some 33, some 34, some 35, some 36, some 37, some 38] [(38, .val (.bool (decide (False))))] [1, 8] rfl ?_ ?_
    ·
      simp <;> try omega
    refine VW.cond rfl (fun hb38 => ?_) (fun hb38 => ?_)
    ·
      replace hb38 := of_decide_eq_true hb38
      exact hb38.elim
    ·
      replace hb38 := of_decide_eq_false hb38
      refine VW.skip ?_
      refine hK2 _ ?_
      refine VW.sq fun K3 hK3 => ?_
      -- region 10
      refine VW.vs tau_ok ((Sound.none.add 41 (toM m hl' hr') rfl).add 42 (eqM m m hl hr) rfl) [some 39, some 40, some 41, some 42, some 43] [(43, .val (.bool (decide (False))))] [] rfl ?_ ?_
      ·
        simp <;> try omega
      refine VW.cond rfl (fun hb43 => ?_) (fun hb43 => ?_)
      ·
        replace hb43 := of_decide_eq_true hb43
        exact hb43.elim
      ·
        replace hb43 := of_decide_eq_false hb43
        refine VW.skip ?_
        refine hK3 _ ?_
        -- region 12
        refine VW.es tau_ok Sound.none [some 4] [4] rfl fun K hK => ?_
        simp
        refine hK _ ?_
        clear hK K
        refine VW.ret ?_
        simp [Post, PostM, Nx, Bk] <;> try omega

theorem markI (xs : List Int) (k0 : Int) (h0 : 0 ≤ k0) (hk0 : k0 + xs.length ≤ 1073741824) :
    VMut Try.prog 24 (dI xs) [i64 k0] (.int .i64 (k0 + xs.length)) (dI (mrkI k0 xs)) := by
  refine VMut.enter Try.call24 Try.func24 rfl 19 Try.ntmps24 (by simp) [.tmp 4] rfl ?_
  -- region 0
  refine VW.es tau_ok Sound.none [some 4] [0, 1] rfl fun K hK => ?_
  simp
  refine hK _ ?_
  clear hK K
  refine VW.sq fun K1 hK1 => ?_
  -- region 1
  refine VW.es tau_ok Sound.none [some 5] [0, 1, 5] rfl fun K hK => ?_
  simp
  refine hK _ ?_
  clear hK K
  refine VW.block ?_
  refine VW.frL [0, 1, 5] fun K hK => ?_
  simp
  refine hK _ ?_
  clear hK K
  rw [show VV.ref 0 [] true (dI xs) = VV.ref 0 [] true (dI (mkI k0 xs 0)) by rw [mkI_zero], show VV.val (i64 k0) = VV.val (i64 (k0 + ((0 : Nat) : Int))) by simp]
  refine VW.loopN (xs.length) (fun k => [(0, .ref 0 [] true (dI (mkI k0 xs k))), (1, .val (i64 (k0 + k))), (5, .val (i64 k))]) (fun k => True) rfl ?_ ?_
  ·
    trivial
  ·
    intro k hk hF0
    have hml := mkI_len k0 xs k hk
    refine VW.sq fun K2 hK2 => ?_
    -- region 2
    refine VW.vs tau_ok Sound.none [some 6, some 7, some 8, some 9] [(9, .val (.bool (decide (k < xs.length))))] [0, 1, 5] rfl ?_ ?_
    ·
      simp [hml] <;> try omega
    refine VW.cond rfl (fun hb9 => ?_) (fun hb9 => ?_)
    ·
      replace hb9 := of_decide_eq_true hb9
      have hset := mkI_set k0 xs k hb9
      have hw1 : IntKind.i64.wrap (k0 + (k : Int) + 1) = k0 + ((k : Int) + 1) := by rw [wrap_in (by omega) (by omega)]; omega
      refine VW.skip ?_
      refine hK2 _ ?_
      refine VW.sq fun K3 hK3 => ?_
      refine VW.block ?_
      -- region 4
      refine VW.es tau_ok Sound.none [some 12, some 13, some 14, some 15, none] [0, 1, 5] rfl fun K hK => ?_
      simp [hb9, hml, hset, wrap_in (x := (k : Int) + 1) (by omega) (by omega), hw1]
      refine hK _ ?_
      clear hK K
      -- region 5
      refine VW.er tau_ok Sound.none [some 16, some 17, some 1] [0, 1, 5] rfl fun K hK => ?_
      simp [hb9, hml, hset, wrap_in (x := (k : Int) + 1) (by omega) (by omega), hw1]
      refine hK _ ?_
      clear hK K
      refine hK3 _ ?_
      -- region 3
      refine VW.er tau_ok Sound.none [some 10, some 11, some 5] [0, 1, 5] rfl fun K hK => ?_
      simp [hb9, hml, hset, wrap_in (x := (k : Int) + 1) (by omega) (by omega), hw1]
      refine hK _ ?_
      clear hK K
      refine and3 ?_ ?_ ?_
      ·
        omega
      ·
        trivial
      ·
        simp [hb9, hml, hset, wrap_in (x := (k : Int) + 1) (by omega) (by omega), hw1] <;> try omega
    ·
      replace hb9 := of_decide_eq_false hb9
      have hkk : k = xs.length := by omega
      subst hkk
      refine VW.exit ?_
      refine hK1 _ ?_
      -- region 6
      refine VW.es tau_ok Sound.none [some 18, some 4] [0, 4] rfl fun K hK => ?_
      simp
      refine hK _ ?_
      clear hK K
      refine VW.ret ?_
      simp [Post, PostM, Nx, Bk, mrkI] <;> try omega

theorem heldI (xs ys : List Int) (k0 : Int) (h0 : 0 ≤ k0) (hk0 : k0 + xs.length ≤ 1073741824) (he : ys = mrkI k0 xs) :
    VCall Try.prog 25 [dI ys, i64 k0] [.sc (.int .i64 (k0 + xs.length))] := by
  refine VCall.enter Try.call25 Try.func25 rfl 21 Try.ntmps25 (by simp) [.tmp 4] rfl ?_
  -- region 0
  refine VW.es tau_ok Sound.none [some 4] [0, 1] rfl fun K hK => ?_
  simp
  refine hK _ ?_
  clear hK K
  refine VW.sq fun K1 hK1 => ?_
  -- region 1
  refine VW.es tau_ok Sound.none [some 5] [0, 1, 5] rfl fun K hK => ?_
  simp
  refine hK _ ?_
  clear hK K
  refine VW.block ?_
  refine VW.frL [1, 5, 0] fun K hK => ?_
  simp
  refine hK _ ?_
  clear hK K
  have hyl : ys.length = xs.length := by rw [he, mrkI, mkI_len _ _ _ (Nat.le_refl _)]
  rw [show VV.val (i64 k0) = VV.val (i64 (k0 + ((0 : Nat) : Int))) by simp]
  refine VW.loopN (ys.length) (fun k => [(1, .val (i64 (k0 + k))), (5, .val (i64 k))]) (fun k => True) rfl ?_ ?_
  ·
    trivial
  ·
    intro k hk hF0
    refine VW.sq fun K2 hK2 => ?_
    -- region 2
    refine VW.vs tau_ok Sound.none [some 6, some 7, some 8, some 9] [(9, .val (.bool (decide (k < ys.length))))] [0, 1, 5] rfl ?_ ?_
    ·
      simp <;> try omega
    refine VW.cond rfl (fun hb9 => ?_) (fun hb9 => ?_)
    ·
      replace hb9 := of_decide_eq_true hb9
      have hy := mrkI_at he hb9
      obtain ⟨x, hx, ex⟩ := at_ hb9
      have hxk : x = k0 + k := by rw [hy] at hx; exact (Option.some.inj hx).symm
      subst hxk
      have hw1 : IntKind.i64.wrap (k0 + (k : Int) + 1) = k0 + ((k : Int) + 1) := by rw [wrap_in (by omega) (by omega)]; omega
      refine VW.skip ?_
      refine hK2 _ ?_
      refine VW.sq fun K3 hK3 => ?_
      refine VW.block ?_
      refine VW.sq fun K4 hK4 => ?_
      -- region 4
      refine VW.vs tau_ok Sound.none [some 12, some 13, some 14, some 15, some 16, some 17] [(17, .val (.bool (decide (False))))] [0, 1, 5] rfl ?_ ?_
      ·
        simp [hb9, hx, ex, wrap_in (x := (k : Int) + 1) (by omega) (by omega), hw1] <;> try omega
      refine VW.cond rfl (fun hb17 => ?_) (fun hb17 => ?_)
      ·
        replace hb17 := of_decide_eq_true hb17
        exact hb17.elim
      ·
        replace hb17 := of_decide_eq_false hb17
        refine VW.skip ?_
        refine hK4 _ ?_
        -- region 6
        refine VW.er tau_ok Sound.none [some 18, some 19, some 1] [1, 5, 0] rfl fun K hK => ?_
        simp [hb9, hx, ex, wrap_in (x := (k : Int) + 1) (by omega) (by omega), hw1]
        refine hK _ ?_
        clear hK K
        refine hK3 _ ?_
        -- region 3
        refine VW.er tau_ok Sound.none [some 10, some 11, some 5] [1, 5, 0] rfl fun K hK => ?_
        simp [hb9, hx, ex, wrap_in (x := (k : Int) + 1) (by omega) (by omega), hw1]
        refine hK _ ?_
        clear hK K
        refine and3 ?_ ?_ ?_
        ·
          omega
        ·
          trivial
        ·
          simp [hb9, hx, ex, wrap_in (x := (k : Int) + 1) (by omega) (by omega), hw1] <;> try omega
    ·
      replace hb9 := of_decide_eq_false hb9
      have hkk : k = ys.length := by omega
      have hke : (k : Int) = xs.length := by omega
      refine VW.exit ?_
      refine hK1 _ ?_
      -- region 7
      refine VW.es tau_ok Sound.none [some 20, some 4] [4] rfl fun K hK => ?_
      simp [hke]
      refine hK _ ?_
      clear hK K
      refine VW.ret ?_
      simp [Post, PostM, Nx, Bk, hke] <;> try omega

theorem markM (m : List (List Int)) (k0 : Int) (h0 : 0 ≤ k0) (hk0 : k0 + rowsum m ≤ 1073741824) (hml : m.length ≤ 1073741824) :
    VMut Try.prog 18 (dM m) [i64 k0] (.int .i64 (k0 + rowsum m)) (dM (mrkM k0 m)) := by
  refine VMut.enter Try.call18 Try.func18 rfl 19 Try.ntmps18 (by simp) [.tmp 4] rfl ?_
  -- region 0
  refine VW.es tau_ok Sound.none [some 4] [0, 1] rfl fun K hK => ?_
  simp
  refine hK _ ?_
  clear hK K
  refine VW.sq fun K1 hK1 => ?_
  -- region 1
  refine VW.es tau_ok Sound.none [some 5] [0, 1, 5] rfl fun K hK => ?_
  simp
  refine hK _ ?_
  clear hK K
  refine VW.block ?_
  refine VW.frL [0, 1, 5] fun K hK => ?_
  simp
  refine hK _ ?_
  clear hK K
  rw [show VV.ref 0 [] true (dM m) = VV.ref 0 [] true (dM (mkM k0 m 0)) by rw [mkM_zero], show VV.val (i64 k0) = VV.val (i64 (mkC k0 m 0)) by simp [mkC, rowsum]]
  refine VW.loopN (m.length) (fun k => [(0, .ref 0 [] true (dM (mkM k0 m k))), (1, .val (i64 (mkC k0 m k))), (5, .val (i64 k))]) (fun k => True) rfl ?_ ?_
  ·
    trivial
  ·
    intro k hk hF0
    have hmm := mkM_len k0 m k hk
    refine VW.sq fun K2 hK2 => ?_
    -- region 2
    refine VW.vs tau_ok Sound.none [some 6, some 7, some 8, some 9] [(9, .val (.bool (decide (k < m.length))))] [0, 1, 5] rfl ?_ ?_
    ·
      simp [hmm] <;> try omega
    refine VW.cond rfl (fun hb9 => ?_) (fun hb9 => ?_)
    ·
      replace hb9 := of_decide_eq_true hb9
      obtain ⟨x, hx, _⟩ := at_ hb9
      have hset := mkM_set k0 m k hx
      have hcs := mkC_succ k0 m k hx
      have hcl := mkC_le k0 m k
      have hcl2 := mkC_le k0 m (k + 1)
      have hx2 := mkM_at k0 m k hx
      have hx3 : (mkM k0 m k)[k]'(by omega) = x := (List.getElem?_eq_some_iff.1 hx2).2
      refine VW.skip ?_
      refine hK2 _ ?_
      refine VW.sq fun K3 hK3 => ?_
      refine VW.block ?_
      -- region 4
      refine VW.er tau_ok (Sound.none.mutc 17 (markI x (mkC k0 m k) (by omega) (by omega))) [some 12, some 13, some 14, some 15, some 16, some 17, some 1] [0, 1, 5] rfl fun K hK => ?_
      simp [hb9, hmm, hset, hx2, hx3, wrap_in (x := (k : Int) + 1) (by omega) (by omega), hcs]
      refine hK _ ?_
      clear hK K
      refine hK3 _ ?_
      -- region 3
      refine VW.er tau_ok Sound.none [some 10, some 11, some 5] [0, 1, 5] rfl fun K hK => ?_
      simp [hb9, hmm, hset, hx2, hx3, wrap_in (x := (k : Int) + 1) (by omega) (by omega), hcs]
      refine hK _ ?_
      clear hK K
      refine and3 ?_ ?_ ?_
      ·
        omega
      ·
        trivial
      ·
        simp [hb9, hmm, hset, hx2, hx3, wrap_in (x := (k : Int) + 1) (by omega) (by omega), hcs] <;> try omega
    ·
      replace hb9 := of_decide_eq_false hb9
      have hkk : k = m.length := by omega
      subst hkk
      have hcf := mkC_full k0 m
      refine VW.exit ?_
      refine hK1 _ ?_
      -- region 5
      refine VW.es tau_ok Sound.none [some 18, some 4] [0, 4] rfl fun K hK => ?_
      simp [hcf]
      refine hK _ ?_
      clear hK K
      refine VW.ret ?_
      simp [Post, PostM, Nx, Bk, mrkM, hcf] <;> try omega

theorem heldM (m y : List (List Int)) (k0 : Int) (h0 : 0 ≤ k0) (hk0 : k0 + rowsum m ≤ 1073741824) (hml : m.length ≤ 1073741824) (he : y = mrkM k0 m) :
    VCall Try.prog 19 [dM y, i64 k0] [.sc (.int .i64 (k0 + rowsum m))] := by
  refine VCall.enter Try.call19 Try.func19 rfl 21 Try.ntmps19 (by simp) [.tmp 4] rfl ?_
  -- region 0
  refine VW.es tau_ok Sound.none [some 4] [0, 1] rfl fun K hK => ?_
  simp
  refine hK _ ?_
  clear hK K
  refine VW.sq fun K1 hK1 => ?_
  -- region 1
  refine VW.es tau_ok Sound.none [some 5] [0, 1, 5] rfl fun K hK => ?_
  simp
  refine hK _ ?_
  clear hK K
  refine VW.block ?_
  refine VW.frL [1, 5, 0] fun K hK => ?_
  simp
  refine hK _ ?_
  clear hK K
  have hyl : y.length = m.length := by rw [he, mrkM_len]
  rw [show VV.val (i64 k0) = VV.val (i64 (mkC k0 m 0)) by simp [mkC, rowsum]]
  refine VW.loopN (m.length) (fun k => [(1, .val (i64 (mkC k0 m k))), (5, .val (i64 k))]) (fun k => True) rfl ?_ ?_
  ·
    trivial
  ·
    intro k hk hF0
    refine VW.sq fun K2 hK2 => ?_
    -- region 2
    refine VW.vs tau_ok Sound.none [some 6, some 7, some 8, some 9] [(9, .val (.bool (decide (k < m.length))))] [0, 1, 5] rfl ?_ ?_
    ·
      simp [hyl] <;> try omega
    refine VW.cond rfl (fun hb9 => ?_) (fun hb9 => ?_)
    ·
      replace hb9 := of_decide_eq_true hb9
      obtain ⟨x, hx, _⟩ := at_ hb9
      have hy := mrkM_at he hx
      have hyk : k < y.length := by omega
      have ey : y[k] = mrkI (mkC k0 m k) x := (List.getElem?_eq_some_iff.1 hy).2
      have hcs := mkC_succ k0 m k hx
      have hcl := mkC_le k0 m k
      have hcl2 := mkC_le k0 m (k + 1)
      refine VW.skip ?_
      refine hK2 _ ?_
      refine VW.sq fun K3 hK3 => ?_
      refine VW.block ?_
      -- region 4
      refine VW.es tau_ok (Sound.none.add 17 (heldI x (mrkI (mkC k0 m k) x) (mkC k0 m k) (by omega) (by omega) rfl) rfl) [some 12, some 13, some 14, some 15, some 16, some 17, some 1] [1, 5, 0] rfl fun K hK => ?_
      simp [hb9, hyk, hy, ey, wrap_in (x := (k : Int) + 1) (by omega) (by omega), hcs]
      refine hK _ ?_
      clear hK K
      -- region 5
      refine VW.vs tau_ok Sound.none [some 18, some 19] [(19, .val (.bool (decide (False))))] [0, 1, 5] rfl ?_ ?_
      ·
        simp [hb9, hyk, hy, ey, wrap_in (x := (k : Int) + 1) (by omega) (by omega), hcs] <;> try omega
      refine VW.cond rfl (fun hb19 => ?_) (fun hb19 => ?_)
      ·
        replace hb19 := of_decide_eq_true hb19
        exact hb19.elim
      ·
        replace hb19 := of_decide_eq_false hb19
        refine VW.skip ?_
        refine hK3 _ ?_
        -- region 3
        refine VW.er tau_ok Sound.none [some 10, some 11, some 5] [1, 5, 0] rfl fun K hK => ?_
        simp [hb9, hyk, hy, ey, wrap_in (x := (k : Int) + 1) (by omega) (by omega), hcs]
        refine hK _ ?_
        clear hK K
        refine and3 ?_ ?_ ?_
        ·
          omega
        ·
          trivial
        ·
          simp [hb9, hyk, hy, ey, wrap_in (x := (k : Int) + 1) (by omega) (by omega), hcs] <;> try omega
    ·
      replace hb9 := of_decide_eq_false hb9
      have hkk : k = m.length := by omega
      subst hkk
      have hcf := mkC_full k0 m
      refine VW.exit ?_
      refine hK1 _ ?_
      -- region 7
      refine VW.es tau_ok Sound.none [some 20, some 4] [4] rfl fun K hK => ?_
      simp [hcf]
      refine hK _ ?_
      clear hK K
      refine VW.ret ?_
      simp [Post, PostM, Nx, Bk, hcf] <;> try omega

theorem sTurn (p : Int) (m : List (List Int)) (h : isMat p m = true) :
    VCall Try.prog 37 [dM m] [.own true (dM (trn m))] := by
  refine VCall.enter Try.call37 Try.func37 rfl 38 Try.ntmps37 (by simp) [.tmp 2] rfl ?_
  -- region 0
  obtain ⟨hp3, hp13, hm1, hm16, hr1, hr16, hrow⟩ := isMat_facts h
  obtain ⟨r0, hr0, er0⟩ := at_ (show 0 < m.length by omega)
  have hm0 : 0 < m.length := by omega
  have er1 := getD0_of hr0
  rw [er1] at hr1 hr16 hrow
  refine VW.es tau_ok Sound.none [some 2] [0] rfl fun K hK => ?_
  simp
  refine hK _ ?_
  clear hK K
  -- region 1
  refine VW.es tau_ok Sound.none [some 7, some 3] [0, 3] rfl fun K hK => ?_
  simp
  refine hK _ ?_
  clear hK K
  refine VW.sq fun K1 hK1 => ?_
  -- region 2
  refine VW.es tau_ok Sound.none [some 4] [0, 3, 4] rfl fun K hK => ?_
  simp
  refine hK _ ?_
  clear hK K
  refine VW.block ?_
  refine VW.frL [3, 4, 0] fun K hK => ?_
  simp
  refine hK _ ?_
  clear hK K
  rw [show VV.ref 3 [] true (D.list []) = VV.ref 3 [] true (dM (trp m 0)) from rfl]
  refine VW.loopN (r0.length) (fun k => [(3, .ref 3 [] true (dM (trp m k))), (4, .val (i64 k))]) (fun k => True) rfl ?_ ?_
  ·
    trivial
  ·
    intro k hk hF0
    refine VW.sq fun K2 hK2 => ?_
    -- region 3
    refine VW.vs tau_ok Sound.none [some 8, some 9, some 10, some 11, some 12, some 13] [(13, .val (.bool (decide (k < r0.length))))] [0, 3, 4] rfl ?_ ?_
    ·
      simp [hm0, hr0, er0] <;> try omega
    refine VW.cond rfl (fun hb13 => ?_) (fun hb13 => ?_)
    ·
      replace hb13 := of_decide_eq_true hb13
      refine VW.skip ?_
      refine hK2 _ ?_
      refine VW.sq fun K3 hK3 => ?_
      refine VW.block ?_
      -- region 5
      refine VW.es tau_ok Sound.none [some 16, some 5] [0, 3, 4, 5] rfl fun K hK => ?_
      simp [hb13, wrap_in (x := (k : Int) + 1) (by omega) (by omega)]
      refine hK _ ?_
      clear hK K
      refine VW.sq fun K4 hK4 => ?_
      -- region 6
      refine VW.es tau_ok Sound.none [some 6] [0, 3, 4, 5, 6] rfl fun K hK => ?_
      simp [hb13, wrap_in (x := (k : Int) + 1) (by omega) (by omega)]
      refine hK _ ?_
      clear hK K
      refine VW.block ?_
      refine VW.frL [5, 6, 0, 3, 4] fun K hK => ?_
      simp
      refine hK _ ?_
      clear hK K
      rw [show VV.ref 5 [] true (D.list []) = VV.ref 5 [] true (dI (colp m k 0)) from rfl]
      refine VW.loopN (m.length) (fun i => [(5, .ref 5 [] true (dI (colp m k i))), (6, .val (i64 i))]) (fun i => True) rfl ?_ ?_
      ·
        trivial
      ·
        intro i hi hF2
        refine VW.sq fun K5 hK5 => ?_
        -- region 7
        refine VW.vs tau_ok Sound.none [some 17, some 18, some 19, some 20] [(20, .val (.bool (decide (i < m.length))))] [0, 3, 4, 5, 6] rfl ?_ ?_
        ·
          simp [hb13, wrap_in (x := (k : Int) + 1) (by omega) (by omega)] <;> try omega
        refine VW.cond rfl (fun hb20 => ?_) (fun hb20 => ?_)
        ·
          replace hb20 := of_decide_eq_true hb20
          obtain ⟨r, hr, er⟩ := at_ hb20
          obtain ⟨hrl, hrx⟩ := hrow i r hr
          have hkr : k < r.length := by omega
          obtain ⟨x, hx, ex⟩ := at_ hkr
          have hcl := colp_len m k i hi
          have hap := colp_app hr hx
          have hcb : i + 1 ≤ 1099511627776 := by omega
          refine VW.skip ?_
          refine hK5 _ ?_
          refine VW.sq fun K6 hK6 => ?_
          refine VW.block ?_
          -- region 9
          refine VW.er tau_ok Sound.none [some 23, some 24, some 25, some 26, some 27, some 28, some 29, some 30, some 31, some 32, some 5] [5, 6, 0, 3, 4] rfl fun K hK => ?_
          simp [hb13, wrap_in (x := (k : Int) + 1) (by omega) (by omega), hb20, hr, er, hkr, hx, ex, hcl, hcb, hap, wrap_in (x := (i : Int) + 1) (by omega) (by omega)]
          refine hK _ ?_
          clear hK K
          refine hK6 _ ?_
          -- region 8
          refine VW.er tau_ok Sound.none [some 21, some 22, some 6] [5, 6, 0, 3, 4] rfl fun K hK => ?_
          simp [hb13, wrap_in (x := (k : Int) + 1) (by omega) (by omega), hb20, hr, er, hkr, hx, ex, hcl, hcb, hap, wrap_in (x := (i : Int) + 1) (by omega) (by omega)]
          refine hK _ ?_
          clear hK K
          refine and3 ?_ ?_ ?_
          ·
            omega
          ·
            trivial
          ·
            simp [hb13, wrap_in (x := (k : Int) + 1) (by omega) (by omega), hb20, hr, er, hkr, hx, ex, hcl, hcb, hap, wrap_in (x := (i : Int) + 1) (by omega) (by omega)] <;> try omega
        ·
          replace hb20 := of_decide_eq_false hb20
          have hii : i = m.length := by omega
          subst hii
          have htl := trp_len m k
          have htb : k + 1 ≤ 1099511627776 := by omega
          have hta := trp_app m k
          refine VW.exit ?_
          refine hK4 _ ?_
          -- region 10
          refine VW.er tau_ok Sound.none [some 33, some 34, some 35, some 36, some 3] [3, 4, 0] rfl fun K hK => ?_
          simp [hb13, wrap_in (x := (k : Int) + 1) (by omega) (by omega), htl, htb, hta]
          refine hK _ ?_
          clear hK K
          refine hK3 _ ?_
          -- region 4
          refine VW.er tau_ok Sound.none [some 14, some 15, some 4] [3, 4, 0] rfl fun K hK => ?_
          simp [hb13, wrap_in (x := (k : Int) + 1) (by omega) (by omega), htl, htb, hta]
          refine hK _ ?_
          clear hK K
          refine and3 ?_ ?_ ?_
          ·
            omega
          ·
            trivial
          ·
            simp [hb13, wrap_in (x := (k : Int) + 1) (by omega) (by omega), htl, htb, hta] <;> try omega
    ·
      replace hb13 := of_decide_eq_false hb13
      have hkk : k = r0.length := by omega
      subst hkk
      have htn : trn m = trp m r0.length := by rw [trn, er1]
      refine VW.exit ?_
      refine hK1 _ ?_
      -- region 11
      refine VW.es tau_ok Sound.none [some 37, some 2] [2] rfl fun K hK => ?_
      simp [htn]
      refine hK _ ?_
      clear hK K
      refine VW.ret ?_
      simp [Post, PostM, Nx, Bk, htn] <;> try omega

theorem iTurn (p : Int) (m : List (List Int)) (h : isMat p m = true) :
    VCall Try.prog 39 [dM m] [.own true (dM (trn m))] := by
  refine VCall.enter Try.call39 Try.func39 rfl 38 Try.ntmps39 (by simp) [.tmp 2] rfl ?_
  -- region 0
  obtain ⟨hp3, hp13, hm1, hm16, hr1, hr16, hrow⟩ := isMat_facts h
  obtain ⟨r0, hr0, er0⟩ := at_ (show 0 < m.length by omega)
  have hm0 : 0 < m.length := by omega
  have er1 := getD0_of hr0
  rw [er1] at hr1 hr16 hrow
  refine VW.es tau_ok Sound.none [some 2] [0] rfl fun K hK => ?_
  simp
  refine hK _ ?_
  clear hK K
  -- region 1
  refine VW.es tau_ok Sound.none [some 7, some 3] [0, 3] rfl fun K hK => ?_
  simp
  refine hK _ ?_
  clear hK K
  refine VW.sq fun K1 hK1 => ?_
  -- region 2
  refine VW.es tau_ok Sound.none [some 8, some 9, some 10, some 11, some 12] [0, 3, 11, 12] rfl fun K hK => ?_
  simp [hm0, hr0, er0]
  refine hK _ ?_
  clear hK K
  refine VW.block ?_
  refine VW.frL [3, 12, 0, 11] fun K hK => ?_
  simp
  refine hK _ ?_
  clear hK K
  rw [show VV.ref 3 [] true (D.list []) = VV.ref 3 [] true (dM (trp m 0)) from rfl]
  refine VW.loopN (r0.length) (fun k => [(3, .ref 3 [] true (dM (trp m k))), (12, .val (i64 k))]) (fun k => True) rfl ?_ ?_
  ·
    trivial
  ·
    intro k hk hF0
    -- region 3
    refine VW.vs tau_ok Sound.none [some 13] [(13, .val (.bool (decide (k < r0.length))))] [0, 3, 11, 12] rfl ?_ ?_
    ·
      simp <;> try omega
    refine VW.sq fun K2 hK2 => ?_
    refine VW.cond rfl (fun hb13 => ?_) (fun hb13 => ?_)
    ·
      replace hb13 := of_decide_eq_true hb13
      refine VW.skip ?_
      refine hK2 _ ?_
      refine VW.sq fun K3 hK3 => ?_
      refine VW.block ?_
      -- region 4
      refine VW.es tau_ok Sound.none [some 14, some 4] [0, 3, 4, 11, 12] rfl fun K hK => ?_
      simp [hb13, wrap_in (x := (k : Int) + 1) (by omega) (by omega)]
      refine hK _ ?_
      clear hK K
      -- region 5
      refine VW.es tau_ok Sound.none [some 15, some 5] [0, 3, 4, 5, 11, 12] rfl fun K hK => ?_
      simp [hb13, wrap_in (x := (k : Int) + 1) (by omega) (by omega)]
      refine hK _ ?_
      clear hK K
      refine VW.sq fun K4 hK4 => ?_
      -- region 6
      refine VW.es tau_ok Sound.none [some 16, some 17, some 18] [0, 3, 4, 5, 11, 12, 17, 18] rfl fun K hK => ?_
      simp [hb13, wrap_in (x := (k : Int) + 1) (by omega) (by omega)]
      refine hK _ ?_
      clear hK K
      refine VW.block ?_
      refine VW.frL [5, 18, 0, 3, 4, 11, 12, 17] fun K hK => ?_
      simp
      refine hK _ ?_
      clear hK K
      rw [show VV.ref 5 [] true (D.list []) = VV.ref 5 [] true (dI (colp m k 0)) from rfl]
      refine VW.loopN (m.length) (fun i => [(5, .ref 5 [] true (dI (colp m k i))), (18, .val (i64 i))]) (fun i => True) rfl ?_ ?_
      ·
        trivial
      ·
        intro i hi hF2
        -- region 7
        refine VW.vs tau_ok Sound.none [some 19] [(19, .val (.bool (decide (i < m.length))))] [0, 3, 4, 5, 11, 12, 17, 18] rfl ?_ ?_
        ·
          simp [hb13, wrap_in (x := (k : Int) + 1) (by omega) (by omega)] <;> try omega
        refine VW.sq fun K5 hK5 => ?_
        refine VW.cond rfl (fun hb19 => ?_) (fun hb19 => ?_)
        ·
          replace hb19 := of_decide_eq_true hb19
          obtain ⟨r, hr, er⟩ := at_ hb19
          obtain ⟨hrl, hrx⟩ := hrow i r hr
          have hkr : k < r.length := by omega
          obtain ⟨x, hx, ex⟩ := at_ hkr
          have hcl := colp_len m k i hi
          have hap := colp_app hr hx
          have hcb : i + 1 ≤ 1099511627776 := by omega
          refine VW.skip ?_
          refine hK5 _ ?_
          refine VW.sq fun K6 hK6 => ?_
          refine VW.block ?_
          -- region 8
          refine VW.es tau_ok Sound.none [some 20, some 6] [0, 3, 4, 5, 6, 11, 12, 17, 18] rfl fun K hK => ?_
          simp [hb13, wrap_in (x := (k : Int) + 1) (by omega) (by omega), hb19, hr, er, hkr, hx, ex, hcl, hcb, hap, wrap_in (x := (i : Int) + 1) (by omega) (by omega)]
          refine hK _ ?_
          clear hK K
          -- region 9
          refine VW.er tau_ok Sound.none [some 21, some 22, some 23, some 24, some 25, some 26, some 27, some 28, some 29, some 30, some 5] [5, 18, 0, 3, 4, 11, 12, 17] rfl fun K hK => ?_
          simp [hb13, wrap_in (x := (k : Int) + 1) (by omega) (by omega), hb19, hr, er, hkr, hx, ex, hcl, hcb, hap, wrap_in (x := (i : Int) + 1) (by omega) (by omega)]
          refine hK _ ?_
          clear hK K
          refine hK6 _ ?_
          -- region 10
          refine VW.er tau_ok Sound.none [some 31, some 18] [5, 18, 0, 3, 4, 11, 12, 17] rfl fun K hK => ?_
          simp [hb13, wrap_in (x := (k : Int) + 1) (by omega) (by omega), hb19, hr, er, hkr, hx, ex, hcl, hcb, hap, wrap_in (x := (i : Int) + 1) (by omega) (by omega)]
          refine hK _ ?_
          clear hK K
          refine and3 ?_ ?_ ?_
          ·
            omega
          ·
            trivial
          ·
            simp [hb13, wrap_in (x := (k : Int) + 1) (by omega) (by omega), hb19, hr, er, hkr, hx, ex, hcl, hcb, hap, wrap_in (x := (i : Int) + 1) (by omega) (by omega)] <;> try omega
        ·
          replace hb19 := of_decide_eq_false hb19
          have hii : i = m.length := by omega
          subst hii
          have htl := trp_len m k
          have htb : k + 1 ≤ 1099511627776 := by omega
          have hta := trp_app m k
          refine VW.exit ?_
          refine hK4 _ ?_
          -- region 11
          refine VW.er tau_ok Sound.none [some 32, some 33, some 34, some 35, some 3] [3, 12, 0, 11] rfl fun K hK => ?_
          simp [hb13, wrap_in (x := (k : Int) + 1) (by omega) (by omega), htl, htb, hta]
          refine hK _ ?_
          clear hK K
          refine hK3 _ ?_
          -- region 12
          refine VW.er tau_ok Sound.none [some 36, some 12] [3, 12, 0, 11] rfl fun K hK => ?_
          simp [hb13, wrap_in (x := (k : Int) + 1) (by omega) (by omega), htl, htb, hta]
          refine hK _ ?_
          clear hK K
          refine and3 ?_ ?_ ?_
          ·
            omega
          ·
            trivial
          ·
            simp [hb13, wrap_in (x := (k : Int) + 1) (by omega) (by omega), htl, htb, hta] <;> try omega
    ·
      replace hb13 := of_decide_eq_false hb13
      have hkk : k = r0.length := by omega
      subst hkk
      have htn : trn m = trp m r0.length := by rw [trn, er1]
      refine VW.exit ?_
      refine hK1 _ ?_
      -- region 13
      refine VW.es tau_ok Sound.none [some 37, some 2] [2] rfl fun K hK => ?_
      simp [htn]
      refine hK _ ?_
      clear hK K
      refine VW.ret ?_
      simp [Post, PostM, Nx, Bk, htn] <;> try omega

theorem sTranspose (p : Int) (m : List (List Int)) (hl : m.length ≤ 1048576) (hr : ∀ r ∈ m, r.length ≤ 1048576) :
    VCall Try.prog 16 [i64 p, dM m] [.own true (dM (ttv p m)), .sc (.int .i64 (ttc p m))] := by
  refine VCall.enter Try.call16 Try.func16 rfl 12 Try.ntmps16 (by simp) [.tmp 4, .tmp 5] rfl ?_
  -- region 0
  refine VW.es tau_ok Sound.none [some 4, some 5] [0, 1] rfl fun K hK => ?_
  simp
  refine hK _ ?_
  clear hK K
  refine VW.sq fun K1 hK1 => ?_
  -- region 1
  refine VW.vs tau_ok (Sound.none.add 8 (l02Is p m hl hr) rfl) [some 6, some 7, some 8, some 9] [(9, .val (.bool (decide (isMat p m = false))))] [1] rfl ?_ ?_
  ·
    simp <;> try omega
  refine VW.cond rfl (fun hb9 => ?_) (fun hb9 => ?_)
  ·
    replace hb9 := of_decide_eq_true hb9
    have hv : ttv p m = [] := by unfold ttv; rw [if_neg (by simp [hb9])]
    have hc : ttc p m = 1 := by unfold ttc; rw [if_neg (by simp [hb9])]
    -- region 2
    refine VW.es tau_ok Sound.none [some 4, some 5] [4, 5] rfl fun K hK => ?_
    simp [hb9, hv, hc]
    refine hK _ ?_
    clear hK K
    refine VW.ret ?_
    simp [Post, PostM, Nx, Bk, hb9, hv, hc] <;> try omega
  ·
    replace hb9 := of_decide_eq_false hb9
    simp only [Bool.not_eq_false] at hb9
    have hv : ttv p m = trn m := by unfold ttv; rw [if_pos hb9]
    have hc : ttc p m = 0 := by unfold ttc; rw [if_pos hb9]
    refine VW.skip ?_
    refine hK1 _ ?_
    -- region 3
    refine VW.es tau_ok (Sound.none.add 11 (sTurn p m hb9) rfl) [some 10, some 11, some 4, some 5] [4, 5] rfl fun K hK => ?_
    simp [hv, hc]
    refine hK _ ?_
    clear hK K
    refine VW.ret ?_
    simp [Post, PostM, Nx, Bk, hv, hc] <;> try omega
end Go.Vam
