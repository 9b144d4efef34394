import Derived.Test.YtbhhlikpflpeaaaTryW3
namespace Go.Vam
open Go Go.RowKit Go.Proofs
set_option maxRecDepth 100000
set_option linter.unusedSimpArgs false
set_option linter.unusedVariables false

theorem conM (p : Int) (c : List (List (List Int))) (hP : isP p = true) (hc : szC_ok c) :
    VCall Try.prog 52 [dC c, .fn 53 [.ptr [i64 p]]] [.sc (.bool (hasNo p c))] := by
  refine VCall.enter Try.call52 Try.func52 rfl 9 Try.ntmps52 (by simp) [.tmp 4] rfl ?_
  -- region 0
  refine VW.es tau_ok Sound.none [some 4] [0, 1] rfl fun K hK => ?_
  simp
  refine hK _ ?_
  clear hK K
  -- region 1
  refine VW.vs tau_ok (Sound.none.add 7 (idxM p c hP hc) rfl) [some 5, some 6, some 7, some 8, some 4] [(4, .val (.bool (decide (0 ≤ fidx (noTab p) c))))] [] rfl ?_ ?_
  ·
    by_cases hg0 : 0 ≤ fidx (noTab p) c
    ·
      simp [hg0] <;> try omega
    ·
      simp [hg0] <;> try omega
  rw [hasNo_eq]
  refine VW.ret ?_
  simp [Post, PostM, Nx, Bk] <;> try omega

theorem checkMatrices_p (p : Int) (c : List (List (List Int))) (hP : isP p = true) (hc : szC_ok c) :
    VCall Try.prog 38 [i64 p, dC c] [.sc (.int .i64 (ckM p c))] := by
  refine VCall.enter Try.call38 Try.func38 rfl 13 Try.ntmps38 (by simp) [.tmp 4] rfl ?_
  -- region 0
  refine VW.es tau_ok Sound.none [some 2, some 4] [1, 2] rfl fun K hK => ?_
  simp
  refine hK _ ?_
  clear hK K
  refine VW.sq fun K1 hK1 => ?_
  -- region 1
  refine VW.vs tau_ok ((Sound.none.add 6 (IsPrime p) rfl).add 11 (conM p c hP hc) rfl) [some 5, some 6, some 7, some 8, some 9, some 10, some 11, some 12] [(12, .val (.bool (decide (hasNo p c = true))))] [] rfl ?_ ?_
  ·
    simp [hP] <;> try omega
  refine VW.cond rfl (fun hb12 => ?_) (fun hb12 => ?_)
  ·
    replace hb12 := of_decide_eq_true hb12
    have hs : ckM p c = 1 := by rw [any_noTab hP] at hb12; simp only [Bool.not_eq_true'] at hb12; simp [ckM, hb12]
    -- region 2
    refine VW.es tau_ok Sound.none [some 4] [4] rfl fun K hK => ?_
    simp [hb12, hs]
    refine hK _ ?_
    clear hK K
    refine VW.ret ?_
    simp [Post, PostM, Nx, Bk, hb12, hs] <;> try omega
  ·
    replace hb12 := of_decide_eq_false hb12
    have hs : ckM p c = 0 := by rw [any_noTab hP] at hb12; simp only [Bool.not_eq_true', Bool.not_eq_false] at hb12; simp [ckM, hb12, hP]
    refine VW.skip ?_
    refine hK1 _ ?_
    -- region 3
    refine VW.es tau_ok Sound.none [some 4] [4] rfl fun K hK => ?_
    simp [hb12, hs]
    refine hK _ ?_
    clear hK K
    refine VW.ret ?_
    simp [Post, PostM, Nx, Bk, hb12, hs] <;> try omega

theorem checkMatrices_n (p : Int) (c : List (List (List Int))) (hP : isP p = false) (hc : szC_ok c) :
    VCall Try.prog 38 [i64 p, dC c] [.sc (.int .i64 (ckM p c))] := by
  refine VCall.enter Try.call38 Try.func38 rfl 13 Try.ntmps38 (by simp) [.tmp 4] rfl ?_
  -- region 0
  refine VW.es tau_ok Sound.none [some 2, some 4] [1, 2] rfl fun K hK => ?_
  simp
  refine hK _ ?_
  clear hK K
  refine VW.sq fun K1 hK1 => ?_
  -- region 1
  refine VW.vs tau_ok (Sound.none.add 6 (IsPrime p) rfl) [some 5, some 6, some 7, some 8, some 9, some 10, some 11, some 12] [(12, .val (.bool (decide (True))))] [] rfl ?_ ?_
  ·
    simp [hP] <;> try omega
  refine VW.cond rfl (fun hb12 => ?_) (fun hb12 => ?_)
  ·
    replace hb12 := of_decide_eq_true hb12
    have hs : ckM p c = 1 := by simp [ckM, hP]
    -- region 2
    refine VW.es tau_ok Sound.none [some 4] [4] rfl fun K hK => ?_
    simp [hs]
    refine hK _ ?_
    clear hK K
    refine VW.ret ?_
    simp [Post, PostM, Nx, Bk, hs] <;> try omega
  ·
    replace hb12 := of_decide_eq_false hb12
    exact absurd trivial hb12

theorem checkMatrices (p : Int) (c : List (List (List Int))) (hc : szC_ok c) : VCall Try.prog 38 [i64 p, dC c] [.sc (.int .i64 (ckM p c))] := by
  cases h : isP p
  · exact checkMatrices_n p c h hc
  · exact checkMatrices_p p c h hc


theorem checkSquare (p : Int) (m : List (List Int)) (hl : m.length ≤ 1048576) (hr : ∀ r ∈ m, r.length ≤ 1048576) :
    VCall Try.prog 35 [i64 p, dM m] [.sc (.int .i64 (sqM p m))] := by
  refine VCall.enter Try.call35 Try.func35 rfl 20 Try.ntmps35 (by simp) [.tmp 4] rfl ?_
  -- region 0
  refine VW.es tau_ok Sound.none [some 4] [0, 1] rfl fun K hK => ?_
  simp
  refine hK _ ?_
  clear hK K
  refine VW.sq fun K1 hK1 => ?_
  -- region 1
  refine VW.vs tau_ok (Sound.none.add 9 (checkMatrices p [m] ⟨by simp, by simp; exact ⟨hl, hr⟩⟩) rfl) [some 6, some 7, some 8, some 9, some 5] [(5, .val (i64 (ckM p [m])))] [1] rfl ?_ ?_
  ·
    simp <;> try omega
  have hck : ckM p [m] = if isMat p m = true then 0 else 1 := by
    have : (isP p && [m].all (isMat p)) = isMat p m := by
      simp only [List.all_cons, List.all_nil, Bool.and_true]
      by_cases hm : isMat p m = true
      · simp [hm, show isP p = true by simp only [isMat, Bool.and_eq_true] at hm; exact hm.1.1.1.1.1]
      · simp [hm]
    simp only [ckM, this]
  rw [hck]
  -- region 2
  refine VW.vs tau_ok Sound.none [some 10, some 11] [(11, .val (.bool (decide (¬ isMat p m = true))))] [1, 5] rfl ?_ ?_
  ·
    by_cases hg0 : isMat p m = true
    ·
      simp [hg0] <;> try omega
    ·
      simp [hg0] <;> try omega
  refine VW.cond rfl (fun hb11 => ?_) (fun hb11 => ?_)
  ·
    replace hb11 := of_decide_eq_true hb11
    simp only [Bool.not_eq_true] at hb11
    have hs : sqM p m = 1 := by unfold sqM; rw [if_neg (by simp [hb11])]
    -- region 3
    refine VW.es tau_ok Sound.none [some 12, some 4] [4] rfl fun K hK => ?_
    simp [hb11, hs]
    refine hK _ ?_
    clear hK K
    refine VW.ret ?_
    simp [Post, PostM, Nx, Bk, hb11, hs] <;> try omega
  ·
    replace hb11 := of_decide_eq_false hb11
    simp only [Decidable.not_not] at hb11
    obtain ⟨hp3, hp13, hm1, hm16, hr1, hr16, hrow⟩ := isMat_facts hb11
    obtain ⟨r, hr0, er0⟩ := at_ (show 0 < m.length by omega)
    have hm0 : 0 < m.length := by omega
    have er1 := getD0_of hr0
    rw [er1] at hr1 hr16 hrow
    refine VW.skip ?_
    refine hK1 _ ?_
    refine VW.sq fun K2 hK2 => ?_
    -- region 4
    refine VW.vs tau_ok Sound.none [some 13, some 14, some 15, some 16, some 17, some 18, some 19] [(19, .val (.bool (decide (¬ m.length = r.length))))] [] rfl ?_ ?_
    ·
      simp [hm0, hr0, er0] <;> try omega
    refine VW.cond rfl (fun hb19 => ?_) (fun hb19 => ?_)
    ·
      replace hb19 := of_decide_eq_true hb19
      have hs : sqM p m = 2 := by unfold sqM; rw [if_pos hb11, er1, if_neg hb19]
      -- region 5
      refine VW.es tau_ok Sound.none [some 4] [4] rfl fun K hK => ?_
      simp [hm0, hr0, er0, hb19, hs]
      refine hK _ ?_
      clear hK K
      refine VW.ret ?_
      simp [Post, PostM, Nx, Bk, hm0, hr0, er0, hb19, hs] <;> try omega
    ·
      replace hb19 := of_decide_eq_false hb19
      simp only [Decidable.not_not] at hb19
      have hs : sqM p m = 0 := by unfold sqM; rw [if_pos hb11, er1, if_pos hb19]
      refine VW.skip ?_
      refine hK2 _ ?_
      -- region 6
      refine VW.es tau_ok Sound.none [some 4] [4] rfl fun K hK => ?_
      simp [hm0, hr0, er0, hs]
      refine hK _ ?_
      clear hK K
      refine VW.ret ?_
      simp [Post, PostM, Nx, Bk, hm0, hr0, er0, hs] <;> try omega

theorem ftrace (p : Int) (m : List (List Int)) (h : isMat p m = true) (hs : m.length = (m.getD 0 []).length) :
    VCall Try.prog 36 [i64 p, dM m] [.sc (.int .i64 (trs m m.length % p))] := by
  refine VCall.enter Try.call36 Try.func36 rfl 25 Try.ntmps36 (by simp) [.tmp 4] rfl ?_
  -- region 0
  refine VW.es tau_ok Sound.none [some 4] [0, 1] rfl fun K hK => ?_
  simp
  refine hK _ ?_
  clear hK K
  -- region 1
  obtain ⟨hp3, hp13, hm1, hm16, hr1, hr16, hrow⟩ := isMat_facts h
  refine VW.es tau_ok Sound.none [some 5] [0, 1, 5] rfl fun K hK => ?_
  simp
  refine hK _ ?_
  clear hK K
  refine VW.sq fun K1 hK1 => ?_
  -- region 2
  refine VW.es tau_ok Sound.none [some 7, some 8, some 9] [0, 1, 5, 8, 9] rfl fun K hK => ?_
  simp
  refine hK _ ?_
  clear hK K
  refine VW.block ?_
  refine VW.frL [5, 9, 0, 1, 8] fun K hK => ?_
  simp
  refine hK _ ?_
  clear hK K
  show VW _ _ _ (mk [(5, .val (i64 (trs m 0))), (9, .val (i64 0)), _, _, _]) _
  refine VW.loopN (m.length) (fun k => [(5, .val (i64 (trs m k))), (9, .val (i64 k))]) (fun k => True) rfl ?_ ?_
  ·
    trivial
  ·
    intro k hk hF0
    -- region 3
    refine VW.vs tau_ok Sound.none [some 10] [(10, .val (.bool (decide (k < m.length))))] [0, 1, 5, 8, 9] rfl ?_ ?_
    ·
      simp <;> try omega
    refine VW.sq fun K2 hK2 => ?_
    refine VW.cond rfl (fun hb10 => ?_) (fun hb10 => ?_)
    ·
      replace hb10 := of_decide_eq_true hb10
      obtain ⟨r, x, hr, hx, _, hrl, hx0, hx1⟩ := sqM_diag h hs k hb10
      have hsm := trs_small h hs k hk
      have er : m[k] = r := (List.getElem?_eq_some_iff.1 hr).2
      have hkr : k < r.length := by omega
      have ex : r[k] = x := (List.getElem?_eq_some_iff.1 hx).2
      have hst : IntKind.i64.wrap (trs m k + x) = trs m (k + 1) := by rw [wrap_in (by omega) (by omega), trs, diag_at hr hx]
      refine VW.skip ?_
      refine hK2 _ ?_
      refine VW.sq fun K3 hK3 => ?_
      refine VW.block ?_
      -- region 4
      refine VW.es tau_ok Sound.none [some 11, some 6] [0, 1, 5, 6, 8, 9] rfl fun K hK => ?_
      simp [hb10, er, hkr, ex, wrap_in (x := (k : Int) + 1) (by omega) (by omega), hst, hr, hx]
      refine hK _ ?_
      clear hK K
      -- region 5
      refine VW.er tau_ok Sound.none [some 12, some 13, some 14, some 15, some 16, some 17, some 18, some 19, some 20, some 5] [5, 9, 0, 1, 8] rfl fun K hK => ?_
      simp [hb10, er, hkr, ex, wrap_in (x := (k : Int) + 1) (by omega) (by omega), hst, hr, hx]
      refine hK _ ?_
      clear hK K
      refine hK3 _ ?_
      -- region 6
      refine VW.er tau_ok Sound.none [some 21, some 9] [5, 9, 0, 1, 8] rfl fun K hK => ?_
      simp [hb10, er, hkr, ex, wrap_in (x := (k : Int) + 1) (by omega) (by omega), hst, hr, hx]
      refine hK _ ?_
      clear hK K
      refine and3 ?_ ?_ ?_
      ·
        omega
      ·
        trivial
      ·
        simp [hb10, er, hkr, ex, wrap_in (x := (k : Int) + 1) (by omega) (by omega), hst, hr, hx] <;> try omega
    ·
      replace hb10 := of_decide_eq_false hb10
      have hkk : k = m.length := by omega
      subst hkk
      have hsm := trs_small h hs _ (Nat.le_refl _)
      refine VW.exit ?_
      refine hK1 _ ?_
      -- region 7
      refine VW.es tau_ok (Sound.none.add 24 (fnum p (trs m m.length) (by omega) (by omega) (by constructor <;> omega)) rfl) [some 22, some 23, some 24, some 4] [4] rfl fun K hK => ?_
      simp
      refine hK _ ?_
      clear hK K
      refine VW.ret ?_
      simp [Post, PostM, Nx, Bk] <;> try omega

theorem sTraceOf (p : Int) (m : List (List Int)) (hl : m.length ≤ 1048576) (hr : ∀ r ∈ m, r.length ≤ 1048576) :
    VCall Try.prog 14 [i64 p, dM m] [.sc (.int .i64 (trv p m)), .sc (.int .i64 (sqM p m))] := by
  refine VCall.enter Try.call14 Try.func14 rfl 33 Try.ntmps14 (by simp) [.tmp 4, .tmp 5] rfl ?_
  -- region 0
  refine VW.es tau_ok Sound.none [some 4, some 5] [0, 1] rfl fun K hK => ?_
  simp
  refine hK _ ?_
  clear hK K
  -- region 1
  refine VW.es tau_ok (Sound.none.add 11 (l02Square p m hl hr) rfl) [some 9, some 10, some 11, some 6] [0, 1, 6] rfl fun K hK => ?_
  simp
  refine hK _ ?_
  clear hK K
  refine VW.sq fun K1 hK1 => ?_
  -- region 2
  refine VW.vs tau_ok Sound.none [some 12, some 13] [(13, .val (.bool (decide (¬ sqM p m = 0))))] [0, 1, 6] rfl ?_ ?_
  ·
    simp <;> try omega
  refine VW.cond rfl (fun hb13 => ?_) (fun hb13 => ?_)
  ·
    replace hb13 := of_decide_eq_true hb13
    have hs : trv p m = 0 := by simp [trv, hb13]
    -- region 3
    refine VW.es tau_ok Sound.none [some 14, some 4, some 5] [4, 5] rfl fun K hK => ?_
    simp [hb13, hs]
    refine hK _ ?_
    clear hK K
    refine VW.ret ?_
    simp [Post, PostM, Nx, Bk, hb13, hs] <;> try omega
  ·
    replace hb13 := of_decide_eq_false hb13
    simp only [Decidable.not_not] at hb13
    obtain ⟨h, hs⟩ := sqM_zero hb13
    obtain ⟨hp3, hp13, hm1, hm16, hr1, hr16, hrow⟩ := isMat_facts h
    refine VW.skip ?_
    refine hK1 _ ?_
    -- region 4
    refine VW.es tau_ok Sound.none [some 7] [0, 1, 7] rfl fun K hK => ?_
    simp [hb13]
    refine hK _ ?_
    clear hK K
    refine VW.sq fun K2 hK2 => ?_
    -- region 5
    refine VW.es tau_ok Sound.none [some 8] [0, 1, 7, 8] rfl fun K hK => ?_
    simp [hb13]
    refine hK _ ?_
    clear hK K
    refine VW.block ?_
    refine VW.frL [7, 8, 0, 1] fun K hK => ?_
    simp
    refine hK _ ?_
    clear hK K
    have e0 : (0 : Int) = trs m 0 % p := by simp [trs]
    show VW _ _ _ (mk [(7, .val (i64 0)), (8, .val (i64 (0 : Nat))), _, _]) _
    rw [show (i64 0 : D) = i64 (trs m 0 % p) by rw [← e0]]
    refine VW.loopN (m.length) (fun k => [(7, .val (i64 (trs m k % p))), (8, .val (i64 k))]) (fun k => True) rfl ?_ ?_
    ·
      trivial
    ·
      intro k hk hF0
      refine VW.sq fun K3 hK3 => ?_
      -- region 6
      refine VW.vs tau_ok Sound.none [some 15, some 16, some 17, some 18] [(18, .val (.bool (decide (k < m.length))))] [0, 1, 7, 8] rfl ?_ ?_
      ·
        simp [hb13] <;> try omega
      refine VW.cond rfl (fun hb18 => ?_) (fun hb18 => ?_)
      ·
        replace hb18 := of_decide_eq_true hb18
        obtain ⟨r, x, hr, hx, _, hrl, hx0, hx1⟩ := sqM_diag h hs k hb18
        have hsm := mod_fit (a := trs m k) (show 0 < p by omega)
        have er : m[k] = r := (List.getElem?_eq_some_iff.1 hr).2
        have hkr : k < r.length := by omega
        have ex : r[k] = x := (List.getElem?_eq_some_iff.1 hx).2
        have hp0 : p ≠ 0 := by omega
        have hst : (trs m k % p + x).tmod p = trs m (k + 1) % p := by rw [tmod_nn (by omega), trs, diag_at hr hx, Int.emod_add_emod]
        refine VW.skip ?_
        refine hK3 _ ?_
        refine VW.sq fun K4 hK4 => ?_
        refine VW.block ?_
        -- region 8
        refine VW.er tau_ok Sound.none [some 21, some 22, some 23, some 24, some 25, some 26, some 27, some 28, some 29, some 30, some 31, some 7] [7, 8, 0, 1] rfl fun K hK => ?_
        simp [hb13, hb18, er, hkr, ex, hp0, wrap_in (x := (k : Int) + 1) (by omega) (by omega), wrap_in (x := trs m k % p + x) (by omega) (by omega), hst, hr, hx]
        refine hK _ ?_
        clear hK K
        refine hK4 _ ?_
        -- region 7
        refine VW.er tau_ok Sound.none [some 19, some 20, some 8] [7, 8, 0, 1] rfl fun K hK => ?_
        simp [hb13, hb18, er, hkr, ex, hp0, wrap_in (x := (k : Int) + 1) (by omega) (by omega), wrap_in (x := trs m k % p + x) (by omega) (by omega), hst, hr, hx]
        refine hK _ ?_
        clear hK K
        refine and3 ?_ ?_ ?_
        ·
          omega
        ·
          trivial
        ·
          simp [hb13, hb18, er, hkr, ex, hp0, wrap_in (x := (k : Int) + 1) (by omega) (by omega), wrap_in (x := trs m k % p + x) (by omega) (by omega), hst, hr, hx] <;> try omega
      ·
        replace hb18 := of_decide_eq_false hb18
        have hkk : k = m.length := by omega
        subst hkk
        have ht : trv p m = trs m m.length % p := by simp [trv, hb13]
        refine VW.exit ?_
        refine hK2 _ ?_
        -- region 9
        refine VW.es tau_ok Sound.none [some 32, some 4, some 5] [4, 5] rfl fun K hK => ?_
        simp [hb13, ht]
        refine hK _ ?_
        clear hK K
        refine VW.ret ?_
        simp [Post, PostM, Nx, Bk, hb13, ht] <;> try omega

theorem iTraceOf (p : Int) (m : List (List Int)) (hl : m.length ≤ 1048576) (hr : ∀ r ∈ m, r.length ≤ 1048576) :
    VCall Try.prog 15 [i64 p, dM m] [.sc (.int .i64 (trv p m)), .sc (.int .i64 (sqM p m))] := by
  refine VCall.enter Try.call15 Try.func15 rfl 16 Try.ntmps15 (by simp) [.tmp 4, .tmp 5] rfl ?_
  -- region 0
  refine VW.es tau_ok Sound.none [some 4, some 5] [0, 1] rfl fun K hK => ?_
  simp
  refine hK _ ?_
  clear hK K
  refine VW.sq fun K1 hK1 => ?_
  -- region 1
  refine VW.es tau_ok (Sound.none.add 9 (checkSquare p m hl hr) rfl) [some 7, some 8, some 9, some 6] [0, 1, 6] rfl fun K hK => ?_
  simp
  refine hK _ ?_
  clear hK K
  -- region 2
  refine VW.vs tau_ok Sound.none [some 10, some 11] [(11, .val (.bool (decide (¬ sqM p m = 0))))] [0, 1, 6] rfl ?_ ?_
  ·
    simp <;> try omega
  refine VW.cond rfl (fun hb11 => ?_) (fun hb11 => ?_)
  ·
    replace hb11 := of_decide_eq_true hb11
    have hs : trv p m = 0 := by simp [trv, hb11]
    -- region 3
    refine VW.es tau_ok Sound.none [some 12, some 4, some 5] [4, 5] rfl fun K hK => ?_
    simp [hb11, hs]
    refine hK _ ?_
    clear hK K
    refine VW.ret ?_
    simp [Post, PostM, Nx, Bk, hb11, hs] <;> try omega
  ·
    replace hb11 := of_decide_eq_false hb11
    simp only [Decidable.not_not] at hb11
    obtain ⟨h, hs⟩ := sqM_zero hb11
    have ht : trv p m = trs m m.length % p := by simp [trv, hb11]
    refine VW.skip ?_
    refine hK1 _ ?_
    -- region 4
    refine VW.es tau_ok (Sound.none.add 15 (ftrace p m h hs) rfl) [some 13, some 14, some 15, some 4, some 5] [4, 5] rfl fun K hK => ?_
    simp [hb11, ht]
    refine hK _ ?_
    clear hK K
    refine VW.ret ?_
    simp [Post, PostM, Nx, Bk, hb11, ht] <;> try omega
end Go.Vam
