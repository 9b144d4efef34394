import Derived.Test.YtbhhlikpflpeaaaR1T
import Derived.Test.YtbhhlikpflpeaaaFnA
import Derived.Test.YtbhhlikpflpeaaaR1W1
import Derived.Test.YtbhhlikpflpeaaaR1W2
namespace Go.Vam
open Go Go.RowKit Go.Proofs
set_option maxRecDepth 100000
set_option linter.unusedSimpArgs false
set_option linter.unusedVariables false

theorem i_checkSquare_ok {a0 : Int} {a1 : List (List Int)} {r : Int} (h : i_checkSquare a0 a1 = some r) :
    VCall Try.prog 35 [i64 a0, dM a1] [.sc (i64 r)] := by
  unfold i_checkSquare at h
  refine VCall.enter Try.call35 Try.func35 rfl 20 Try.ntmps35 (by simp) [.tmp 4] rfl ?_
  show VW _ _ _ (mk [(0, .val (i64 a0)), (1, .val (dM a1))]) _
  -- region 0
  refine VW.ws tau_ok Sound.none [some 4] [(0, .val (i64 a0)), (1, .val (dM a1))] rfl ?_ ?_
  · simp <;> simp [ieq, ilt, ile]
  refine VW.sqc fun K1 hK1 hCK1 => ?_
  -- region 1
  obtain ⟨v2, hv2, h⟩ := bind_some h
  refine VW.ws tau_ok (Sound.none.add 9 (i_checkMatrices_ok hv2) rfl) [some 6, some 7, some 8, some 9, some 5] [(1, .val (dM a1)), (5, .val (i64 v2))] rfl ?_ ?_
  · simp <;> simp [ieq, ilt, ile]
  -- region 2
  refine VW.ws tau_ok Sound.none [some 10, some 11] [(1, .val (dM a1)), (5, .val (i64 v2)), (11, .val (.bool (!(ieq v2 0))))] rfl ?_ ?_
  · simp <;> simp [ieq, ilt, ile]
  refine VW.cond rfl (fun hb3 => ?_) (fun hb3 => ?_)
  ·
    replace hb3 : ¬ v2 = 0 := by simpa [ieq, ilt, ile] using hb3
    rw [if_pos hb3] at h
    -- region 3
    refine VW.ws tau_ok Sound.none [some 12, some 4] [(4, .val (i64 v2))] rfl ?_ ?_
    · simp <;> simp [ieq, ilt, ile]
    cases h
    refine VW.ret ?_
    simp [Post, PostM, PostC, PostC2, Nx, Bk]
  replace hb3 : ¬ (¬ v2 = 0) := by simpa [ieq, ilt, ile] using hb3
  rw [if_neg hb3] at h
  refine VW.skip ?_
  refine hK1 _ ?_
  refine VW.sqc fun K4 hK4 hCK4 => ?_
  -- region 4
  obtain ⟨v5, hv5, h⟩ := bind_some h
  obtain ⟨hv5a, hv5b, hv5c, hv5d⟩ := idx_some hv5
  replace hv5b : 0 < a1.length := hv5b
  replace hv5c : a1[0]? = some v5 := hv5c
  replace hv5d : ∀ h, a1[0]'h = v5 := hv5d
  refine VW.ws tau_ok Sound.none [some 13, some 14, some 15, some 16, some 17, some 18, some 19] [(19, .val (.bool (!(ieq (a1.length : Int) (v5.length : Int)))))] rfl ?_ ?_
  · simp [hv5a, hv5b, hv5c, hv5d] <;> simp [ieq, ilt, ile]
  refine VW.cond rfl (fun hb6 => ?_) (fun hb6 => ?_)
  ·
    replace hb6 : ¬ (a1.length : Int) = (v5.length : Int) := by simpa [ieq, ilt, ile] using hb6
    rw [if_pos hb6] at h
    -- region 5
    refine VW.ws tau_ok Sound.none [some 4] [(4, .val (i64 2))] rfl ?_ ?_
    · simp <;> simp [ieq, ilt, ile]
    cases h
    refine VW.ret ?_
    simp [Post, PostM, PostC, PostC2, Nx, Bk]
  replace hb6 : ¬ (¬ (a1.length : Int) = (v5.length : Int)) := by simpa [ieq, ilt, ile] using hb6
  rw [if_neg hb6] at h
  refine VW.skip ?_
  refine hK4 _ ?_
  -- region 6
  refine VW.ws tau_ok Sound.none [some 4] [(4, .val (i64 0))] rfl ?_ ?_
  · simp <;> simp [ieq, ilt, ile]
  cases h
  refine VW.ret ?_
  simp [Post, PostM, PostC, PostC2, Nx, Bk]

theorem i_field_num_ok {a0 : Int} {a1 : Int} {r : Int} (h : i_field_num a0 a1 = some r) :
    VCall Try.prog 51 [i64 a0, i64 a1] [.sc (i64 r)] := by
  unfold i_field_num at h
  refine VCall.enter Try.call51 Try.func51 rfl 14 Try.ntmps51 (by simp) [.tmp 4] rfl ?_
  show VW _ _ _ (mk [(0, .val (i64 a0)), (1, .val (i64 a1))]) _
  -- region 0
  refine VW.ws tau_ok Sound.none [some 4] [(0, .val (i64 a0)), (1, .val (i64 a1))] rfl ?_ ?_
  · simp <;> simp [ieq, ilt, ile]
  -- region 1
  refine VW.ws tau_ok Sound.none [some 6, some 5] [(1, .val (i64 a1)), (5, .val (i64 a0))] rfl ?_ ?_
  · simp <;> simp [ieq, ilt, ile]
  -- region 2
  obtain ⟨hc1, h⟩ := chk_some h
  have hc1s := hc1
  try simp at hc1s
  obtain ⟨hc2, h⟩ := chk_some h
  have hc2s := hc2
  try simp at hc2s
  refine VW.ws tau_ok Sound.none [some 7, some 8, some 9, some 10, some 11, some 12, some 13, some 4] [(4, .val (i64 ((w64 ((a1.tmod a0) + a0)).tmod a0)))] rfl ?_ ?_
  · simp [hc1, hc1s, hc2, hc2s] <;> simp [ieq, ilt, ile]
  cases h
  refine VW.ret ?_
  simp [Post, PostM, PostC, PostC2, Nx, Bk]

theorem i_field_trace_ok {a0 : Int} {a1 : List (List Int)} {r : Int} (h : i_field_trace a0 a1 = some r) :
    VCall Try.prog 36 [i64 a0, dM a1] [.sc (i64 r)] := by
  unfold i_field_trace at h
  refine VCall.enter Try.call36 Try.func36 rfl 25 Try.ntmps36 (by simp) [.tmp 4] rfl ?_
  show VW _ _ _ (mk [(0, .val (i64 a0)), (1, .val (dM a1))]) _
  -- region 0
  refine VW.ws tau_ok Sound.none [some 4] [(0, .val (i64 a0)), (1, .val (dM a1))] rfl ?_ ?_
  · simp <;> simp [ieq, ilt, ile]
  -- region 1
  refine VW.ws tau_ok Sound.none [some 5] [(0, .val (i64 a0)), (1, .val (dM a1)), (5, .val (i64 0))] rfl ?_ ?_
  · simp <;> simp [ieq, ilt, ile]
  refine VW.sqc fun K1 hK1 hCK1 => ?_
  -- region 2
  refine VW.ws tau_ok Sound.none [some 7, some 8, some 9] [(0, .val (i64 a0)), (1, .val (dM a1)), (5, .val (i64 0)), (8, .val (i64 (a1.length : Int))), (9, .val (i64 0))] rfl ?_ ?_
  · simp <;> simp [ieq, ilt, ile]
  obtain ⟨x2, hx2, h⟩ := bind_some h
  refine VW.tlE [(0, .val (i64 a0)), (5, .val (i64 x2))] (hCK1) ?_ ?_
  · clear hx2
    refine hK1 _ ?_
    -- region 7
    obtain ⟨v9, hv9, h⟩ := bind_some h
    refine VW.ws tau_ok (Sound.none.add 24 (i_field_num_ok hv9) rfl) [some 22, some 23, some 24, some 4] [(4, .val (i64 v9))] rfl ?_ ?_
    · simp <;> simp [ieq, ilt, ile]
    cases h
    refine VW.ret ?_
    simp [Post, PostM, PostC, PostC2, Nx, Bk]
  refine VW.block ?_
  refine VW.loopF (i_field_trace_L0 a1) (fun s2 => [(0, .val (i64 a0)), (1, .val (dM a1)), (5, .val (i64 s2.1)), (8, .val (i64 (a1.length : Int))), (9, .val (i64 s2.2))]) hx2 (Fits.of rfl) ?_
  clear hx2
  intro s2 ox2 hx2o hx2b
  unfold i_field_trace_L0 at hx2o
  -- region 3
  refine VW.ws tau_ok Sound.none [some 10] [(0, .val (i64 a0)), (1, .val (dM a1)), (5, .val (i64 s2.1)), (8, .val (i64 (a1.length : Int))), (9, .val (i64 s2.2)), (10, .val (.bool (ilt s2.2 (a1.length : Int))))] rfl ?_ ?_
  · simp <;> simp [ieq, ilt, ile]
  refine VW.sqc fun K4 hK4 hCK4 => ?_
  refine VW.cond rfl (fun hb5 => ?_) (fun hb5 => ?_)
  rotate_left
  ·
    replace hb5 : ¬ (s2.2 < (a1.length : Int)) := by simpa [ieq, ilt, ile] using hb5
    rw [if_neg hb5] at hx2o
    refine VW.exit ?_
    cases hx2o
    have hq := hx2b _ rfl
    subst hq
    exact Fits.of rfl
  replace hb5 : s2.2 < (a1.length : Int) := by simpa [ieq, ilt, ile] using hb5
  rw [if_pos hb5] at hx2o
  refine VW.skip ?_
  refine hK4 _ ?_
  refine VW.sqc fun K6 hK6 hCK6 => ?_
  refine VW.block ?_
  -- region 4
  refine VW.ws tau_ok Sound.none [some 11, some 6] [(0, .val (i64 a0)), (1, .val (dM a1)), (5, .val (i64 s2.1)), (6, .val (i64 s2.2)), (8, .val (i64 (a1.length : Int))), (9, .val (i64 s2.2))] rfl ?_ ?_
  · simp <;> simp [ieq, ilt, ile]
  -- region 5
  obtain ⟨v7, hv7, hx2o⟩ := bind_some hx2o
  obtain ⟨hv7a, hv7b, hv7c, hv7d⟩ := idx_some hv7
  obtain ⟨v8, hv8, hx2o⟩ := bind_some hx2o
  obtain ⟨hv8a, hv8b, hv8c, hv8d⟩ := idx_some hv8
  refine VW.wr tau_ok Sound.none [some 12, some 13, some 14, some 15, some 16, some 17, some 18, some 19, some 20, some 5] [(0, .val (i64 a0)), (1, .val (dM a1)), (5, .val (i64 (w64 (s2.1 + v8)))), (8, .val (i64 (a1.length : Int))), (9, .val (i64 s2.2))] rfl ?_ ?_
  · simp [hv7a, hv7b, hv7c, hv7d, hv8a, hv8b, hv8c, hv8d] <;> simp [ieq, ilt, ile]
  refine hK6 _ ?_
  -- region 6
  refine VW.wr tau_ok Sound.none [some 21, some 9] [(0, .val (i64 a0)), (1, .val (dM a1)), (5, .val (i64 (w64 (s2.1 + v8)))), (8, .val (i64 (a1.length : Int))), (9, .val (i64 (w64 (s2.2 + 1))))] rfl ?_ ?_
  · simp <;> simp [ieq, ilt, ile]
  cases hx2o
  exact ⟨_, rfl, Fits.of rfl⟩

theorem i_TraceOf_ok {a0 : Int} {a1 : List (List Int)} {r : Int × Int} (h : i_TraceOf a0 a1 = some r) :
    VCall Try.prog 15 [i64 a0, dM a1] [.sc (i64 r.1), .sc (i64 r.2)] := by
  unfold i_TraceOf at h
  refine VCall.enter Try.call15 Try.func15 rfl 16 Try.ntmps15 (by simp) [.tmp 4, .tmp 5] rfl ?_
  show VW _ _ _ (mk [(0, .val (i64 a0)), (1, .val (dM a1))]) _
  -- region 0
  refine VW.ws tau_ok Sound.none [some 4, some 5] [(0, .val (i64 a0)), (1, .val (dM a1))] rfl ?_ ?_
  · simp <;> simp [ieq, ilt, ile]
  refine VW.sqc fun K1 hK1 hCK1 => ?_
  -- region 1
  obtain ⟨v2, hv2, h⟩ := bind_some h
  refine VW.ws tau_ok (Sound.none.add 9 (i_checkSquare_ok hv2) rfl) [some 7, some 8, some 9, some 6] [(0, .val (i64 a0)), (1, .val (dM a1)), (6, .val (i64 v2))] rfl ?_ ?_
  · simp <;> simp [ieq, ilt, ile]
  -- region 2
  refine VW.ws tau_ok Sound.none [some 10, some 11] [(0, .val (i64 a0)), (1, .val (dM a1)), (6, .val (i64 v2)), (11, .val (.bool (!(ieq v2 0))))] rfl ?_ ?_
  · simp <;> simp [ieq, ilt, ile]
  refine VW.cond rfl (fun hb3 => ?_) (fun hb3 => ?_)
  ·
    replace hb3 : ¬ v2 = 0 := by simpa [ieq, ilt, ile] using hb3
    rw [if_pos hb3] at h
    -- region 3
    refine VW.ws tau_ok Sound.none [some 12, some 4, some 5] [(4, .val (i64 0)), (5, .val (i64 v2))] rfl ?_ ?_
    · simp <;> simp [ieq, ilt, ile]
    cases h
    refine VW.ret ?_
    simp [Post, PostM, PostC, PostC2, Nx, Bk]
  replace hb3 : ¬ (¬ v2 = 0) := by simpa [ieq, ilt, ile] using hb3
  rw [if_neg hb3] at h
  refine VW.skip ?_
  refine hK1 _ ?_
  -- region 4
  obtain ⟨v4, hv4, h⟩ := bind_some h
  refine VW.ws tau_ok (Sound.none.add 15 (i_field_trace_ok hv4) rfl) [some 13, some 14, some 15, some 4, some 5] [(4, .val (i64 v4)), (5, .val (i64 0))] rfl ?_ ?_
  · simp <;> simp [ieq, ilt, ile]
  cases h
  refine VW.ret ?_
  simp [Post, PostM, PostC, PostC2, Nx, Bk]

theorem l_FnExactTraceOf_ok {a0 : Int} {a1 : List (List Int)} {r : Bool} (h : l_FnExactTraceOf a0 a1 = some r) :
    VCall Try.prog 4 [i64 a0, dM a1] [.sc (.bool r)] := by
  unfold l_FnExactTraceOf at h
  refine VCall.enter Try.call4 Try.func4 rfl 44 Try.ntmps4 (by simp) [.tmp 4] rfl ?_
  show VW _ _ _ (mk [(0, .val (i64 a0)), (1, .val (dM a1))]) _
  -- region 0
  refine VW.ws tau_ok Sound.none [some 4] [(0, .val (i64 a0)), (1, .val (dM a1))] rfl ?_ ?_
  · simp <;> simp [ieq, ilt, ile]
  -- region 1
  refine VW.ws tau_ok Sound.none [some 5] [(0, .val (i64 a0)), (1, .val (dM a1)), (5, .val (i64 1048576))] rfl ?_ ?_
  · simp <;> simp [ieq, ilt, ile]
  -- region 2
  obtain ⟨v1, hv1, h⟩ := bind_some h
  refine VW.ws tau_ok (Sound.none.add 13 (l_szInt64SS_ok hv1) rfl) [some 11, some 12, some 13, some 5] [(0, .val (i64 a0)), (1, .val (dM a1)), (5, .val (i64 v1))] rfl ?_ ?_
  · simp <;> simp [ieq, ilt, ile]
  refine VW.sqc fun K2 hK2 hCK2 => ?_
  -- region 3
  refine VW.ws tau_ok Sound.none [some 14, some 15] [(0, .val (i64 a0)), (1, .val (dM a1)), (15, .val (.bool (ilt v1 0)))] rfl ?_ ?_
  · simp <;> simp [ieq, ilt, ile]
  refine VW.cond rfl (fun hb3 => ?_) (fun hb3 => ?_)
  ·
    replace hb3 : v1 < 0 := by simpa [ieq, ilt, ile] using hb3
    rw [if_pos hb3] at h
    -- region 4
    refine VW.ws tau_ok Sound.none [some 4] [(4, .val (.bool true))] rfl ?_ ?_
    · simp <;> simp [ieq, ilt, ile]
    cases h
    refine VW.ret ?_
    simp [Post, PostM, PostC, PostC2, Nx, Bk]
  replace hb3 : ¬ (v1 < 0) := by simpa [ieq, ilt, ile] using hb3
  rw [if_neg hb3] at h
  refine VW.skip ?_
  refine hK2 _ ?_
  -- region 5
  obtain ⟨v4, hv4, h⟩ := bind_some h
  obtain ⟨v5, hv5, h⟩ := bind_some h
  refine VW.ws tau_ok ((Sound.none.add 19 (l_toInt64SS_ok hv4) rfl).add 20 (s_TraceOf_ok hv5) rfl) [some 17, some 18, some 19, some 20, some 16, some 21, some 22, some 6, some 7] [(0, .val (i64 a0)), (1, .val (dM a1)), (6, .val (i64 v5.1)), (7, .val (i64 v5.2))] rfl ?_ ?_
  · simp <;> simp [ieq, ilt, ile]
  -- region 6
  obtain ⟨v6, hv6, h⟩ := bind_some h
  refine VW.ws tau_ok (Sound.none.add 24 (l_toInt64SS_ok hv6) rfl) [some 23, some 24, some 8] [(0, .val (i64 a0)), (1, .val (dM a1)), (6, .val (i64 v5.1)), (7, .val (i64 v5.2)), (8, .ref 8 [] true (dM v6))] rfl ?_ ?_
  · simp <;> simp [ieq, ilt, ile]
  -- region 7
  obtain ⟨v7, hv7, h⟩ := bind_some h
  refine VW.ws tau_ok (Sound.none.add 28 (i_TraceOf_ok hv7) rfl) [some 26, some 27, some 28, some 25, some 29, some 30, some 9, some 10] [(1, .val (dM a1)), (6, .val (i64 v5.1)), (7, .val (i64 v5.2)), (8, .ref 8 [] true (dM v6)), (9, .val (i64 v7.1)), (10, .val (i64 v7.2))] rfl ?_ ?_
  · simp <;> simp [ieq, ilt, ile]
  refine VW.sqc fun K8 hK8 hCK8 => ?_
  -- region 8
  obtain ⟨x10, hx10, h⟩ := bind_some h
  refine VW.cut [(1, .val (dM a1)), (8, .ref 8 [] true (dM v6)), (38, .val (.bool x10))] ?_ fun hy => ?_
  rotate_left
  · clear h
    by_cases hp9 : ¬ v7.1 = v5.1
    · rw [if_pos hp9] at hx10
      have hp9b : ieq v7.1 v5.1 = false := by simpa [ieq, ilt, ile] using hp9
      have hp9s := hp9b
      try simp at hp9s
      cases hx10
      refine VW.ws tau_ok Sound.none [some 31, some 32, some 33, some 34, some 35, some 36, some 37, some 38] _ rfl ?_ hy
      simp [hp9b, hp9s] <;> simp [ieq, ilt, ile]
    · rw [if_neg hp9] at hx10
      have hp9b : ieq v7.1 v5.1 = true := by simpa [ieq, ilt, ile] using hp9
      have hp9s := hp9b
      try simp at hp9s
      cases hx10
      refine VW.ws tau_ok Sound.none [some 31, some 32, some 33, some 34, some 35, some 36, some 37, some 38] _ rfl ?_ hy
      simp [hp9b, hp9s] <;> simp [ieq, ilt, ile]
  refine VW.cond rfl (fun hb11 => ?_) (fun hb11 => ?_)
  ·
    replace hb11 : x10 = true := by simpa [ieq, ilt, ile] using hb11
    rw [if_pos hb11] at h
    -- region 9
    refine VW.ws tau_ok Sound.none [some 4] [(4, .val (.bool false))] rfl ?_ ?_
    · simp <;> simp [ieq, ilt, ile]
    cases h
    refine VW.ret ?_
    simp [Post, PostM, PostC, PostC2, Nx, Bk]
  replace hb11 : ¬ (x10 = true) := by simpa [ieq, ilt, ile] using hb11
  rw [if_neg hb11] at h
  refine VW.skip ?_
  refine hK8 _ ?_
  refine VW.sqc fun K12 hK12 hCK12 => ?_
  -- region 10
  obtain ⟨v13, hv13, h⟩ := bind_some h
  obtain ⟨v14, hv14, h⟩ := bind_some h
  refine VW.ws tau_ok ((Sound.none.add 41 (l_toInt64SS_ok hv13) rfl).add 42 (l_eqInt64SS_ok hv14) rfl) [some 39, some 40, some 41, some 42, some 43] [(43, .val (.bool (!v14)))] rfl ?_ ?_
  · simp <;> simp [ieq, ilt, ile]
  refine VW.cond rfl (fun hb15 => ?_) (fun hb15 => ?_)
  ·
    replace hb15 : v14 = false := by simpa [ieq, ilt, ile] using hb15
    rw [if_pos hb15] at h
    -- region 11
    refine VW.ws tau_ok Sound.none [some 4] [(4, .val (.bool false))] rfl ?_ ?_
    · simp <;> simp [ieq, ilt, ile]
    cases h
    refine VW.ret ?_
    simp [Post, PostM, PostC, PostC2, Nx, Bk]
  replace hb15 : ¬ (v14 = false) := by simpa [ieq, ilt, ile] using hb15
  rw [if_neg hb15] at h
  refine VW.skip ?_
  refine hK12 _ ?_
  -- region 12
  refine VW.ws tau_ok Sound.none [some 4] [(4, .val (.bool true))] rfl ?_ ?_
  · simp <;> simp [ieq, ilt, ile]
  cases h
  refine VW.ret ?_
  simp [Post, PostM, PostC, PostC2, Nx, Bk]

theorem s_l02Turn_ok {a0 : List (List Int)} {r : List (List Int)} (h : s_l02Turn a0 = some r) :
    VCall Try.prog 37 [dM a0] [.own true (dM r)] := by
  unfold s_l02Turn at h
  refine VCall.enter Try.call37 Try.func37 rfl 38 Try.ntmps37 (by simp) [.tmp 2] rfl ?_
  show VW _ _ _ (mk [(0, .val (dM a0))]) _
  -- region 0
  refine VW.ws tau_ok Sound.none [some 2] [(0, .val (dM a0))] rfl ?_ ?_
  · simp <;> simp [ieq, ilt, ile]
  -- region 1
  refine VW.ws tau_ok Sound.none [some 7, some 3] [(0, .val (dM a0)), (3, .ref 3 [] true (dM []))] rfl ?_ ?_
  · simp <;> simp [ieq, ilt, ile]
  refine VW.sqc fun K1 hK1 hCK1 => ?_
  -- region 2
  refine VW.ws tau_ok Sound.none [some 4] [(0, .val (dM a0)), (3, .ref 3 [] true (dM [])), (4, .val (i64 0))] rfl ?_ ?_
  · simp <;> simp [ieq, ilt, ile]
  obtain ⟨x2, hx2, h⟩ := bind_some h
  refine VW.tlE [(3, .ref 3 [] true (dM x2))] (hCK1) ?_ ?_
  · clear hx2
    refine hK1 _ ?_
    -- region 11
    refine VW.ws tau_ok Sound.none [some 37, some 2] [(2, .ref 2 [] true (dM x2))] rfl ?_ ?_
    · simp <;> simp [ieq, ilt, ile]
    cases h
    refine VW.ret ?_
    simp [Post, PostM, PostC, PostC2, Nx, Bk]
  refine VW.block ?_
  refine VW.loopF (s_l02Turn_L0 a0) (fun s2 => [(0, .val (dM a0)), (3, .ref 3 [] true (dM s2.1)), (4, .val (i64 s2.2))]) hx2 (Fits.of rfl) ?_
  clear hx2
  intro s2 ox2 hx2o hx2b
  unfold s_l02Turn_L0 at hx2o
  refine VW.sqc fun K4 hK4 hCK4 => ?_
  -- region 3
  obtain ⟨v5, hv5, hx2o⟩ := bind_some hx2o
  obtain ⟨hv5a, hv5b, hv5c, hv5d⟩ := idx_some hv5
  replace hv5b : 0 < a0.length := hv5b
  replace hv5c : a0[0]? = some v5 := hv5c
  replace hv5d : ∀ h, a0[0]'h = v5 := hv5d
  refine VW.ws tau_ok Sound.none [some 8, some 9, some 10, some 11, some 12, some 13] [(0, .val (dM a0)), (3, .ref 3 [] true (dM s2.1)), (4, .val (i64 s2.2)), (13, .val (.bool (ilt s2.2 (v5.length : Int))))] rfl ?_ ?_
  · simp [hv5a, hv5b, hv5c, hv5d] <;> simp [ieq, ilt, ile]
  refine VW.cond rfl (fun hb6 => ?_) (fun hb6 => ?_)
  rotate_left
  ·
    replace hb6 : ¬ (s2.2 < (v5.length : Int)) := by simpa [ieq, ilt, ile] using hb6
    rw [if_neg hb6] at hx2o
    refine VW.exit ?_
    cases hx2o
    have hq := hx2b _ rfl
    subst hq
    exact Fits.of rfl
  replace hb6 : s2.2 < (v5.length : Int) := by simpa [ieq, ilt, ile] using hb6
  rw [if_pos hb6] at hx2o
  refine VW.skip ?_
  refine hK4 _ ?_
  refine VW.sqc fun K7 hK7 hCK7 => ?_
  refine VW.block ?_
  -- region 5
  refine VW.ws tau_ok Sound.none [some 16, some 5] [(0, .val (dM a0)), (3, .ref 3 [] true (dM s2.1)), (4, .val (i64 s2.2)), (5, .ref 5 [] true (dI []))] rfl ?_ ?_
  · simp <;> simp [ieq, ilt, ile]
  refine VW.sqc fun K8 hK8 hCK8 => ?_
  -- region 6
  refine VW.ws tau_ok Sound.none [some 6] [(0, .val (dM a0)), (3, .ref 3 [] true (dM s2.1)), (4, .val (i64 s2.2)), (5, .ref 5 [] true (dI [])), (6, .val (i64 0))] rfl ?_ ?_
  · simp <;> simp [ieq, ilt, ile]
  obtain ⟨x9, hx9, hx2o⟩ := bind_some hx2o
  refine VW.tlE [(0, .val (dM a0)), (3, .ref 3 [] true (dM s2.1)), (4, .val (i64 s2.2)), (5, .ref 5 [] true (dI x9))] (hCK8) ?_ ?_
  · clear hx9
    refine hK8 _ ?_
    -- region 10
    obtain ⟨hc17, hx2o⟩ := chk_some hx2o
    have hc17s := hc17
    try simp at hc17s
    refine VW.wr tau_ok Sound.none [some 33, some 34, some 35, some 36, some 3] [(0, .val (dM a0)), (3, .ref 3 [] true (dM (s2.1 ++ [x9]))), (4, .val (i64 s2.2))] rfl ?_ ?_
    · simp [hc17, hc17s] <;> simp [ieq, ilt, ile]
    refine hK7 _ ?_
    -- region 4
    refine VW.wr tau_ok Sound.none [some 14, some 15, some 4] [(0, .val (dM a0)), (3, .ref 3 [] true (dM (s2.1 ++ [x9]))), (4, .val (i64 (w64 (s2.2 + 1))))] rfl ?_ ?_
    · simp <;> simp [ieq, ilt, ile]
    cases hx2o
    exact ⟨_, rfl, Fits.of rfl⟩
  refine VW.block ?_
  refine VW.loopF (s_l02Turn_L1 a0 s2) (fun s9 => [(0, .val (dM a0)), (3, .ref 3 [] true (dM s2.1)), (4, .val (i64 s2.2)), (5, .ref 5 [] true (dI s9.1)), (6, .val (i64 s9.2))]) hx9 (Fits.of rfl) ?_
  clear hx9
  intro s9 ox9 hx9o hx9b
  unfold s_l02Turn_L1 at hx9o
  refine VW.sqc fun K11 hK11 hCK11 => ?_
  -- region 7
  refine VW.ws tau_ok Sound.none [some 17, some 18, some 19, some 20] [(0, .val (dM a0)), (3, .ref 3 [] true (dM s2.1)), (4, .val (i64 s2.2)), (5, .ref 5 [] true (dI s9.1)), (6, .val (i64 s9.2)), (20, .val (.bool (ilt s9.2 (a0.length : Int))))] rfl ?_ ?_
  · simp <;> simp [ieq, ilt, ile]
  refine VW.cond rfl (fun hb12 => ?_) (fun hb12 => ?_)
  rotate_left
  ·
    replace hb12 : ¬ (s9.2 < (a0.length : Int)) := by simpa [ieq, ilt, ile] using hb12
    rw [if_neg hb12] at hx9o
    refine VW.exit ?_
    cases hx9o
    have hq := hx9b _ rfl
    subst hq
    exact Fits.of rfl
  replace hb12 : s9.2 < (a0.length : Int) := by simpa [ieq, ilt, ile] using hb12
  rw [if_pos hb12] at hx9o
  refine VW.skip ?_
  refine hK11 _ ?_
  refine VW.sqc fun K13 hK13 hCK13 => ?_
  refine VW.block ?_
  -- region 9
  obtain ⟨v14, hv14, hx9o⟩ := bind_some hx9o
  obtain ⟨hv14a, hv14b, hv14c, hv14d⟩ := idx_some hv14
  obtain ⟨v15, hv15, hx9o⟩ := bind_some hx9o
  obtain ⟨hv15a, hv15b, hv15c, hv15d⟩ := idx_some hv15
  obtain ⟨hc16, hx9o⟩ := chk_some hx9o
  have hc16s := hc16
  try simp at hc16s
  refine VW.wr tau_ok Sound.none [some 23, some 24, some 25, some 26, some 27, some 28, some 29, some 30, some 31, some 32, some 5] [(0, .val (dM a0)), (3, .ref 3 [] true (dM s2.1)), (4, .val (i64 s2.2)), (5, .ref 5 [] true (dI (s9.1 ++ [v15]))), (6, .val (i64 s9.2))] rfl ?_ ?_
  · simp [hv14a, hv14b, hv14c, hv14d, hv15a, hv15b, hv15c, hv15d, hc16, hc16s] <;> simp [ieq, ilt, ile]
  refine hK13 _ ?_
  -- region 8
  refine VW.wr tau_ok Sound.none [some 21, some 22, some 6] [(0, .val (dM a0)), (3, .ref 3 [] true (dM s2.1)), (4, .val (i64 s2.2)), (5, .ref 5 [] true (dI (s9.1 ++ [v15]))), (6, .val (i64 (w64 (s9.2 + 1))))] rfl ?_ ?_
  · simp <;> simp [ieq, ilt, ile]
  cases hx9o
  exact ⟨_, rfl, Fits.of rfl⟩

theorem s_TransposeMatrix_ok {a0 : Int} {a1 : List (List Int)} {r : (List (List Int)) × Int} (h : s_TransposeMatrix a0 a1 = some r) :
    VCall Try.prog 16 [i64 a0, dM a1] [.own true (dM r.1), .sc (i64 r.2)] := by
  unfold s_TransposeMatrix at h
  refine VCall.enter Try.call16 Try.func16 rfl 12 Try.ntmps16 (by simp) [.tmp 4, .tmp 5] rfl ?_
  show VW _ _ _ (mk [(0, .val (i64 a0)), (1, .val (dM a1))]) _
  -- region 0
  refine VW.ws tau_ok Sound.none [some 4, some 5] [(0, .val (i64 a0)), (1, .val (dM a1))] rfl ?_ ?_
  · simp <;> simp [ieq, ilt, ile]
  refine VW.sqc fun K1 hK1 hCK1 => ?_
  -- region 1
  obtain ⟨v2, hv2, h⟩ := bind_some h
  refine VW.ws tau_ok (Sound.none.add 8 (s_l02Is_ok hv2) rfl) [some 6, some 7, some 8, some 9] [(1, .val (dM a1)), (9, .val (.bool (!v2)))] rfl ?_ ?_
  · simp <;> simp [ieq, ilt, ile]
  refine VW.cond rfl (fun hb3 => ?_) (fun hb3 => ?_)
  ·
    replace hb3 : v2 = false := by simpa [ieq, ilt, ile] using hb3
    rw [if_pos hb3] at h
    -- region 2
    refine VW.ws tau_ok Sound.none [some 4, some 5] [(4, .ref 4 [] true (.list [])), (5, .val (i64 1))] rfl ?_ ?_
    · simp <;> simp [ieq, ilt, ile]
    cases h
    refine VW.ret ?_
    simp [Post, PostM, PostC, PostC2, Nx, Bk]
  replace hb3 : ¬ (v2 = false) := by simpa [ieq, ilt, ile] using hb3
  rw [if_neg hb3] at h
  refine VW.skip ?_
  refine hK1 _ ?_
  -- region 3
  obtain ⟨v4, hv4, h⟩ := bind_some h
  refine VW.ws tau_ok (Sound.none.add 11 (s_l02Turn_ok hv4) rfl) [some 10, some 11, some 4, some 5] [(4, .ref 4 [] true (dM v4)), (5, .val (i64 0))] rfl ?_ ?_
  · simp <;> simp [ieq, ilt, ile]
  cases h
  refine VW.ret ?_
  simp [Post, PostM, PostC, PostC2, Nx, Bk]

theorem i_transpose_ok {a0 : List (List Int)} {r : List (List Int)} (h : i_transpose a0 = some r) :
    VCall Try.prog 39 [dM a0] [.own true (dM r)] := by
  unfold i_transpose at h
  refine VCall.enter Try.call39 Try.func39 rfl 38 Try.ntmps39 (by simp) [.tmp 2] rfl ?_
  show VW _ _ _ (mk [(0, .val (dM a0))]) _
  -- region 0
  refine VW.ws tau_ok Sound.none [some 2] [(0, .val (dM a0))] rfl ?_ ?_
  · simp <;> simp [ieq, ilt, ile]
  -- region 1
  refine VW.ws tau_ok Sound.none [some 7, some 3] [(0, .val (dM a0)), (3, .ref 3 [] true (dM []))] rfl ?_ ?_
  · simp <;> simp [ieq, ilt, ile]
  refine VW.sqc fun K1 hK1 hCK1 => ?_
  -- region 2
  obtain ⟨v2, hv2, h⟩ := bind_some h
  obtain ⟨hv2a, hv2b, hv2c, hv2d⟩ := idx_some hv2
  replace hv2b : 0 < a0.length := hv2b
  replace hv2c : a0[0]? = some v2 := hv2c
  replace hv2d : ∀ h, a0[0]'h = v2 := hv2d
  refine VW.ws tau_ok Sound.none [some 8, some 9, some 10, some 11, some 12] [(0, .val (dM a0)), (3, .ref 3 [] true (dM [])), (11, .val (i64 (v2.length : Int))), (12, .val (i64 0))] rfl ?_ ?_
  · simp [hv2a, hv2b, hv2c, hv2d] <;> simp [ieq, ilt, ile]
  obtain ⟨x3, hx3, h⟩ := bind_some h
  refine VW.tlE [(3, .ref 3 [] true (dM x3))] (hCK1) ?_ ?_
  · clear hx3
    refine hK1 _ ?_
    -- region 13
    refine VW.ws tau_ok Sound.none [some 37, some 2] [(2, .ref 2 [] true (dM x3))] rfl ?_ ?_
    · simp <;> simp [ieq, ilt, ile]
    cases h
    refine VW.ret ?_
    simp [Post, PostM, PostC, PostC2, Nx, Bk]
  refine VW.block ?_
  refine VW.loopF (i_transpose_L0 a0 v2) (fun s3 => [(0, .val (dM a0)), (3, .ref 3 [] true (dM s3.1)), (11, .val (i64 (v2.length : Int))), (12, .val (i64 s3.2))]) hx3 (Fits.of rfl) ?_
  clear hx3
  intro s3 ox3 hx3o hx3b
  unfold i_transpose_L0 at hx3o
  -- region 3
  refine VW.ws tau_ok Sound.none [some 13] [(0, .val (dM a0)), (3, .ref 3 [] true (dM s3.1)), (11, .val (i64 (v2.length : Int))), (12, .val (i64 s3.2)), (13, .val (.bool (ilt s3.2 (v2.length : Int))))] rfl ?_ ?_
  · simp <;> simp [ieq, ilt, ile]
  refine VW.sqc fun K5 hK5 hCK5 => ?_
  refine VW.cond rfl (fun hb6 => ?_) (fun hb6 => ?_)
  rotate_left
  ·
    replace hb6 : ¬ (s3.2 < (v2.length : Int)) := by simpa [ieq, ilt, ile] using hb6
    rw [if_neg hb6] at hx3o
    refine VW.exit ?_
    cases hx3o
    have hq := hx3b _ rfl
    subst hq
    exact Fits.of rfl
  replace hb6 : s3.2 < (v2.length : Int) := by simpa [ieq, ilt, ile] using hb6
  rw [if_pos hb6] at hx3o
  refine VW.skip ?_
  refine hK5 _ ?_
  refine VW.sqc fun K7 hK7 hCK7 => ?_
  refine VW.block ?_
  -- region 4
  refine VW.ws tau_ok Sound.none [some 14, some 4] [(0, .val (dM a0)), (3, .ref 3 [] true (dM s3.1)), (4, .val (i64 s3.2)), (11, .val (i64 (v2.length : Int))), (12, .val (i64 s3.2))] rfl ?_ ?_
  · simp <;> simp [ieq, ilt, ile]
  -- region 5
  refine VW.ws tau_ok Sound.none [some 15, some 5] [(0, .val (dM a0)), (3, .ref 3 [] true (dM s3.1)), (4, .val (i64 s3.2)), (5, .ref 5 [] true (dI [])), (11, .val (i64 (v2.length : Int))), (12, .val (i64 s3.2))] rfl ?_ ?_
  · simp <;> simp [ieq, ilt, ile]
  refine VW.sqc fun K8 hK8 hCK8 => ?_
  -- region 6
  refine VW.ws tau_ok Sound.none [some 16, some 17, some 18] [(0, .val (dM a0)), (3, .ref 3 [] true (dM s3.1)), (4, .val (i64 s3.2)), (5, .ref 5 [] true (dI [])), (11, .val (i64 (v2.length : Int))), (12, .val (i64 s3.2)), (17, .val (i64 (a0.length : Int))), (18, .val (i64 0))] rfl ?_ ?_
  · simp <;> simp [ieq, ilt, ile]
  obtain ⟨x9, hx9, hx3o⟩ := bind_some hx3o
  refine VW.tlE [(0, .val (dM a0)), (3, .ref 3 [] true (dM s3.1)), (5, .ref 5 [] true (dI x9)), (11, .val (i64 (v2.length : Int))), (12, .val (i64 s3.2))] (hCK8) ?_ ?_
  · clear hx9
    refine hK8 _ ?_
    -- region 11
    obtain ⟨hc17, hx3o⟩ := chk_some hx3o
    have hc17s := hc17
    try simp at hc17s
    refine VW.wr tau_ok Sound.none [some 32, some 33, some 34, some 35, some 3] [(0, .val (dM a0)), (3, .ref 3 [] true (dM (s3.1 ++ [x9]))), (11, .val (i64 (v2.length : Int))), (12, .val (i64 s3.2))] rfl ?_ ?_
    · simp [hc17, hc17s] <;> simp [ieq, ilt, ile]
    refine hK7 _ ?_
    -- region 12
    refine VW.wr tau_ok Sound.none [some 36, some 12] [(0, .val (dM a0)), (3, .ref 3 [] true (dM (s3.1 ++ [x9]))), (11, .val (i64 (v2.length : Int))), (12, .val (i64 (w64 (s3.2 + 1))))] rfl ?_ ?_
    · simp <;> simp [ieq, ilt, ile]
    cases hx3o
    exact ⟨_, rfl, Fits.of rfl⟩
  refine VW.block ?_
  refine VW.loopF (i_transpose_L1 a0 s3) (fun s9 => [(0, .val (dM a0)), (3, .ref 3 [] true (dM s3.1)), (4, .val (i64 s3.2)), (5, .ref 5 [] true (dI s9.1)), (11, .val (i64 (v2.length : Int))), (12, .val (i64 s3.2)), (17, .val (i64 (a0.length : Int))), (18, .val (i64 s9.2))]) hx9 (Fits.of rfl) ?_
  clear hx9
  intro s9 ox9 hx9o hx9b
  unfold i_transpose_L1 at hx9o
  -- region 7
  refine VW.ws tau_ok Sound.none [some 19] [(0, .val (dM a0)), (3, .ref 3 [] true (dM s3.1)), (4, .val (i64 s3.2)), (5, .ref 5 [] true (dI s9.1)), (11, .val (i64 (v2.length : Int))), (12, .val (i64 s3.2)), (17, .val (i64 (a0.length : Int))), (18, .val (i64 s9.2)), (19, .val (.bool (ilt s9.2 (a0.length : Int))))] rfl ?_ ?_
  · simp <;> simp [ieq, ilt, ile]
  refine VW.sqc fun K11 hK11 hCK11 => ?_
  refine VW.cond rfl (fun hb12 => ?_) (fun hb12 => ?_)
  rotate_left
  ·
    replace hb12 : ¬ (s9.2 < (a0.length : Int)) := by simpa [ieq, ilt, ile] using hb12
    rw [if_neg hb12] at hx9o
    refine VW.exit ?_
    cases hx9o
    have hq := hx9b _ rfl
    subst hq
    exact Fits.of rfl
  replace hb12 : s9.2 < (a0.length : Int) := by simpa [ieq, ilt, ile] using hb12
  rw [if_pos hb12] at hx9o
  refine VW.skip ?_
  refine hK11 _ ?_
  refine VW.sqc fun K13 hK13 hCK13 => ?_
  refine VW.block ?_
  -- region 8
  refine VW.ws tau_ok Sound.none [some 20, some 6] [(0, .val (dM a0)), (3, .ref 3 [] true (dM s3.1)), (4, .val (i64 s3.2)), (5, .ref 5 [] true (dI s9.1)), (6, .val (i64 s9.2)), (11, .val (i64 (v2.length : Int))), (12, .val (i64 s3.2)), (17, .val (i64 (a0.length : Int))), (18, .val (i64 s9.2))] rfl ?_ ?_
  · simp <;> simp [ieq, ilt, ile]
  -- region 9
  obtain ⟨v14, hv14, hx9o⟩ := bind_some hx9o
  obtain ⟨hv14a, hv14b, hv14c, hv14d⟩ := idx_some hv14
  obtain ⟨v15, hv15, hx9o⟩ := bind_some hx9o
  obtain ⟨hv15a, hv15b, hv15c, hv15d⟩ := idx_some hv15
  obtain ⟨hc16, hx9o⟩ := chk_some hx9o
  have hc16s := hc16
  try simp at hc16s
  refine VW.wr tau_ok Sound.none [some 21, some 22, some 23, some 24, some 25, some 26, some 27, some 28, some 29, some 30, some 5] [(0, .val (dM a0)), (3, .ref 3 [] true (dM s3.1)), (4, .val (i64 s3.2)), (5, .ref 5 [] true (dI (s9.1 ++ [v15]))), (11, .val (i64 (v2.length : Int))), (12, .val (i64 s3.2)), (17, .val (i64 (a0.length : Int))), (18, .val (i64 s9.2))] rfl ?_ ?_
  · simp [hv14a, hv14b, hv14c, hv14d, hv15a, hv15b, hv15c, hv15d, hc16, hc16s] <;> simp [ieq, ilt, ile]
  refine hK13 _ ?_
  -- region 10
  refine VW.wr tau_ok Sound.none [some 31, some 18] [(0, .val (dM a0)), (3, .ref 3 [] true (dM s3.1)), (4, .val (i64 s3.2)), (5, .ref 5 [] true (dI (s9.1 ++ [v15]))), (11, .val (i64 (v2.length : Int))), (12, .val (i64 s3.2)), (17, .val (i64 (a0.length : Int))), (18, .val (i64 (w64 (s9.2 + 1))))] rfl ?_ ?_
  · simp <;> simp [ieq, ilt, ile]
  cases hx9o
  exact ⟨_, rfl, Fits.of rfl⟩

theorem i_TransposeMatrix_ok {a0 : Int} {a1 : List (List Int)} {r : (List (List Int)) × Int} (h : i_TransposeMatrix a0 a1 = some r) :
    VCall Try.prog 17 [i64 a0, dM a1] [.own true (dM r.1), .sc (i64 r.2)] := by
  unfold i_TransposeMatrix at h
  refine VCall.enter Try.call17 Try.func17 rfl 16 Try.ntmps17 (by simp) [.tmp 4, .tmp 5] rfl ?_
  show VW _ _ _ (mk [(0, .val (i64 a0)), (1, .val (dM a1))]) _
  -- region 0
  refine VW.ws tau_ok Sound.none [some 4, some 5] [(0, .val (i64 a0)), (1, .val (dM a1))] rfl ?_ ?_
  · simp <;> simp [ieq, ilt, ile]
  refine VW.sqc fun K1 hK1 hCK1 => ?_
  -- region 1
  obtain ⟨v2, hv2, h⟩ := bind_some h
  refine VW.ws tau_ok (Sound.none.add 10 (i_checkMatrices_ok hv2) rfl) [some 7, some 8, some 9, some 10, some 6] [(1, .val (dM a1)), (6, .val (i64 v2))] rfl ?_ ?_
  · simp <;> simp [ieq, ilt, ile]
  -- region 2
  refine VW.ws tau_ok Sound.none [some 11, some 12] [(1, .val (dM a1)), (6, .val (i64 v2)), (12, .val (.bool (!(ieq v2 0))))] rfl ?_ ?_
  · simp <;> simp [ieq, ilt, ile]
  refine VW.cond rfl (fun hb3 => ?_) (fun hb3 => ?_)
  ·
    replace hb3 : ¬ v2 = 0 := by simpa [ieq, ilt, ile] using hb3
    rw [if_pos hb3] at h
    -- region 3
    refine VW.ws tau_ok Sound.none [some 13, some 4, some 5] [(4, .ref 4 [] true (.list [])), (5, .val (i64 v2))] rfl ?_ ?_
    · simp <;> simp [ieq, ilt, ile]
    cases h
    refine VW.ret ?_
    simp [Post, PostM, PostC, PostC2, Nx, Bk]
  replace hb3 : ¬ (¬ v2 = 0) := by simpa [ieq, ilt, ile] using hb3
  rw [if_neg hb3] at h
  refine VW.skip ?_
  refine hK1 _ ?_
  -- region 4
  obtain ⟨v4, hv4, h⟩ := bind_some h
  refine VW.ws tau_ok (Sound.none.add 15 (i_transpose_ok hv4) rfl) [some 14, some 15, some 4, some 5] [(4, .ref 4 [] true (dM v4)), (5, .val (i64 0))] rfl ?_ ?_
  · simp <;> simp [ieq, ilt, ile]
  cases h
  refine VW.ret ?_
  simp [Post, PostM, PostC, PostC2, Nx, Bk]

theorem l_markInt64S_ok {a0 : List Int} {a1 : Int} {r : Int × (List Int)} (h : l_markInt64S a0 a1 = some r) :
    VMut Try.prog 24 (dI a0) [i64 a1] (i64 r.1) (dI r.2) := by
  unfold l_markInt64S at h
  refine VMut.enter Try.call24 Try.func24 rfl 19 Try.ntmps24 (by simp) [.tmp 4] rfl ?_
  show VW _ _ _ (mk [(0, .ref 0 [] true (dI a0)), (1, .val (i64 a1))]) _
  -- region 0
  refine VW.ws tau_ok Sound.none [some 4] [(0, .ref 0 [] true (dI a0)), (1, .val (i64 a1))] rfl ?_ ?_
  · simp <;> simp [ieq, ilt, ile]
  refine VW.sqc fun K1 hK1 hCK1 => ?_
  -- region 1
  refine VW.ws tau_ok Sound.none [some 5] [(0, .ref 0 [] true (dI a0)), (1, .val (i64 a1)), (5, .val (i64 0))] rfl ?_ ?_
  · simp <;> simp [ieq, ilt, ile]
  obtain ⟨x2, hx2, h⟩ := bind_some h
  refine VW.tlE [(0, .ref 0 [] true (dI x2.1)), (1, .val (i64 x2.2))] (hCK1) ?_ ?_
  · clear hx2
    refine hK1 _ ?_
    -- region 6
    refine VW.ws tau_ok Sound.none [some 18, some 4] [(0, .ref 0 [] true (dI x2.1)), (4, .val (i64 x2.2))] rfl ?_ ?_
    · simp <;> simp [ieq, ilt, ile]
    cases h
    refine VW.ret ?_
    simp [Post, PostM, PostC, PostC2, Nx, Bk]
  refine VW.block ?_
  refine VW.loopF l_markInt64S_L0 (fun s2 => [(0, .ref 0 [] true (dI s2.1)), (1, .val (i64 s2.2.1)), (5, .val (i64 s2.2.2))]) hx2 (Fits.of rfl) ?_
  clear hx2
  intro s2 ox2 hx2o hx2b
  unfold l_markInt64S_L0 at hx2o
  refine VW.sqc fun K4 hK4 hCK4 => ?_
  -- region 2
  refine VW.ws tau_ok Sound.none [some 6, some 7, some 8, some 9] [(0, .ref 0 [] true (dI s2.1)), (1, .val (i64 s2.2.1)), (5, .val (i64 s2.2.2)), (9, .val (.bool (ilt s2.2.2 (s2.1.length : Int))))] rfl ?_ ?_
  · simp <;> simp [ieq, ilt, ile]
  refine VW.cond rfl (fun hb5 => ?_) (fun hb5 => ?_)
  rotate_left
  ·
    replace hb5 : ¬ (s2.2.2 < (s2.1.length : Int)) := by simpa [ieq, ilt, ile] using hb5
    rw [if_neg hb5] at hx2o
    refine VW.exit ?_
    cases hx2o
    have hq := hx2b _ rfl
    subst hq
    exact Fits.of rfl
  replace hb5 : s2.2.2 < (s2.1.length : Int) := by simpa [ieq, ilt, ile] using hb5
  rw [if_pos hb5] at hx2o
  refine VW.skip ?_
  refine hK4 _ ?_
  refine VW.sqc fun K6 hK6 hCK6 => ?_
  refine VW.block ?_
  -- region 4
  obtain ⟨v7, hv7, hx2o⟩ := bind_some hx2o
  obtain ⟨hv7a, hv7b, hv7c, hv7d⟩ := idx_some hv7
  refine VW.ws tau_ok Sound.none [some 12, some 13, some 14, some 15, none] [(0, .ref 0 [] true (dI (s2.1.set s2.2.2.toNat s2.2.1))), (1, .val (i64 s2.2.1)), (5, .val (i64 s2.2.2))] rfl ?_ ?_
  · simp [hv7a, hv7b, hv7c, hv7d] <;> simp [ieq, ilt, ile]
  -- region 5
  refine VW.wr tau_ok Sound.none [some 16, some 17, some 1] [(0, .ref 0 [] true (dI (s2.1.set s2.2.2.toNat s2.2.1))), (1, .val (i64 (w64 (s2.2.1 + 1)))), (5, .val (i64 s2.2.2))] rfl ?_ ?_
  · simp <;> simp [ieq, ilt, ile]
  refine hK6 _ ?_
  -- region 3
  refine VW.wr tau_ok Sound.none [some 10, some 11, some 5] [(0, .ref 0 [] true (dI (s2.1.set s2.2.2.toNat s2.2.1))), (1, .val (i64 (w64 (s2.2.1 + 1)))), (5, .val (i64 (w64 (s2.2.2 + 1))))] rfl ?_ ?_
  · simp <;> simp [ieq, ilt, ile]
  cases hx2o
  exact ⟨_, rfl, Fits.of rfl⟩

theorem l_markInt64SS_ok {a0 : List (List Int)} {a1 : Int} {r : Int × (List (List Int))} (h : l_markInt64SS a0 a1 = some r) :
    VMut Try.prog 18 (dM a0) [i64 a1] (i64 r.1) (dM r.2) := by
  unfold l_markInt64SS at h
  refine VMut.enter Try.call18 Try.func18 rfl 19 Try.ntmps18 (by simp) [.tmp 4] rfl ?_
  show VW _ _ _ (mk [(0, .ref 0 [] true (dM a0)), (1, .val (i64 a1))]) _
  -- region 0
  refine VW.ws tau_ok Sound.none [some 4] [(0, .ref 0 [] true (dM a0)), (1, .val (i64 a1))] rfl ?_ ?_
  · simp <;> simp [ieq, ilt, ile]
  refine VW.sqc fun K1 hK1 hCK1 => ?_
  -- region 1
  refine VW.ws tau_ok Sound.none [some 5] [(0, .ref 0 [] true (dM a0)), (1, .val (i64 a1)), (5, .val (i64 0))] rfl ?_ ?_
  · simp <;> simp [ieq, ilt, ile]
  obtain ⟨x2, hx2, h⟩ := bind_some h
  refine VW.tlE [(0, .ref 0 [] true (dM x2.1)), (1, .val (i64 x2.2))] (hCK1) ?_ ?_
  · clear hx2
    refine hK1 _ ?_
    -- region 5
    refine VW.ws tau_ok Sound.none [some 18, some 4] [(0, .ref 0 [] true (dM x2.1)), (4, .val (i64 x2.2))] rfl ?_ ?_
    · simp <;> simp [ieq, ilt, ile]
    cases h
    refine VW.ret ?_
    simp [Post, PostM, PostC, PostC2, Nx, Bk]
  refine VW.block ?_
  refine VW.loopF l_markInt64SS_L0 (fun s2 => [(0, .ref 0 [] true (dM s2.1)), (1, .val (i64 s2.2.1)), (5, .val (i64 s2.2.2))]) hx2 (Fits.of rfl) ?_
  clear hx2
  intro s2 ox2 hx2o hx2b
  unfold l_markInt64SS_L0 at hx2o
  refine VW.sqc fun K4 hK4 hCK4 => ?_
  -- region 2
  refine VW.ws tau_ok Sound.none [some 6, some 7, some 8, some 9] [(0, .ref 0 [] true (dM s2.1)), (1, .val (i64 s2.2.1)), (5, .val (i64 s2.2.2)), (9, .val (.bool (ilt s2.2.2 (s2.1.length : Int))))] rfl ?_ ?_
  · simp <;> simp [ieq, ilt, ile]
  refine VW.cond rfl (fun hb5 => ?_) (fun hb5 => ?_)
  rotate_left
  ·
    replace hb5 : ¬ (s2.2.2 < (s2.1.length : Int)) := by simpa [ieq, ilt, ile] using hb5
    rw [if_neg hb5] at hx2o
    refine VW.exit ?_
    cases hx2o
    have hq := hx2b _ rfl
    subst hq
    exact Fits.of rfl
  replace hb5 : s2.2.2 < (s2.1.length : Int) := by simpa [ieq, ilt, ile] using hb5
  rw [if_pos hb5] at hx2o
  refine VW.skip ?_
  refine hK4 _ ?_
  refine VW.sqc fun K6 hK6 hCK6 => ?_
  refine VW.block ?_
  -- region 4
  obtain ⟨v7, hv7, hx2o⟩ := bind_some hx2o
  obtain ⟨hv7a, hv7b, hv7c, hv7d⟩ := idx_some hv7
  obtain ⟨v8, hv8, hx2o⟩ := bind_some hx2o
  refine VW.wr tau_ok (Sound.none.mutc 17 (l_markInt64S_ok hv8)) [some 12, some 13, some 14, some 15, some 16, some 17, some 1] [(0, .ref 0 [] true (dM (s2.1.set s2.2.2.toNat v8.2))), (1, .val (i64 v8.1)), (5, .val (i64 s2.2.2))] rfl ?_ ?_
  · simp [hv7a, hv7b, hv7c, hv7d] <;> simp [ieq, ilt, ile]
  refine hK6 _ ?_
  -- region 3
  refine VW.wr tau_ok Sound.none [some 10, some 11, some 5] [(0, .ref 0 [] true (dM (s2.1.set s2.2.2.toNat v8.2))), (1, .val (i64 v8.1)), (5, .val (i64 (w64 (s2.2.2 + 1))))] rfl ?_ ?_
  · simp <;> simp [ieq, ilt, ile]
  cases hx2o
  exact ⟨_, rfl, Fits.of rfl⟩
end Go.Vam
