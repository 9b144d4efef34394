import Derived.Test.YtbbkiinopmnapaaR3T
import Derived.Test.YtbbkiinopmnapaaFnD
import Derived.Test.YtbbkiinopmnapaaR3W2
import Derived.Test.YtbbkiinopmnapaaR3W3
import Derived.Test.YtbbkiinopmnapaaR3W4
import Derived.Test.YtbbkiinopmnapaaR3W5
import Derived.Test.YtbbkiinopmnapaaR3W8
import Derived.Test.YtbbkiinopmnapaaR3W9
import Derived.Test.YtbbkiinopmnapaaR3W10
namespace Go.Vam
open Go Go.RowKit Go.Proofs
set_option maxRecDepth 100000
set_option linter.unusedSimpArgs false
set_option linter.unusedVariables false

theorem s_l03Disc_ok {a0_0 : Int} {a0_1 : List Int} {r : Int} (h : s_l03Disc a0_0 a0_1 = some r) :
    VCall Try.prog 129 [.agg [i64 a0_0, dI a0_1]] [.sc (i64 r)] := by
  unfold s_l03Disc at h
  refine VCall.enter Try.call129 Try.func129 rfl 23 Try.ntmps129 (by simp) [.tmp 2] rfl ?_
  show VW _ _ _ (mk [(0, .val (.agg [i64 a0_0, dI a0_1]))]) _
  -- region 0
  refine VW.ws tau_ok Sound.none [some 1, some 2] [(1, .val (.ptr [i64 a0_0, dI a0_1]))] rfl ?_ ?_
  · simp <;> simp [ieq, ilt, ile]
  -- region 1
  refine VW.ws tau_ok Sound.none [some 3] [(1, .val (.ptr [i64 a0_0, dI a0_1])), (3, .val (i64 1))] rfl ?_ ?_
  · simp <;> simp [ieq, ilt, ile]
  refine VW.sqc fun K1 hK1 hCK1 => ?_
  -- region 2
  refine VW.ws tau_ok Sound.none [some 4] [(1, .val (.ptr [i64 a0_0, dI a0_1])), (3, .val (i64 1)), (4, .val (i64 0))] rfl ?_ ?_
  · simp <;> simp [ieq, ilt, ile]
  obtain ⟨x2, hx2, h⟩ := bind_some h
  refine VW.tlE [(3, .val (i64 x2))] (hCK1) ?_ ?_
  · clear hx2
    refine hK1 _ ?_
    -- region 6
    refine VW.ws tau_ok Sound.none [some 22, some 2] [(2, .val (i64 x2))] rfl ?_ ?_
    · simp <;> simp [ieq, ilt, ile]
    cases h
    refine VW.ret ?_
    simp [Post, PostM, PostC, PostC2, Nx, Bk]
  refine VW.block ?_
  refine VW.loopF (s_l03Disc_L0 a0_0 a0_1) (fun s2 => [(1, .val (.ptr [i64 a0_0, dI a0_1])), (3, .val (i64 s2.1)), (4, .val (i64 s2.2))]) hx2 (Fits.of rfl) ?_
  clear hx2
  intro s2 ox2 hx2o hx2b
  unfold s_l03Disc_L0 at hx2o
  refine VW.sqc fun K4 hK4 hCK4 => ?_
  -- region 3
  refine VW.ws tau_ok Sound.none [some 5, some 6, some 7, some 8, some 9] [(1, .val (.ptr [i64 a0_0, dI a0_1])), (3, .val (i64 s2.1)), (4, .val (i64 s2.2)), (9, .val (.bool (ilt s2.2 (a0_1.length : Int))))] rfl ?_ ?_
  · simp <;> simp [ieq, ilt, ile]
  refine VW.cond rfl (fun hb5 => ?_) (fun hb5 => ?_)
  rotate_left
  ·
    replace hb5 : ¬ (s2.2 < (a0_1.length : Int)) := by simpa [ieq, ilt, ile] using hb5
    rw [if_neg hb5] at hx2o
    refine VW.exit ?_
    cases hx2o
    have hq := hx2b _ rfl
    subst hq
    exact Fits.of rfl
  replace hb5 : s2.2 < (a0_1.length : Int) := by simpa [ieq, ilt, ile] using hb5
  rw [if_pos hb5] at hx2o
  refine VW.skip ?_
  refine hK4 _ ?_
  refine VW.sqc fun K6 hK6 hCK6 => ?_
  refine VW.block ?_
  -- region 5
  obtain ⟨v7, hv7, hx2o⟩ := bind_some hx2o
  obtain ⟨hv7a, hv7b, hv7c, hv7d⟩ := idx_some hv7
  obtain ⟨hc8, hx2o⟩ := chk_some hx2o
  have hc8s := hc8
  try simp at hc8s
  refine VW.wdr tau_ok Sound.none try_mixed [some 12, some 13, some 14, some 15, some 16, some 17, some 18, some 19, some 20, some 21, some 3] [(1, .val (.ptr [i64 a0_0, dI a0_1])), (3, .val (i64 ((w64 (s2.1 * v7)).tmod a0_0))), (4, .val (i64 s2.2))] 11 rfl (by kernel_rfl) (by rfl) ?_ ?_
  · simp [hv7a, hv7b, hv7c, hv7d, hc8, hc8s] <;> simp [ieq, ilt, ile]
  refine hK6 _ ?_
  -- region 4
  refine VW.wr tau_ok Sound.none [some 10, some 11, some 4] [(1, .val (.ptr [i64 a0_0, dI a0_1])), (3, .val (i64 ((w64 (s2.1 * v7)).tmod a0_0))), (4, .val (i64 (w64 (s2.2 + 1))))] rfl ?_ ?_
  · simp <;> simp [ieq, ilt, ile]
  cases hx2o
  exact ⟨_, rfl, Fits.of rfl⟩

theorem s_l08Is_ok {a0_0 : Int} {a0_1 : List Int} {a1 : List (List Int)} {r : Bool} (h : s_l08Is a0_0 a0_1 a1 = some r) :
    VCall Try.prog 130 [.agg [i64 a0_0, dI a0_1], dM a1] [.sc (.bool r)] := by
  unfold s_l08Is at h
  refine VCall.enter Try.call130 Try.func130 rfl 9 Try.ntmps130 (by simp) [.tmp 4] rfl ?_
  show VW _ _ _ (mk [(0, .val (.agg [i64 a0_0, dI a0_1])), (1, .val (dM a1))]) _
  -- region 0
  refine VW.ws tau_ok Sound.none [some 2, some 4] [(1, .val (dM a1)), (2, .val (.ptr [i64 a0_0, dI a0_1]))] rfl ?_ ?_
  · simp <;> simp [ieq, ilt, ile]
  -- region 1
  obtain ⟨v1, hv1, h⟩ := bind_some h
  refine VW.ws tau_ok (Sound.none.add 8 (s_l03Isometry_ok hv1) rfl) [some 5, some 6, some 7, some 8, some 4] [(4, .val (.bool v1))] rfl ?_ ?_
  · simp <;> simp [ieq, ilt, ile]
  cases h
  refine VW.ret ?_
  simp [Post, PostM, PostC, PostC2, Nx, Bk]

theorem s_IsOrthogonal_ok {a0_0 : Int} {a0_1 : List Int} {a1 : List (List Int)} {r : Bool × Int} (h : s_IsOrthogonal a0_0 a0_1 a1 = some r) :
    VCall Try.prog 72 [.agg [i64 a0_0, dI a0_1], dM a1] [.sc (.bool r.1), .sc (i64 r.2)] := by
  unfold s_IsOrthogonal at h
  refine VCall.enter Try.call72 Try.func72 rfl 15 Try.ntmps72 (by simp) [.tmp 4, .tmp 5] rfl ?_
  show VW _ _ _ (mk [(0, .val (.agg [i64 a0_0, dI a0_1])), (1, .val (dM a1))]) _
  -- region 0
  refine VW.ws tau_ok Sound.none [some 2, some 4, some 5] [(1, .val (dM a1)), (2, .val (.ptr [i64 a0_0, dI a0_1]))] rfl ?_ ?_
  · simp <;> simp [ieq, ilt, ile]
  refine VW.sqc fun K1 hK1 hCK1 => ?_
  -- region 1
  obtain ⟨v2, hv2, h⟩ := bind_some h
  refine VW.ws tau_ok (Sound.none.add 7 (s_l03Is_ok hv2) rfl) [some 6, some 7, some 8] [(1, .val (dM a1)), (2, .val (.ptr [i64 a0_0, dI a0_1])), (8, .val (.bool (!v2)))] rfl ?_ ?_
  · simp <;> simp [ieq, ilt, ile]
  refine VW.cond rfl (fun hb3 => ?_) (fun hb3 => ?_)
  ·
    replace hb3 : v2 = false := by simpa [ieq, ilt, ile] using hb3
    rw [if_pos hb3] at h
    -- region 2
    refine VW.ws tau_ok Sound.none [some 4, some 5] [(4, .val (.bool false)), (5, .val (i64 1))] rfl ?_ ?_
    · simp <;> simp [ieq, ilt, ile]
    cases h
    refine VW.ret ?_
    simp [Post, PostM, PostC, PostC2, Nx, Bk]
  replace hb3 : ¬ (v2 = false) := by simpa [ieq, ilt, ile] using hb3
  rw [if_neg hb3] at h
  refine VW.skip ?_
  refine hK1 _ ?_
  refine VW.sqc fun K4 hK4 hCK4 => ?_
  -- region 3
  obtain ⟨v5, hv5, h⟩ := bind_some h
  refine VW.ws tau_ok (Sound.none.add 10 (s_l03Disc_ok hv5) rfl) [some 9, some 10, some 11] [(1, .val (dM a1)), (2, .val (.ptr [i64 a0_0, dI a0_1])), (11, .val (.bool (ieq v5 0)))] rfl ?_ ?_
  · simp <;> simp [ieq, ilt, ile]
  refine VW.cond rfl (fun hb6 => ?_) (fun hb6 => ?_)
  ·
    replace hb6 : v5 = 0 := by simpa [ieq, ilt, ile] using hb6
    rw [if_pos hb6] at h
    -- region 4
    refine VW.ws tau_ok Sound.none [some 4, some 5] [(4, .val (.bool false)), (5, .val (i64 5))] rfl ?_ ?_
    · simp <;> simp [ieq, ilt, ile]
    cases h
    refine VW.ret ?_
    simp [Post, PostM, PostC, PostC2, Nx, Bk]
  replace hb6 : ¬ (v5 = 0) := by simpa [ieq, ilt, ile] using hb6
  rw [if_neg hb6] at h
  refine VW.skip ?_
  refine hK4 _ ?_
  -- region 5
  obtain ⟨v7, hv7, h⟩ := bind_some h
  refine VW.ws tau_ok (Sound.none.add 14 (s_l08Is_ok hv7) rfl) [some 12, some 13, some 14, some 4, some 5] [(4, .val (.bool v7)), (5, .val (i64 0))] rfl ?_ ?_
  · simp <;> simp [ieq, ilt, ile]
  cases h
  refine VW.ret ?_
  simp [Post, PostM, PostC, PostC2, Nx, Bk]

theorem i_length_I_ok {a0 : List Int} {r : Int} (h : i_length_I a0 = some r) :
    VCall Try.prog 169 [dI a0] [.sc (i64 r)] := by
  unfold i_length_I at h
  refine VCall.enter Try.call169 Try.func169 rfl 5 Try.ntmps169 (by simp) [.tmp 2] rfl ?_
  show VW _ _ _ (mk [(0, .val (dI a0))]) _
  -- region 0
  refine VW.ws tau_ok Sound.none [some 2] [(0, .val (dI a0))] rfl ?_ ?_
  · simp <;> simp [ieq, ilt, ile]
  -- region 1
  refine VW.ws tau_ok Sound.none [some 3, some 4, some 2] [(2, .val (i64 (a0.length : Int)))] rfl ?_ ?_
  · simp <;> simp [ieq, ilt, ile]
  cases h
  refine VW.ret ?_
  simp [Post, PostM, PostC, PostC2, Nx, Bk]

theorem i_Space_field_ok {a0_0 : Int} {a0_1 : List Int} {r : Int} (h : i_Space_field a0_0 a0_1 = some r) :
    VCall Try.prog 144 [.agg [i64 a0_0, dI a0_1]] [.sc (i64 r)] := by
  unfold i_Space_field at h
  refine VCall.enter Try.call144 Try.func144 rfl 5 Try.ntmps144 (by simp) [.tmp 2] rfl ?_
  show VW _ _ _ (mk [(0, .val (.agg [i64 a0_0, dI a0_1]))]) _
  -- region 0
  refine VW.ws tau_ok Sound.none [some 1, some 2] [(1, .val (.ptr [i64 a0_0, dI a0_1]))] rfl ?_ ?_
  · simp <;> simp [ieq, ilt, ile]
  -- region 1
  refine VW.ws tau_ok Sound.none [some 3, some 4, some 2] [(2, .val (i64 a0_0))] rfl ?_ ?_
  · simp <;> simp [ieq, ilt, ile]
  cases h
  refine VW.ret ?_
  simp [Post, PostM, PostC, PostC2, Nx, Bk]

theorem i_IsSpace_ok {a0_0 : Int} {a0_1 : List Int} {r : Bool} (h : i_IsSpace a0_0 a0_1 = some r) :
    VCall Try.prog 131 [.agg [i64 a0_0, dI a0_1]] [.sc (.bool r)] := by
  unfold i_IsSpace at h
  refine VCall.enter Try.call131 Try.func131 rfl 19 Try.ntmps131 (by simp) [.tmp 2] rfl ?_
  show VW _ _ _ (mk [(0, .val (.agg [i64 a0_0, dI a0_1]))]) _
  -- region 0
  refine VW.ws tau_ok Sound.none [some 1, some 2] [(1, .val (.ptr [i64 a0_0, dI a0_1]))] rfl ?_ ?_
  · simp <;> simp [ieq, ilt, ile]
  -- region 1
  obtain ⟨x8, hx8, h⟩ := bind_some h
  refine VW.cut [(2, .val (.bool x8))] ?_ fun hy => ?_
  rotate_left
  · clear h
    obtain ⟨v1, hv1, hx8⟩ := bind_some hx8
    by_cases hp2 : v1 = true
    · rw [if_pos hp2] at hx8
      have hp2b : v1 = true := by simpa [ieq, ilt, ile] using hp2
      have hp2s := hp2b
      try simp at hp2s
      obtain ⟨v3, hv3, hx8⟩ := bind_some hx8
      obtain ⟨v4, hv4, hx8⟩ := bind_some hx8
      by_cases hp5 : v4 = true
      · rw [if_pos hp5] at hx8
        have hp5b : v4 = true := by simpa [ieq, ilt, ile] using hp5
        have hp5s := hp5b
        try simp at hp5s
        obtain ⟨v6, hv6, hx8⟩ := bind_some hx8
        obtain ⟨v7, hv7, hx8⟩ := bind_some hx8
        cases hx8
        refine VW.wds tau_ok (((((Sound.none.add 5 (i_IsPrime_ok hv1) rfl).add 9 (i_length_I_ok hv3) rfl).add 10 (i_inRange_ok hv4) rfl).add 14 (i_Space_field_ok hv6) rfl).add 17 (i_field_is_ok hv7) rfl) try_mixed [some 3, some 4, some 5, some 6, some 7, some 8, some 9, some 10, some 11, some 12, some 13, some 14, some 15, some 16, some 17, some 18, some 2] _ 17 rfl (by kernel_rfl) (by rfl) ?_ hy
        simp [hp2b, hp2s, hp5b, hp5s] <;> simp [ieq, ilt, ile]
      · rw [if_neg hp5] at hx8
        have hp5b : v4 = false := by simpa [ieq, ilt, ile] using hp5
        have hp5s := hp5b
        try simp at hp5s
        cases hx8
        refine VW.wds tau_ok (((Sound.none.add 5 (i_IsPrime_ok hv1) rfl).add 9 (i_length_I_ok hv3) rfl).add 10 (i_inRange_ok hv4) rfl) try_mixed [some 3, some 4, some 5, some 6, some 7, some 8, some 9, some 10, some 11, some 12, some 13, some 14, some 15, some 16, some 17, some 18, some 2] _ 17 rfl (by kernel_rfl) (by rfl) ?_ hy
        simp [hp2b, hp2s, hp5b, hp5s] <;> simp [ieq, ilt, ile]
    · rw [if_neg hp2] at hx8
      have hp2b : v1 = false := by simpa [ieq, ilt, ile] using hp2
      have hp2s := hp2b
      try simp at hp2s
      cases hx8
      refine VW.wds tau_ok (Sound.none.add 5 (i_IsPrime_ok hv1) rfl) try_mixed [some 3, some 4, some 5, some 6, some 7, some 8, some 9, some 10, some 11, some 12, some 13, some 14, some 15, some 16, some 17, some 18, some 2] _ 17 rfl (by kernel_rfl) (by rfl) ?_ hy
      simp [hp2b, hp2s] <;> simp [ieq, ilt, ile]
  cases h
  refine VW.ret ?_
  simp [Post, PostM, PostC, PostC2, Nx, Bk]

theorem i_Space_regular_ok {a0_0 : Int} {a0_1 : List Int} {r : Bool} (h : i_Space_regular a0_0 a0_1 = some r) :
    VCall Try.prog 132 [.agg [i64 a0_0, dI a0_1]] [.sc (.bool r)] := by
  unfold i_Space_regular at h
  refine VCall.enter Try.call132 Try.func132 rfl 7 Try.ntmps132 (by simp) [.tmp 2] rfl ?_
  show VW _ _ _ (mk [(0, .val (.agg [i64 a0_0, dI a0_1]))]) _
  -- region 0
  refine VW.ws tau_ok Sound.none [some 1, some 2] [(1, .val (.ptr [i64 a0_0, dI a0_1]))] rfl ?_ ?_
  · simp <;> simp [ieq, ilt, ile]
  -- region 1
  obtain ⟨v1, hv1, h⟩ := bind_some h
  refine VW.ws tau_ok (Sound.none.add 5 (g_slices_Contains_LI_I_ok hv1) rfl) [some 3, some 4, some 5, some 6, some 2] [(2, .val (.bool (!v1)))] rfl ?_ ?_
  · simp <;> simp [ieq, ilt, ile]
  cases h
  refine VW.ret ?_
  simp [Post, PostM, PostC, PostC2, Nx, Bk]

theorem i_Space_dim_ok {a0_0 : Int} {a0_1 : List Int} {r : Int} (h : i_Space_dim a0_0 a0_1 = some r) :
    VCall Try.prog 199 [.agg [i64 a0_0, dI a0_1]] [.sc (i64 r)] := by
  unfold i_Space_dim at h
  refine VCall.enter Try.call199 Try.func199 rfl 6 Try.ntmps199 (by simp) [.tmp 2] rfl ?_
  show VW _ _ _ (mk [(0, .val (.agg [i64 a0_0, dI a0_1]))]) _
  -- region 0
  refine VW.ws tau_ok Sound.none [some 1, some 2] [(1, .val (.ptr [i64 a0_0, dI a0_1]))] rfl ?_ ?_
  · simp <;> simp [ieq, ilt, ile]
  -- region 1
  refine VW.ws tau_ok Sound.none [some 3, some 4, some 5, some 2] [(2, .val (i64 (a0_1.length : Int)))] rfl ?_ ?_
  · simp <;> simp [ieq, ilt, ile]
  cases h
  refine VW.ret ?_
  simp [Post, PostM, PostC, PostC2, Nx, Bk]

theorem i_field_determinant_ok {a0 : Int} {a1 : List (List Int)} {r : Int} (h : i_field_determinant a0 a1 = some r) :
    VCall Try.prog 145 [i64 a0, dM a1] [.sc (i64 r)] := by
  unfold i_field_determinant at h
  refine VCall.enter Try.call145 Try.func145 rfl 111 Try.ntmps145 (by simp) [.tmp 4] rfl ?_
  show VW _ _ _ (mk [(0, .val (i64 a0)), (1, .val (dM a1))]) _
  -- region 0
  refine VW.ws tau_ok Sound.none [some 4] [(0, .val (i64 a0)), (1, .val (dM a1))] rfl ?_ ?_
  · simp <;> simp [ieq, ilt, ile]
  -- region 1
  obtain ⟨v1, hv1, h⟩ := bind_some h
  refine VW.ws tau_ok (Sound.none.add 11 (i_cloneRows_ok hv1) rfl) [some 10, some 11, some 5, some 6] [(0, .val (i64 a0)), (5, .ref 5 [] true (dM v1)), (6, .val (i64 1))] rfl ?_ ?_
  · simp <;> simp [ieq, ilt, ile]
  refine VW.sqc fun K2 hK2 hCK2 => ?_
  -- region 2
  refine VW.ws tau_ok Sound.none [some 12, some 13, some 14] [(0, .val (i64 a0)), (5, .ref 5 [] true (dM v1)), (6, .val (i64 1)), (13, .val (i64 (v1.length : Int))), (14, .val (i64 0))] rfl ?_ ?_
  · simp <;> simp [ieq, ilt, ile]
  obtain ⟨x3, hx3, h⟩ := bind_some h
  refine VW.tlO (fun y5 => [(6, .val (i64 y5))]) x3 (hCK2) ?_ ?_
  · clear hx3
    rintro y5 rfl
    dsimp only at h
    refine hK2 _ ?_
    -- region 19
    refine VW.ws tau_ok Sound.none [some 110, some 4] [(4, .val (i64 y5))] rfl ?_ ?_
    · simp <;> simp [ieq, ilt, ile]
    cases h
    refine VW.ret ?_
    simp [Post, PostM, PostC, PostC2, Nx, Bk]
  refine VW.block ?_
  refine VW.loopF (i_field_determinant_L0 a0 v1) (fun s3 => [(0, .val (i64 a0)), (5, .ref 5 [] false (dM s3.1)), (6, .val (i64 s3.2.1)), (13, .val (i64 (v1.length : Int))), (14, .val (i64 s3.2.2))]) hx3 (Fits.weak (s := 5) rfl (by simp) (Fits.of rfl)) ?_
  clear hx3
  intro s3 ox3 hx3o hx3b
  unfold i_field_determinant_L0 at hx3o
  -- region 3
  refine VW.ws tau_ok Sound.none [some 15] [(0, .val (i64 a0)), (5, .ref 5 [] false (dM s3.1)), (6, .val (i64 s3.2.1)), (13, .val (i64 (v1.length : Int))), (14, .val (i64 s3.2.2)), (15, .val (.bool (ilt s3.2.2 (v1.length : Int))))] rfl ?_ ?_
  · simp <;> simp [ieq, ilt, ile]
  refine VW.sqc fun K6 hK6 hCK6 => ?_
  refine VW.cond rfl (fun hb7 => ?_) (fun hb7 => ?_)
  rotate_left
  ·
    replace hb7 : ¬ (s3.2.2 < (v1.length : Int)) := by simpa [ieq, ilt, ile] using hb7
    rw [if_neg hb7] at hx3o
    refine VW.exit ?_
    cases hx3o
    have hq := hx3b _ rfl
    subst hq
    exact ⟨_, rfl, Fits.of rfl⟩
  replace hb7 : s3.2.2 < (v1.length : Int) := by simpa [ieq, ilt, ile] using hb7
  rw [if_pos hb7] at hx3o
  refine VW.skip ?_
  refine hK6 _ ?_
  refine VW.sqc fun K8 hK8 hCK8 => ?_
  refine VW.block ?_
  -- region 4
  refine VW.ws tau_ok Sound.none [some 16, some 7] [(0, .val (i64 a0)), (5, .ref 5 [] false (dM s3.1)), (6, .val (i64 s3.2.1)), (7, .val (i64 s3.2.2)), (13, .val (i64 (v1.length : Int))), (14, .val (i64 s3.2.2))] rfl ?_ ?_
  · simp <;> simp [ieq, ilt, ile]
  -- region 5
  refine VW.ws tau_ok Sound.none [some 17, some 8] [(0, .val (i64 a0)), (5, .ref 5 [] false (dM s3.1)), (6, .val (i64 s3.2.1)), (7, .val (i64 s3.2.2)), (8, .val (i64 s3.2.2)), (13, .val (i64 (v1.length : Int))), (14, .val (i64 s3.2.2))] rfl ?_ ?_
  · simp <;> simp [ieq, ilt, ile]
  refine VW.sqc fun K9 hK9 hCK9 => ?_
  obtain ⟨x10, hx10, hx3o⟩ := bind_some hx3o
  refine VW.tlE [(0, .val (i64 a0)), (5, .ref 5 [] false (dM s3.1)), (6, .val (i64 s3.2.1)), (7, .val (i64 s3.2.2)), (8, .val (i64 x10)), (13, .val (i64 (v1.length : Int))), (14, .val (i64 s3.2.2))] (hCK9) ?_ ?_
  · clear hx10
    refine hK9 _ ?_
    refine VW.sqc fun K18 hK18 hCK18 => ?_
    -- region 8
    refine VW.ws tau_ok Sound.none [some 34, some 35, some 36, some 37] [(0, .val (i64 a0)), (5, .ref 5 [] false (dM s3.1)), (6, .val (i64 s3.2.1)), (7, .val (i64 s3.2.2)), (8, .val (i64 x10)), (13, .val (i64 (v1.length : Int))), (14, .val (i64 s3.2.2)), (37, .val (.bool (ieq x10 (s3.1.length : Int))))] rfl ?_ ?_
    · simp <;> simp [ieq, ilt, ile]
    refine VW.cond rfl (fun hb19 => ?_) (fun hb19 => ?_)
    ·
      replace hb19 : x10 = (s3.1.length : Int) := by simpa [ieq, ilt, ile] using hb19
      rw [if_pos hb19] at hx3o
      -- region 9
      refine VW.ws tau_ok Sound.none [some 4] [(4, .val (i64 0))] rfl ?_ ?_
      · simp <;> simp [ieq, ilt, ile]
      cases hx3o
      have hq := hx3b _ rfl
      subst hq
      dsimp only at h
      cases h
      refine VW.ret ?_
      simp [Post, PostM, PostC, PostC2, Nx, Bk]
    replace hb19 : ¬ (x10 = (s3.1.length : Int)) := by simpa [ieq, ilt, ile] using hb19
    rw [if_neg hb19] at hx3o
    refine VW.skip ?_
    refine hK18 _ ?_
    refine VW.sqc fun K20 hK20 hCK20 => ?_
    -- region 10
    refine VW.ws tau_ok Sound.none [some 38, some 39, some 40] [(0, .val (i64 a0)), (5, .ref 5 [] false (dM s3.1)), (6, .val (i64 s3.2.1)), (7, .val (i64 s3.2.2)), (8, .val (i64 x10)), (13, .val (i64 (v1.length : Int))), (14, .val (i64 s3.2.2)), (40, .val (.bool (!(ieq x10 s3.2.2))))] rfl ?_ ?_
    · simp <;> simp [ieq, ilt, ile]
    obtain ⟨x21, hx21, hx3o⟩ := bind_some hx3o
    refine VW.tlE [(0, .val (i64 a0)), (5, .ref 5 [] false (dM x21.1)), (6, .val (i64 x21.2)), (7, .val (i64 s3.2.2)), (13, .val (i64 (v1.length : Int))), (14, .val (i64 s3.2.2))] (hCK20) ?_ ?_
    · clear hx21
      refine hK20 _ ?_
      -- region 13
      obtain ⟨v28, hv28, hx3o⟩ := bind_some hx3o
      obtain ⟨hv28a, hv28b, hv28c, hv28d⟩ := idx_some hv28
      obtain ⟨v29, hv29, hx3o⟩ := bind_some hx3o
      obtain ⟨hv29a, hv29b, hv29c, hv29d⟩ := idx_some hv29
      obtain ⟨v30, hv30, hx3o⟩ := bind_some hx3o
      refine VW.ws tau_ok (Sound.none.add 69 (i_field_num_ok hv30) rfl) [some 59, some 60, some 61, some 62, some 63, some 64, some 65, some 66, some 67, some 68, some 69, some 6] [(0, .val (i64 a0)), (5, .ref 5 [] false (dM x21.1)), (6, .val (i64 v30)), (7, .val (i64 s3.2.2)), (13, .val (i64 (v1.length : Int))), (14, .val (i64 s3.2.2))] rfl ?_ ?_
      · simp [hv28a, hv28b, hv28c, hv28d, hv29a, hv29b, hv29c, hv29d] <;> simp [ieq, ilt, ile]
      -- region 14
      refine VW.ws tau_ok Sound.none [some 70, some 71, some 9] [(0, .val (i64 a0)), (5, .ref 5 [] false (dM x21.1)), (6, .val (i64 v30)), (7, .val (i64 s3.2.2)), (9, .val (i64 (w64 (s3.2.2 + 1)))), (13, .val (i64 (v1.length : Int))), (14, .val (i64 s3.2.2))] rfl ?_ ?_
      · simp <;> simp [ieq, ilt, ile]
      obtain ⟨x31, hx31, hx3o⟩ := bind_some hx3o
      refine VW.tlE [(0, .val (i64 a0)), (5, .ref 5 [] false (dM x31)), (6, .val (i64 v30)), (13, .val (i64 (v1.length : Int))), (14, .val (i64 s3.2.2))] (hCK8) ?_ ?_
      · clear hx31
        refine hK8 _ ?_
        -- region 18
        refine VW.wr tau_ok Sound.none [some 109, some 14] [(0, .val (i64 a0)), (5, .ref 5 [] false (dM x31)), (6, .val (i64 v30)), (13, .val (i64 (v1.length : Int))), (14, .val (i64 (w64 (s3.2.2 + 1))))] rfl ?_ ?_
        · simp <;> simp [ieq, ilt, ile]
        cases hx3o
        exact ⟨_, rfl, Fits.of rfl⟩
      refine VW.block ?_
      refine VW.loopF (i_field_determinant_L2 a0 s3) (fun s31 => [(0, .val (i64 a0)), (5, .ref 5 [] false (dM s31.1)), (6, .val (i64 v30)), (7, .val (i64 s3.2.2)), (9, .val (i64 s31.2)), (13, .val (i64 (v1.length : Int))), (14, .val (i64 s3.2.2))]) hx31 (Fits.of rfl) ?_
      clear hx31
      intro s31 ox31 hx31o hx31b
      unfold i_field_determinant_L2 at hx31o
      refine VW.sqc fun K33 hK33 hCK33 => ?_
      -- region 15
      refine VW.ws tau_ok Sound.none [some 72, some 73, some 74, some 75] [(0, .val (i64 a0)), (5, .ref 5 [] false (dM s31.1)), (6, .val (i64 v30)), (7, .val (i64 s3.2.2)), (9, .val (i64 s31.2)), (13, .val (i64 (v1.length : Int))), (14, .val (i64 s3.2.2)), (75, .val (.bool (ilt s31.2 (s31.1.length : Int))))] rfl ?_ ?_
      · simp <;> simp [ieq, ilt, ile]
      refine VW.cond rfl (fun hb34 => ?_) (fun hb34 => ?_)
      rotate_left
      ·
        replace hb34 : ¬ (s31.2 < (s31.1.length : Int)) := by simpa [ieq, ilt, ile] using hb34
        rw [if_neg hb34] at hx31o
        refine VW.exit ?_
        cases hx31o
        have hq := hx31b _ rfl
        subst hq
        exact Fits.of rfl
      replace hb34 : s31.2 < (s31.1.length : Int) := by simpa [ieq, ilt, ile] using hb34
      rw [if_pos hb34] at hx31o
      refine VW.skip ?_
      refine hK33 _ ?_
      refine VW.sqc fun K35 hK35 hCK35 => ?_
      refine VW.block ?_
      -- region 17
      obtain ⟨v36, hv36, hx31o⟩ := bind_some hx31o
      obtain ⟨hv36a, hv36b, hv36c, hv36d⟩ := idx_some hv36
      obtain ⟨v37, hv37, hx31o⟩ := bind_some hx31o
      obtain ⟨hv37a, hv37b, hv37c, hv37d⟩ := idx_some hv37
      obtain ⟨v38, hv38, hx31o⟩ := bind_some hx31o
      obtain ⟨hv38a, hv38b, hv38c, hv38d⟩ := idx_some hv38
      obtain ⟨v39, hv39, hx31o⟩ := bind_some hx31o
      obtain ⟨hv39a, hv39b, hv39c, hv39d⟩ := idx_some hv39
      obtain ⟨v40, hv40, hx31o⟩ := bind_some hx31o
      obtain ⟨v41, hv41, hx31o⟩ := bind_some hx31o
      refine VW.wdr tau_ok ((Sound.none.add 105 (i_field_inv_ok hv40) rfl).add 107 (i_field_plus_ok hv41) rfl) try_mixed [some 78, some 79, some 80, some 81, some 82, some 83, some 84, some 85, some 86, some 87, some 88, some 89, some 90, some 91, some 92, some 93, some 94, some 95, some 96, some 97, some 98, some 99, some 100, some 101, some 102, some 103, some 104, some 105, some 106, some 107, some 108, none] [(0, .val (i64 a0)), (5, .ref 5 [] false (dM (s31.1.set s31.2.toNat v41))), (6, .val (i64 v30)), (7, .val (i64 s3.2.2)), (9, .val (i64 s31.2)), (13, .val (i64 (v1.length : Int))), (14, .val (i64 s3.2.2))] 31 rfl (by kernel_rfl) (by rfl) ?_ ?_
      · simp [hv36a, hv36b, hv36c, hv36d, hv37a, hv37b, hv37c, hv37d, hv38a, hv38b, hv38c, hv38d, hv39a, hv39b, hv39c, hv39d] <;> simp [ieq, ilt, ile]
      refine hK35 _ ?_
      -- region 16
      refine VW.wr tau_ok Sound.none [some 76, some 77, some 9] [(0, .val (i64 a0)), (5, .ref 5 [] false (dM (s31.1.set s31.2.toNat v41))), (6, .val (i64 v30)), (7, .val (i64 s3.2.2)), (9, .val (i64 (w64 (s31.2 + 1)))), (13, .val (i64 (v1.length : Int))), (14, .val (i64 s3.2.2))] rfl ?_ ?_
      · simp <;> simp [ieq, ilt, ile]
      cases hx31o
      exact ⟨_, rfl, Fits.of rfl⟩
    refine VW.cond rfl (fun hb23 => ?_) (fun hb23 => ?_)
    rotate_left
    ·
      replace hb23 : ¬ (¬ x10 = s3.2.2) := by simpa [ieq, ilt, ile] using hb23
      rw [if_neg hb23] at hx21
      refine VW.skip ?_
      cases hx21
      exact Fits.of rfl
    replace hb23 : ¬ x10 = s3.2.2 := by simpa [ieq, ilt, ile] using hb23
    rw [if_pos hb23] at hx21
    -- region 11
    obtain ⟨v24, hv24, hx21⟩ := bind_some hx21
    obtain ⟨hv24a, hv24b, hv24c, hv24d⟩ := idx_some hv24
    obtain ⟨v25, hv25, hx21⟩ := bind_some hx21
    obtain ⟨hv25a, hv25b, hv25c, hv25d⟩ := idx_some hv25
    obtain ⟨v26, hv26, hx21⟩ := bind_some hx21
    obtain ⟨hv26a, hv26b, hv26c, hv26d⟩ := idx_some hv26
    have hv26s := hv26b
    try simp at hv26s
    refine VW.wds tau_ok Sound.none try_mixed [some 41, some 42, some 43, some 44, some 45, some 46, some 47, some 48, some 49, some 50, some 51, some 52, some 53, none, some 54, none] [(0, .val (i64 a0)), (5, .ref 5 [] false (dM ((s3.1.set s3.2.2.toNat v24).set x10.toNat v25))), (6, .val (i64 s3.2.1)), (7, .val (i64 s3.2.2)), (13, .val (i64 (v1.length : Int))), (14, .val (i64 s3.2.2))] 13 rfl (by kernel_rfl) (by rfl) ?_ ?_
    · simp [hv24a, hv24b, hv24c, hv24d, hv25a, hv25b, hv25c, hv25d, hv26a, hv26b, hv26c, hv26d, hv26s] <;> simp [ieq, ilt, ile]
    -- region 12
    obtain ⟨v27, hv27, hx21⟩ := bind_some hx21
    refine VW.wr tau_ok (Sound.none.add 58 (i_field_num_ok hv27) rfl) [some 55, some 56, some 57, some 58, some 6] [(0, .val (i64 a0)), (5, .ref 5 [] false (dM ((s3.1.set s3.2.2.toNat v24).set x10.toNat v25))), (6, .val (i64 v27)), (7, .val (i64 s3.2.2)), (13, .val (i64 (v1.length : Int))), (14, .val (i64 s3.2.2))] rfl ?_ ?_
    · simp <;> simp [ieq, ilt, ile]
    cases hx21
    exact Fits.of rfl
  refine VW.block ?_
  refine VW.loopF (i_field_determinant_L1 s3) (fun s10 => [(0, .val (i64 a0)), (5, .ref 5 [] false (dM s3.1)), (6, .val (i64 s3.2.1)), (7, .val (i64 s3.2.2)), (8, .val (i64 s10)), (13, .val (i64 (v1.length : Int))), (14, .val (i64 s3.2.2))]) hx10 (Fits.of rfl) ?_
  clear hx10
  intro s10 ox10 hx10o hx10b
  unfold i_field_determinant_L1 at hx10o
  refine VW.sqc fun K12 hK12 hCK12 => ?_
  -- region 6
  obtain ⟨x16, hx16, hx10o⟩ := bind_some hx10o
  refine VW.cut [(0, .val (i64 a0)), (5, .ref 5 [] false (dM s3.1)), (6, .val (i64 s3.2.1)), (7, .val (i64 s3.2.2)), (8, .val (i64 s10)), (13, .val (i64 (v1.length : Int))), (14, .val (i64 s3.2.2)), (31, .val (.bool x16))] ?_ fun hy => ?_
  rotate_left
  · clear hx10o
    by_cases hp13 : s10 < (s3.1.length : Int)
    · rw [if_pos hp13] at hx16
      have hp13b : ilt s10 (s3.1.length : Int) = true := by simpa [ieq, ilt, ile] using hp13
      have hp13s := hp13b
      try simp at hp13s
      obtain ⟨v14, hv14, hx16⟩ := bind_some hx16
      obtain ⟨hv14a, hv14b, hv14c, hv14d⟩ := idx_some hv14
      obtain ⟨v15, hv15, hx16⟩ := bind_some hx16
      obtain ⟨hv15a, hv15b, hv15c, hv15d⟩ := idx_some hv15
      cases hx16
      refine VW.ws tau_ok Sound.none [some 18, some 19, some 20, some 21, some 22, some 23, some 24, some 25, some 26, some 27, some 28, some 29, some 30, some 31] _ rfl ?_ hy
      simp [hp13b, hp13s, hv14a, hv14b, hv14c, hv14d, hv15a, hv15b, hv15c, hv15d] <;> simp [ieq, ilt, ile]
    · rw [if_neg hp13] at hx16
      have hp13b : ilt s10 (s3.1.length : Int) = false := by simpa [ieq, ilt, ile] using hp13
      have hp13s := hp13b
      try simp at hp13s
      cases hx16
      refine VW.ws tau_ok Sound.none [some 18, some 19, some 20, some 21, some 22, some 23, some 24, some 25, some 26, some 27, some 28, some 29, some 30, some 31] _ rfl ?_ hy
      simp [hp13b, hp13s] <;> simp [ieq, ilt, ile]
  refine VW.cond rfl (fun hb17 => ?_) (fun hb17 => ?_)
  rotate_left
  ·
    replace hb17 : ¬ (x16 = true) := by simpa [ieq, ilt, ile] using hb17
    rw [if_neg hb17] at hx10o
    refine VW.exit ?_
    cases hx10o
    have hq := hx10b _ rfl
    subst hq
    exact Fits.of rfl
  replace hb17 : x16 = true := by simpa [ieq, ilt, ile] using hb17
  rw [if_pos hb17] at hx10o
  refine VW.skip ?_
  refine hK12 _ ?_
  refine VW.block ?_
  -- region 7
  refine VW.wr tau_ok Sound.none [some 32, some 33, some 8] [(0, .val (i64 a0)), (5, .ref 5 [] false (dM s3.1)), (6, .val (i64 s3.2.1)), (7, .val (i64 s3.2.2)), (8, .val (i64 (w64 (s10 + 1)))), (13, .val (i64 (v1.length : Int))), (14, .val (i64 s3.2.2))] rfl ?_ ?_
  · simp <;> simp [ieq, ilt, ile]
  cases hx10o
  exact ⟨_, rfl, Fits.of rfl⟩

theorem i_transpose_ok {a0 : List (List Int)} {r : List (List Int)} (h : i_transpose a0 = some r) :
    VCall Try.prog 93 [dM a0] [.own true (dM r)] := by
  unfold i_transpose at h
  refine VCall.enter Try.call93 Try.func93 rfl 38 Try.ntmps93 (by simp) [.tmp 2] rfl ?_
  show VW _ _ _ (mk [(0, .val (dM a0))]) _
  -- region 0
  refine VW.ws tau_ok Sound.none [some 2] [(0, .val (dM a0))] rfl ?_ ?_
  · simp <;> simp [ieq, ilt, ile]
  -- region 1
  refine VW.ws tau_ok Sound.none [some 7, some 3] [(0, .val (dM a0)), (3, .ref 3 [] true (dM []))] rfl ?_ ?_
  · simp <;> simp [ieq, ilt, ile]
  refine VW.sqc fun K1 hK1 hCK1 => ?_
  -- region 2
  obtain ⟨v2, hv2, h⟩ := bind_some h
  obtain ⟨hv2a, hv2b, hv2c, hv2d⟩ := idx_some hv2
  replace hv2b : 0 < a0.length := hv2b
  replace hv2c : a0[0]? = some v2 := hv2c
  replace hv2d : ∀ h, a0[0]'h = v2 := hv2d
  refine VW.ws tau_ok Sound.none [some 8, some 9, some 10, some 11, some 12] [(0, .val (dM a0)), (3, .ref 3 [] true (dM [])), (11, .val (i64 (v2.length : Int))), (12, .val (i64 0))] rfl ?_ ?_
  · simp [hv2a, hv2b, hv2c, hv2d] <;> simp [ieq, ilt, ile]
  obtain ⟨x3, hx3, h⟩ := bind_some h
  refine VW.tlE [(3, .ref 3 [] true (dM x3))] (hCK1) ?_ ?_
  · clear hx3
    refine hK1 _ ?_
    -- region 13
    refine VW.ws tau_ok Sound.none [some 37, some 2] [(2, .ref 2 [] true (dM x3))] rfl ?_ ?_
    · simp <;> simp [ieq, ilt, ile]
    cases h
    refine VW.ret ?_
    simp [Post, PostM, PostC, PostC2, Nx, Bk]
  refine VW.block ?_
  refine VW.loopF (i_transpose_L0 a0 v2) (fun s3 => [(0, .val (dM a0)), (3, .ref 3 [] true (dM s3.1)), (11, .val (i64 (v2.length : Int))), (12, .val (i64 s3.2))]) hx3 (Fits.of rfl) ?_
  clear hx3
  intro s3 ox3 hx3o hx3b
  unfold i_transpose_L0 at hx3o
  -- region 3
  refine VW.ws tau_ok Sound.none [some 13] [(0, .val (dM a0)), (3, .ref 3 [] true (dM s3.1)), (11, .val (i64 (v2.length : Int))), (12, .val (i64 s3.2)), (13, .val (.bool (ilt s3.2 (v2.length : Int))))] rfl ?_ ?_
  · simp <;> simp [ieq, ilt, ile]
  refine VW.sqc fun K5 hK5 hCK5 => ?_
  refine VW.cond rfl (fun hb6 => ?_) (fun hb6 => ?_)
  rotate_left
  ·
    replace hb6 : ¬ (s3.2 < (v2.length : Int)) := by simpa [ieq, ilt, ile] using hb6
    rw [if_neg hb6] at hx3o
    refine VW.exit ?_
    cases hx3o
    have hq := hx3b _ rfl
    subst hq
    exact Fits.of rfl
  replace hb6 : s3.2 < (v2.length : Int) := by simpa [ieq, ilt, ile] using hb6
  rw [if_pos hb6] at hx3o
  refine VW.skip ?_
  refine hK5 _ ?_
  refine VW.sqc fun K7 hK7 hCK7 => ?_
  refine VW.block ?_
  -- region 4
  refine VW.ws tau_ok Sound.none [some 14, some 4] [(0, .val (dM a0)), (3, .ref 3 [] true (dM s3.1)), (4, .val (i64 s3.2)), (11, .val (i64 (v2.length : Int))), (12, .val (i64 s3.2))] rfl ?_ ?_
  · simp <;> simp [ieq, ilt, ile]
  -- region 5
  refine VW.ws tau_ok Sound.none [some 15, some 5] [(0, .val (dM a0)), (3, .ref 3 [] true (dM s3.1)), (4, .val (i64 s3.2)), (5, .ref 5 [] true (dI [])), (11, .val (i64 (v2.length : Int))), (12, .val (i64 s3.2))] rfl ?_ ?_
  · simp <;> simp [ieq, ilt, ile]
  refine VW.sqc fun K8 hK8 hCK8 => ?_
  -- region 6
  refine VW.ws tau_ok Sound.none [some 16, some 17, some 18] [(0, .val (dM a0)), (3, .ref 3 [] true (dM s3.1)), (4, .val (i64 s3.2)), (5, .ref 5 [] true (dI [])), (11, .val (i64 (v2.length : Int))), (12, .val (i64 s3.2)), (17, .val (i64 (a0.length : Int))), (18, .val (i64 0))] rfl ?_ ?_
  · simp <;> simp [ieq, ilt, ile]
  obtain ⟨x9, hx9, hx3o⟩ := bind_some hx3o
  refine VW.tlE [(0, .val (dM a0)), (3, .ref 3 [] true (dM s3.1)), (5, .ref 5 [] true (dI x9)), (11, .val (i64 (v2.length : Int))), (12, .val (i64 s3.2))] (hCK8) ?_ ?_
  · clear hx9
    refine hK8 _ ?_
    -- region 11
    obtain ⟨hc17, hx3o⟩ := chk_some hx3o
    have hc17s := hc17
    try simp at hc17s
    refine VW.wr tau_ok Sound.none [some 32, some 33, some 34, some 35, some 3] [(0, .val (dM a0)), (3, .ref 3 [] true (dM (s3.1 ++ [x9]))), (11, .val (i64 (v2.length : Int))), (12, .val (i64 s3.2))] rfl ?_ ?_
    · simp [hc17, hc17s] <;> simp [ieq, ilt, ile]
    refine hK7 _ ?_
    -- region 12
    refine VW.wr tau_ok Sound.none [some 36, some 12] [(0, .val (dM a0)), (3, .ref 3 [] true (dM (s3.1 ++ [x9]))), (11, .val (i64 (v2.length : Int))), (12, .val (i64 (w64 (s3.2 + 1))))] rfl ?_ ?_
    · simp <;> simp [ieq, ilt, ile]
    cases hx3o
    exact ⟨_, rfl, Fits.of rfl⟩
  refine VW.block ?_
  refine VW.loopF (i_transpose_L1 a0 s3) (fun s9 => [(0, .val (dM a0)), (3, .ref 3 [] true (dM s3.1)), (4, .val (i64 s3.2)), (5, .ref 5 [] true (dI s9.1)), (11, .val (i64 (v2.length : Int))), (12, .val (i64 s3.2)), (17, .val (i64 (a0.length : Int))), (18, .val (i64 s9.2))]) hx9 (Fits.of rfl) ?_
  clear hx9
  intro s9 ox9 hx9o hx9b
  unfold i_transpose_L1 at hx9o
  -- region 7
  refine VW.ws tau_ok Sound.none [some 19] [(0, .val (dM a0)), (3, .ref 3 [] true (dM s3.1)), (4, .val (i64 s3.2)), (5, .ref 5 [] true (dI s9.1)), (11, .val (i64 (v2.length : Int))), (12, .val (i64 s3.2)), (17, .val (i64 (a0.length : Int))), (18, .val (i64 s9.2)), (19, .val (.bool (ilt s9.2 (a0.length : Int))))] rfl ?_ ?_
  · simp <;> simp [ieq, ilt, ile]
  refine VW.sqc fun K11 hK11 hCK11 => ?_
  refine VW.cond rfl (fun hb12 => ?_) (fun hb12 => ?_)
  rotate_left
  ·
    replace hb12 : ¬ (s9.2 < (a0.length : Int)) := by simpa [ieq, ilt, ile] using hb12
    rw [if_neg hb12] at hx9o
    refine VW.exit ?_
    cases hx9o
    have hq := hx9b _ rfl
    subst hq
    exact Fits.of rfl
  replace hb12 : s9.2 < (a0.length : Int) := by simpa [ieq, ilt, ile] using hb12
  rw [if_pos hb12] at hx9o
  refine VW.skip ?_
  refine hK11 _ ?_
  refine VW.sqc fun K13 hK13 hCK13 => ?_
  refine VW.block ?_
  -- region 8
  refine VW.ws tau_ok Sound.none [some 20, some 6] [(0, .val (dM a0)), (3, .ref 3 [] true (dM s3.1)), (4, .val (i64 s3.2)), (5, .ref 5 [] true (dI s9.1)), (6, .val (i64 s9.2)), (11, .val (i64 (v2.length : Int))), (12, .val (i64 s3.2)), (17, .val (i64 (a0.length : Int))), (18, .val (i64 s9.2))] rfl ?_ ?_
  · simp <;> simp [ieq, ilt, ile]
  -- region 9
  obtain ⟨v14, hv14, hx9o⟩ := bind_some hx9o
  obtain ⟨hv14a, hv14b, hv14c, hv14d⟩ := idx_some hv14
  obtain ⟨v15, hv15, hx9o⟩ := bind_some hx9o
  obtain ⟨hv15a, hv15b, hv15c, hv15d⟩ := idx_some hv15
  obtain ⟨hc16, hx9o⟩ := chk_some hx9o
  have hc16s := hc16
  try simp at hc16s
  refine VW.wr tau_ok Sound.none [some 21, some 22, some 23, some 24, some 25, some 26, some 27, some 28, some 29, some 30, some 5] [(0, .val (dM a0)), (3, .ref 3 [] true (dM s3.1)), (4, .val (i64 s3.2)), (5, .ref 5 [] true (dI (s9.1 ++ [v15]))), (11, .val (i64 (v2.length : Int))), (12, .val (i64 s3.2)), (17, .val (i64 (a0.length : Int))), (18, .val (i64 s9.2))] rfl ?_ ?_
  · simp [hv14a, hv14b, hv14c, hv14d, hv15a, hv15b, hv15c, hv15d, hc16, hc16s] <;> simp [ieq, ilt, ile]
  refine hK13 _ ?_
  -- region 10
  refine VW.wr tau_ok Sound.none [some 31, some 18] [(0, .val (dM a0)), (3, .ref 3 [] true (dM s3.1)), (4, .val (i64 s3.2)), (5, .ref 5 [] true (dI (s9.1 ++ [v15]))), (11, .val (i64 (v2.length : Int))), (12, .val (i64 s3.2)), (17, .val (i64 (a0.length : Int))), (18, .val (i64 (w64 (s9.2 + 1))))] rfl ?_ ?_
  · simp <;> simp [ieq, ilt, ile]
  cases hx9o
  exact ⟨_, rfl, Fits.of rfl⟩

theorem i_Space_weighted_ok {a0_0 : Int} {a0_1 : List Int} {a1 : List Int} {r : List Int} (h : i_Space_weighted a0_0 a0_1 a1 = some r) :
    VCall Try.prog 233 [.agg [i64 a0_0, dI a0_1], dI a1] [.own true (dI r)] := by
  unfold i_Space_weighted at h
  refine VCall.enter Try.call233 Try.func233 rfl 31 Try.ntmps233 (by simp) [.tmp 4] rfl ?_
  show VW _ _ _ (mk [(0, .val (.agg [i64 a0_0, dI a0_1])), (1, .val (dI a1))]) _
  -- region 0
  refine VW.ws tau_ok Sound.none [some 2, some 4] [(1, .val (dI a1)), (2, .val (.ptr [i64 a0_0, dI a0_1]))] rfl ?_ ?_
  · simp <;> simp [ieq, ilt, ile]
  -- region 1
  refine VW.ws tau_ok Sound.none [some 8, some 5] [(1, .val (dI a1)), (2, .val (.ptr [i64 a0_0, dI a0_1])), (5, .ref 5 [] true (dI []))] rfl ?_ ?_
  · simp <;> simp [ieq, ilt, ile]
  refine VW.sqc fun K1 hK1 hCK1 => ?_
  -- region 2
  refine VW.ws tau_ok Sound.none [some 9, some 10, some 11] [(2, .val (.ptr [i64 a0_0, dI a0_1])), (5, .ref 5 [] true (dI [])), (9, .val (dI a1)), (10, .val (i64 (a1.length : Int))), (11, .val (i64 0))] rfl ?_ ?_
  · simp <;> simp [ieq, ilt, ile]
  obtain ⟨x2, hx2, h⟩ := bind_some h
  refine VW.tlE [(5, .ref 5 [] true (dI x2))] (hCK1) ?_ ?_
  · clear hx2
    refine hK1 _ ?_
    -- region 7
    refine VW.ws tau_ok Sound.none [some 30, some 4] [(4, .ref 4 [] true (dI x2))] rfl ?_ ?_
    · simp <;> simp [ieq, ilt, ile]
    cases h
    refine VW.ret ?_
    simp [Post, PostM, PostC, PostC2, Nx, Bk]
  refine VW.block ?_
  refine VW.loopF (i_Space_weighted_L0 a0_0 a0_1 a1) (fun s2 => [(2, .val (.ptr [i64 a0_0, dI a0_1])), (5, .ref 5 [] true (dI s2.1)), (9, .val (dI a1)), (10, .val (i64 (a1.length : Int))), (11, .val (i64 s2.2))]) hx2 (Fits.of rfl) ?_
  clear hx2
  intro s2 ox2 hx2o hx2b
  unfold i_Space_weighted_L0 at hx2o
  -- region 3
  refine VW.ws tau_ok Sound.none [some 12] [(2, .val (.ptr [i64 a0_0, dI a0_1])), (5, .ref 5 [] true (dI s2.1)), (9, .val (dI a1)), (10, .val (i64 (a1.length : Int))), (11, .val (i64 s2.2)), (12, .val (.bool (ilt s2.2 (a1.length : Int))))] rfl ?_ ?_
  · simp <;> simp [ieq, ilt, ile]
  refine VW.sqc fun K4 hK4 hCK4 => ?_
  refine VW.cond rfl (fun hb5 => ?_) (fun hb5 => ?_)
  rotate_left
  ·
    replace hb5 : ¬ (s2.2 < (a1.length : Int)) := by simpa [ieq, ilt, ile] using hb5
    rw [if_neg hb5] at hx2o
    refine VW.exit ?_
    cases hx2o
    have hq := hx2b _ rfl
    subst hq
    exact Fits.of rfl
  replace hb5 : s2.2 < (a1.length : Int) := by simpa [ieq, ilt, ile] using hb5
  rw [if_pos hb5] at hx2o
  refine VW.skip ?_
  refine hK4 _ ?_
  refine VW.sqc fun K6 hK6 hCK6 => ?_
  refine VW.block ?_
  -- region 4
  obtain ⟨v7, hv7, hx2o⟩ := bind_some hx2o
  obtain ⟨hv7a, hv7b, hv7c, hv7d⟩ := idx_some hv7
  refine VW.ws tau_ok Sound.none [some 13, some 14, some 15, some 6, some 7] [(2, .val (.ptr [i64 a0_0, dI a0_1])), (5, .ref 5 [] true (dI s2.1)), (6, .val (i64 s2.2)), (7, .val (i64 v7)), (9, .val (dI a1)), (10, .val (i64 (a1.length : Int))), (11, .val (i64 s2.2))] rfl ?_ ?_
  · simp [hv7a, hv7b, hv7c, hv7d] <;> simp [ieq, ilt, ile]
  -- region 5
  obtain ⟨v8, hv8, hx2o⟩ := bind_some hx2o
  obtain ⟨v9, hv9, hx2o⟩ := bind_some hx2o
  obtain ⟨hv9a, hv9b, hv9c, hv9d⟩ := idx_some hv9
  obtain ⟨v10, hv10, hx2o⟩ := bind_some hx2o
  obtain ⟨hc11, hx2o⟩ := chk_some hx2o
  have hc11s := hc11
  try simp at hc11s
  refine VW.wdr tau_ok ((Sound.none.add 18 (i_Space_field_ok hv8) rfl).add 26 (i_field_num_ok hv10) rfl) try_mixed [some 16, some 17, some 18, some 19, some 20, some 21, some 22, some 23, some 24, some 25, some 26, some 27, some 28, some 5] [(2, .val (.ptr [i64 a0_0, dI a0_1])), (5, .ref 5 [] true (dI (s2.1 ++ [v10]))), (9, .val (dI a1)), (10, .val (i64 (a1.length : Int))), (11, .val (i64 s2.2))] 12 rfl (by kernel_rfl) (by rfl) ?_ ?_
  · simp [hv9a, hv9b, hv9c, hv9d, hc11, hc11s] <;> simp [ieq, ilt, ile]
  refine hK6 _ ?_
  -- region 6
  refine VW.wr tau_ok Sound.none [some 29, some 11] [(2, .val (.ptr [i64 a0_0, dI a0_1])), (5, .ref 5 [] true (dI (s2.1 ++ [v10]))), (9, .val (dI a1)), (10, .val (i64 (a1.length : Int))), (11, .val (i64 (w64 (s2.2 + 1))))] rfl ?_ ?_
  · simp <;> simp [ieq, ilt, ile]
  cases hx2o
  exact ⟨_, rfl, Fits.of rfl⟩
end Go.Vam
