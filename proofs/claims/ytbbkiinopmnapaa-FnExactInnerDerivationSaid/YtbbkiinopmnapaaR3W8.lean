import Derived.Test.YtbbkiinopmnapaaR3T
import Derived.Test.YtbbkiinopmnapaaFnD
import Derived.Test.YtbbkiinopmnapaaR3W4
import Derived.Test.YtbbkiinopmnapaaR3W5
namespace Go.Vam
open Go Go.RowKit Go.Proofs
set_option maxRecDepth 100000
set_option linter.unusedSimpArgs false
set_option linter.unusedVariables false

theorem g_slices_Clone_LI_I_ok {a0 r : List Int} (h : g_slices_Clone_LI_I a0 = some r) :
    VCall Try.prog 186 [dI a0] [.own true (dI r)] := by
  unfold g_slices_Clone_LI_I at h
  obtain ⟨hc, h⟩ := chk_some h
  cases h
  refine VCall.enter Try.call186 Try.func186 rfl 8 Try.ntmps186 (by simp) [.tmp 2] rfl ?_
  show VW _ _ _ (mk [(0, .val (dI a0))]) _
  refine VW.ws tau_ok Sound.none [some 2] [(0, .val (dI a0))] rfl ?_ ?_
  · simp
  refine VW.sqc fun K hK hCK => ?_
  refine VW.nilcmp tau_ok (T := 24) (e := 2) rfl rfl rfl rfl rfl (by simp) rfl rfl rfl (by simp) fun b hb => ?_
  refine VW.cond rfl (fun h1 => ?_) (fun h1 => ?_)
  · have e := hb h1
    simp at e
    subst e
    refine VW.ws tau_ok Sound.none [some 2] [(2, .ref 2 [] true (.list []))] rfl ?_ ?_
    · simp
    refine VW.ret ?_
    simp [Post, Nx]
  · refine VW.skip ?_
    refine hK _ ?_
    refine VW.ws tau_ok Sound.none [some 5, some 6, some 7, some 2] [(2, .ref 2 [] true (dI a0))] rfl ?_ ?_
    · simp [hc]
    refine VW.ret ?_
    simp [Post, Nx]

theorem i_cloneRows_ok {a0 : List (List Int)} {r : List (List Int)} (h : i_cloneRows a0 = some r) :
    VCall Try.prog 120 [dM a0] [.own true (dM r)] := by
  unfold i_cloneRows at h
  refine VCall.enter Try.call120 Try.func120 rfl 20 Try.ntmps120 (by simp) [.tmp 2] rfl ?_
  show VW _ _ _ (mk [(0, .val (dM a0))]) _
  -- region 0
  refine VW.ws tau_ok Sound.none [some 2] [(0, .val (dM a0))] rfl ?_ ?_
  · simp <;> simp [ieq, ilt, ile]
  -- region 1
  refine VW.ws tau_ok Sound.none [some 6, some 3] [(0, .val (dM a0)), (3, .ref 3 [] true (dM []))] rfl ?_ ?_
  · simp <;> simp [ieq, ilt, ile]
  refine VW.sqc fun K1 hK1 hCK1 => ?_
  -- region 2
  refine VW.ws tau_ok Sound.none [some 7, some 8, some 9] [(3, .ref 3 [] true (dM [])), (7, .val (dM a0)), (8, .val (i64 (a0.length : Int))), (9, .val (i64 0))] rfl ?_ ?_
  · simp <;> simp [ieq, ilt, ile]
  obtain ⟨x2, hx2, h⟩ := bind_some h
  refine VW.tlE [(3, .ref 3 [] true (dM x2))] (hCK1) ?_ ?_
  · clear hx2
    refine hK1 _ ?_
    -- region 7
    refine VW.ws tau_ok Sound.none [some 19, some 2] [(2, .ref 2 [] true (dM x2))] rfl ?_ ?_
    · simp <;> simp [ieq, ilt, ile]
    cases h
    refine VW.ret ?_
    simp [Post, PostM, PostC, PostC2, Nx, Bk]
  refine VW.block ?_
  refine VW.loopF (i_cloneRows_L0 a0) (fun s2 => [(3, .ref 3 [] true (dM s2.1)), (7, .val (dM a0)), (8, .val (i64 (a0.length : Int))), (9, .val (i64 s2.2))]) hx2 (Fits.of rfl) ?_
  clear hx2
  intro s2 ox2 hx2o hx2b
  unfold i_cloneRows_L0 at hx2o
  -- region 3
  refine VW.ws tau_ok Sound.none [some 10] [(3, .ref 3 [] true (dM s2.1)), (7, .val (dM a0)), (8, .val (i64 (a0.length : Int))), (9, .val (i64 s2.2)), (10, .val (.bool (ilt s2.2 (a0.length : Int))))] rfl ?_ ?_
  · simp <;> simp [ieq, ilt, ile]
  refine VW.sqc fun K4 hK4 hCK4 => ?_
  refine VW.cond rfl (fun hb5 => ?_) (fun hb5 => ?_)
  rotate_left
  ·
    replace hb5 : ¬ (s2.2 < (a0.length : Int)) := by simpa [ieq, ilt, ile] using hb5
    rw [if_neg hb5] at hx2o
    refine VW.exit ?_
    cases hx2o
    have hq := hx2b _ rfl
    subst hq
    exact Fits.of rfl
  replace hb5 : s2.2 < (a0.length : Int) := by simpa [ieq, ilt, ile] using hb5
  rw [if_pos hb5] at hx2o
  refine VW.skip ?_
  refine hK4 _ ?_
  refine VW.sqc fun K6 hK6 hCK6 => ?_
  refine VW.block ?_
  -- region 4
  obtain ⟨v7, hv7, hx2o⟩ := bind_some hx2o
  obtain ⟨hv7a, hv7b, hv7c, hv7d⟩ := idx_some hv7
  refine VW.ws tau_ok Sound.none [some 11, some 12, some 5] [(3, .ref 3 [] true (dM s2.1)), (5, .val (dI v7)), (7, .val (dM a0)), (8, .val (i64 (a0.length : Int))), (9, .val (i64 s2.2))] rfl ?_ ?_
  · simp [hv7a, hv7b, hv7c, hv7d] <;> simp [ieq, ilt, ile]
  -- region 5
  obtain ⟨v8, hv8, hx2o⟩ := bind_some hx2o
  obtain ⟨hc9, hx2o⟩ := chk_some hx2o
  have hc9s := hc9
  try simp at hc9s
  refine VW.wr tau_ok (Sound.none.add 15 (g_slices_Clone_LI_I_ok hv8) rfl) [some 13, some 14, some 15, some 16, some 17, some 3] [(3, .ref 3 [] true (dM (s2.1 ++ [v8]))), (7, .val (dM a0)), (8, .val (i64 (a0.length : Int))), (9, .val (i64 s2.2))] rfl ?_ ?_
  · simp [hc9, hc9s] <;> simp [ieq, ilt, ile]
  refine hK6 _ ?_
  -- region 6
  refine VW.wr tau_ok Sound.none [some 18, some 9] [(3, .ref 3 [] true (dM (s2.1 ++ [v8]))), (7, .val (dM a0)), (8, .val (i64 (a0.length : Int))), (9, .val (i64 (w64 (s2.2 + 1))))] rfl ?_ ?_
  · simp <;> simp [ieq, ilt, ile]
  cases hx2o
  exact ⟨_, rfl, Fits.of rfl⟩

theorem i_field_pow_ok {a0 : Int} {a1 : Int} {a2 : Int} {r : Int} (h : i_field_pow a0 a1 a2 = some r) :
    VCall Try.prog 212 [i64 a0, i64 a1, i64 a2] [.sc (i64 r)] := by
  unfold i_field_pow at h
  refine VCall.enter Try.call212 Try.func212 rfl 18 Try.ntmps212 (by simp) [.tmp 6] rfl ?_
  show VW _ _ _ (mk [(0, .val (i64 a0)), (1, .val (i64 a1)), (2, .val (i64 a2))]) _
  -- region 0
  refine VW.ws tau_ok Sound.none [some 6] [(0, .val (i64 a0)), (1, .val (i64 a1)), (2, .val (i64 a2))] rfl ?_ ?_
  · simp <;> simp [ieq, ilt, ile]
  -- region 1
  refine VW.ws tau_ok Sound.none [some 7] [(0, .val (i64 a0)), (1, .val (i64 a1)), (2, .val (i64 a2)), (7, .val (i64 1))] rfl ?_ ?_
  · simp <;> simp [ieq, ilt, ile]
  refine VW.sqc fun K1 hK1 hCK1 => ?_
  -- region 2
  refine VW.ws tau_ok Sound.none [some 8, some 9] [(0, .val (i64 a0)), (1, .val (i64 a1)), (7, .val (i64 1)), (8, .val (i64 a2)), (9, .val (i64 0))] rfl ?_ ?_
  · simp <;> simp [ieq, ilt, ile]
  obtain ⟨x2, hx2, h⟩ := bind_some h
  refine VW.tlE [(7, .val (i64 x2))] (hCK1) ?_ ?_
  · clear hx2
    refine hK1 _ ?_
    -- region 6
    refine VW.ws tau_ok Sound.none [some 17, some 6] [(6, .val (i64 x2))] rfl ?_ ?_
    · simp <;> simp [ieq, ilt, ile]
    cases h
    refine VW.ret ?_
    simp [Post, PostM, PostC, PostC2, Nx, Bk]
  refine VW.block ?_
  refine VW.loopF (i_field_pow_L0 a0 a1 a2) (fun s2 => [(0, .val (i64 a0)), (1, .val (i64 a1)), (7, .val (i64 s2.1)), (8, .val (i64 a2)), (9, .val (i64 s2.2))]) hx2 (Fits.of rfl) ?_
  clear hx2
  intro s2 ox2 hx2o hx2b
  unfold i_field_pow_L0 at hx2o
  -- region 3
  refine VW.ws tau_ok Sound.none [some 10] [(0, .val (i64 a0)), (1, .val (i64 a1)), (7, .val (i64 s2.1)), (8, .val (i64 a2)), (9, .val (i64 s2.2)), (10, .val (.bool (ilt s2.2 a2)))] rfl ?_ ?_
  · simp <;> simp [ieq, ilt, ile]
  refine VW.sqc fun K4 hK4 hCK4 => ?_
  refine VW.cond rfl (fun hb5 => ?_) (fun hb5 => ?_)
  rotate_left
  ·
    replace hb5 : ¬ (s2.2 < a2) := by simpa [ieq, ilt, ile] using hb5
    rw [if_neg hb5] at hx2o
    refine VW.exit ?_
    cases hx2o
    have hq := hx2b _ rfl
    subst hq
    exact Fits.of rfl
  replace hb5 : s2.2 < a2 := by simpa [ieq, ilt, ile] using hb5
  rw [if_pos hb5] at hx2o
  refine VW.skip ?_
  refine hK4 _ ?_
  refine VW.sqc fun K6 hK6 hCK6 => ?_
  refine VW.block ?_
  -- region 4
  obtain ⟨v7, hv7, hx2o⟩ := bind_some hx2o
  refine VW.wr tau_ok (Sound.none.add 15 (i_field_num_ok hv7) rfl) [some 11, some 12, some 13, some 14, some 15, some 7] [(0, .val (i64 a0)), (1, .val (i64 a1)), (7, .val (i64 v7)), (8, .val (i64 a2)), (9, .val (i64 s2.2))] rfl ?_ ?_
  · simp <;> simp [ieq, ilt, ile]
  refine hK6 _ ?_
  -- region 5
  refine VW.wr tau_ok Sound.none [some 16, some 9] [(0, .val (i64 a0)), (1, .val (i64 a1)), (7, .val (i64 v7)), (8, .val (i64 a2)), (9, .val (i64 (w64 (s2.2 + 1))))] rfl ?_ ?_
  · simp <;> simp [ieq, ilt, ile]
  cases hx2o
  exact ⟨_, rfl, Fits.of rfl⟩

theorem i_field_inv_ok {a0 : Int} {a1 : Int} {r : Int} (h : i_field_inv a0 a1 = some r) :
    VCall Try.prog 151 [i64 a0, i64 a1] [.sc (i64 r)] := by
  unfold i_field_inv at h
  refine VCall.enter Try.call151 Try.func151 rfl 10 Try.ntmps151 (by simp) [.tmp 4] rfl ?_
  show VW _ _ _ (mk [(0, .val (i64 a0)), (1, .val (i64 a1))]) _
  -- region 0
  refine VW.ws tau_ok Sound.none [some 4] [(0, .val (i64 a0)), (1, .val (i64 a1))] rfl ?_ ?_
  · simp <;> simp [ieq, ilt, ile]
  -- region 1
  obtain ⟨v1, hv1, h⟩ := bind_some h
  refine VW.ws tau_ok (Sound.none.add 9 (i_field_pow_ok hv1) rfl) [some 5, some 6, some 7, some 8, some 9, some 4] [(4, .val (i64 v1))] rfl ?_ ?_
  · simp <;> simp [ieq, ilt, ile]
  cases h
  refine VW.ret ?_
  simp [Post, PostM, PostC, PostC2, Nx, Bk]

theorem i_field_basis_ok {a0 : Int} {a1 : List (List Int)} {r : List (List Int)} (h : i_field_basis a0 a1 = some r) :
    VCall Try.prog 187 [i64 a0, dM a1] [.own false (dM r)] := by
  unfold i_field_basis at h
  refine VCall.enter Try.call187 Try.func187 rfl 129 Try.ntmps187 (by simp) [.tmp 4] rfl ?_
  show VW _ _ _ (mk [(0, .val (i64 a0)), (1, .val (dM a1))]) _
  -- region 0
  refine VW.ws tau_ok Sound.none [some 4] [(0, .val (i64 a0)), (1, .val (dM a1))] rfl ?_ ?_
  · simp <;> simp [ieq, ilt, ile]
  -- region 1
  obtain ⟨v1, hv1, h⟩ := bind_some h
  refine VW.ws tau_ok (Sound.none.add 11 (i_cloneRows_ok hv1) rfl) [some 10, some 11, some 5] [(0, .val (i64 a0)), (5, .ref 5 [] true (dM v1))] rfl ?_ ?_
  · simp <;> simp [ieq, ilt, ile]
  -- region 2
  refine VW.ws tau_ok Sound.none [some 6] [(0, .val (i64 a0)), (5, .ref 5 [] true (dM v1)), (6, .val (i64 0))] rfl ?_ ?_
  · simp <;> simp [ieq, ilt, ile]
  refine VW.sqc fun K2 hK2 hCK2 => ?_
  -- region 3
  refine VW.ws tau_ok Sound.none [some 7] [(0, .val (i64 a0)), (5, .ref 5 [] true (dM v1)), (6, .val (i64 0)), (7, .val (i64 0))] rfl ?_ ?_
  · simp <;> simp [ieq, ilt, ile]
  obtain ⟨x3, hx3, h⟩ := bind_some h
  refine VW.tlE [(5, .ref 5 [] false (dM x3.1)), (6, .val (i64 x3.2))] (hCK2) ?_ ?_
  · clear hx3
    refine hK2 _ ?_
    -- region 19
    obtain ⟨hc49, h⟩ := chk_some h
    have hc49s := hc49
    try simp at hc49s
    refine VW.ws tau_ok Sound.none [some 126, some 127, some 128, some 4] [(4, .ref 4 [] false (dM (x3.1.take x3.2.toNat)))] rfl ?_ ?_
    · simp [hc49, hc49s] <;> simp [ieq, ilt, ile]
    cases h
    refine VW.ret ?_
    simp [Post, PostM, PostC, PostC2, Nx, Bk]
  refine VW.block ?_
  refine VW.loopF (i_field_basis_L0 a0) (fun s3 => [(0, .val (i64 a0)), (5, .ref 5 [] false (dM s3.1)), (6, .val (i64 s3.2.1)), (7, .val (i64 s3.2.2))]) hx3 (Fits.weak (s := 5) rfl (by simp) (Fits.of rfl)) ?_
  clear hx3
  intro s3 ox3 hx3o hx3b
  unfold i_field_basis_L0 at hx3o
  refine VW.sqc fun K5 hK5 hCK5 => ?_
  -- region 4
  obtain ⟨x9, hx9, hx3o⟩ := bind_some hx3o
  refine VW.cut [(0, .val (i64 a0)), (5, .ref 5 [] false (dM s3.1)), (6, .val (i64 s3.2.1)), (7, .val (i64 s3.2.2)), (28, .val (.bool x9))] ?_ fun hy => ?_
  rotate_left
  · clear hx3o
    by_cases hp6 : 0 < (s3.1.length : Int)
    · rw [if_pos hp6] at hx9
      have hp6b : ilt 0 (s3.1.length : Int) = true := by simpa [ieq, ilt, ile] using hp6
      have hp6s := hp6b
      try simp at hp6s
      obtain ⟨v7, hv7, hx9⟩ := bind_some hx9
      obtain ⟨hv7a, hv7b, hv7c, hv7d⟩ := idx_some hv7
      replace hv7b : 0 < s3.1.length := hv7b
      replace hv7c : s3.1[0]? = some v7 := hv7c
      replace hv7d : ∀ h, s3.1[0]'h = v7 := hv7d
      by_cases hp8 : s3.2.2 < (v7.length : Int)
      · rw [if_pos hp8] at hx9
        have hp8b : ilt s3.2.2 (v7.length : Int) = true := by simpa [ieq, ilt, ile] using hp8
        have hp8s := hp8b
        try simp at hp8s
        cases hx9
        refine VW.ws tau_ok Sound.none [some 12, some 13, some 14, some 15, some 16, some 17, some 18, some 19, some 20, some 21, some 22, some 23, some 24, some 25, some 26, some 27, some 28] _ rfl ?_ hy
        simp [hp6b, hp6s, hv7a, hv7b, hv7c, hv7d, hp8b, hp8s] <;> simp [ieq, ilt, ile]
      · rw [if_neg hp8] at hx9
        have hp8b : ilt s3.2.2 (v7.length : Int) = false := by simpa [ieq, ilt, ile] using hp8
        have hp8s := hp8b
        try simp at hp8s
        cases hx9
        refine VW.ws tau_ok Sound.none [some 12, some 13, some 14, some 15, some 16, some 17, some 18, some 19, some 20, some 21, some 22, some 23, some 24, some 25, some 26, some 27, some 28] _ rfl ?_ hy
        simp [hp6b, hp6s, hv7a, hv7b, hv7c, hv7d, hp8b, hp8s] <;> simp [ieq, ilt, ile]
    · rw [if_neg hp6] at hx9
      have hp6b : ilt 0 (s3.1.length : Int) = false := by simpa [ieq, ilt, ile] using hp6
      have hp6s := hp6b
      try simp at hp6s
      cases hx9
      refine VW.ws tau_ok Sound.none [some 12, some 13, some 14, some 15, some 16, some 17, some 18, some 19, some 20, some 21, some 22, some 23, some 24, some 25, some 26, some 27, some 28] _ rfl ?_ hy
      simp [hp6b, hp6s] <;> simp [ieq, ilt, ile]
  refine VW.cond rfl (fun hb10 => ?_) (fun hb10 => ?_)
  rotate_left
  ·
    replace hb10 : ¬ (x9 = true) := by simpa [ieq, ilt, ile] using hb10
    rw [if_neg hb10] at hx3o
    refine VW.exit ?_
    cases hx3o
    have hq := hx3b _ rfl
    subst hq
    exact Fits.of rfl
  replace hb10 : x9 = true := by simpa [ieq, ilt, ile] using hb10
  rw [if_pos hb10] at hx3o
  refine VW.skip ?_
  refine hK5 _ ?_
  refine VW.sqc fun K11 hK11 hCK11 => ?_
  obtain ⟨x12, hx12, hx3o⟩ := bind_some hx3o
  refine VW.tlE [(0, .val (i64 a0)), (5, .ref 5 [] false (dM x12.1)), (6, .val (i64 x12.2)), (7, .val (i64 s3.2.2))] (hCK11) ?_ ?_
  · clear hx12
    refine hK11 _ ?_
    -- region 5
    refine VW.wr tau_ok Sound.none [some 29, some 30, some 7] [(0, .val (i64 a0)), (5, .ref 5 [] false (dM x12.1)), (6, .val (i64 x12.2)), (7, .val (i64 (w64 (s3.2.2 + 1))))] rfl ?_ ?_
    · simp <;> simp [ieq, ilt, ile]
    cases hx3o
    exact ⟨_, rfl, Fits.of rfl⟩
  refine VW.block ?_
  -- region 6
  refine VW.ws tau_ok Sound.none [some 31, some 8] [(0, .val (i64 a0)), (5, .ref 5 [] false (dM s3.1)), (6, .val (i64 s3.2.1)), (7, .val (i64 s3.2.2)), (8, .val (i64 s3.2.1))] rfl ?_ ?_
  · simp <;> simp [ieq, ilt, ile]
  refine VW.sqc fun K14 hK14 hCK14 => ?_
  obtain ⟨x15, hx15, hx12⟩ := bind_some hx12
  refine VW.tlE [(0, .val (i64 a0)), (5, .ref 5 [] false (dM s3.1)), (6, .val (i64 s3.2.1)), (7, .val (i64 s3.2.2)), (8, .val (i64 x15))] (hCK14) ?_ ?_
  · clear hx15
    refine hK14 _ ?_
    refine VW.sqc fun K23 hK23 hCK23 => ?_
    -- region 9
    refine VW.ws tau_ok Sound.none [some 48, some 49, some 50, some 51] [(0, .val (i64 a0)), (5, .ref 5 [] false (dM s3.1)), (6, .val (i64 s3.2.1)), (7, .val (i64 s3.2.2)), (8, .val (i64 x15)), (51, .val (.bool (ieq x15 (s3.1.length : Int))))] rfl ?_ ?_
    · simp <;> simp [ieq, ilt, ile]
    refine VW.cond rfl (fun hb24 => ?_) (fun hb24 => ?_)
    ·
      replace hb24 : x15 = (s3.1.length : Int) := by simpa [ieq, ilt, ile] using hb24
      rw [if_pos hb24] at hx12
      refine VW.exit ?_
      cases hx12
      exact Fits.of rfl
    replace hb24 : ¬ (x15 = (s3.1.length : Int)) := by simpa [ieq, ilt, ile] using hb24
    rw [if_neg hb24] at hx12
    refine VW.skip ?_
    refine hK23 _ ?_
    -- region 10
    obtain ⟨v25, hv25, hx12⟩ := bind_some hx12
    obtain ⟨hv25a, hv25b, hv25c, hv25d⟩ := idx_some hv25
    obtain ⟨v26, hv26, hx12⟩ := bind_some hx12
    obtain ⟨hv26a, hv26b, hv26c, hv26d⟩ := idx_some hv26
    obtain ⟨v27, hv27, hx12⟩ := bind_some hx12
    obtain ⟨hv27a, hv27b, hv27c, hv27d⟩ := idx_some hv27
    have hv27s := hv27b
    try simp at hv27s
    refine VW.wds tau_ok Sound.none try_mixed [some 52, some 53, some 54, some 55, some 56, some 57, some 58, some 59, some 60, some 61, some 62, some 63, some 64, none, some 65, none] [(0, .val (i64 a0)), (5, .ref 5 [] false (dM ((s3.1.set s3.2.1.toNat v25).set x15.toNat v26))), (6, .val (i64 s3.2.1)), (7, .val (i64 s3.2.2))] 13 rfl (by kernel_rfl) (by rfl) ?_ ?_
    · simp [hv25a, hv25b, hv25c, hv25d, hv26a, hv26b, hv26c, hv26d, hv27a, hv27b, hv27c, hv27d, hv27s] <;> simp [ieq, ilt, ile]
    obtain ⟨l28, hl28, hx12⟩ := bind_some hx12
    rw [Option.some.inj hl28]
    -- region 11
    obtain ⟨v29, hv29, hx12⟩ := bind_some hx12
    obtain ⟨hv29a, hv29b, hv29c, hv29d⟩ := idx_some hv29
    obtain ⟨v30, hv30, hx12⟩ := bind_some hx12
    obtain ⟨hv30a, hv30b, hv30c, hv30d⟩ := idx_some hv30
    obtain ⟨v31, hv31, hx12⟩ := bind_some hx12
    obtain ⟨v32, hv32, hx12⟩ := bind_some hx12
    refine VW.wds tau_ok ((Sound.none.add 81 (i_field_inv_ok hv31) rfl).add 82 (i_field_scaled_ok hv32) rfl) try_mixed [some 66, some 67, some 68, some 69, some 70, some 71, some 72, some 73, some 74, some 75, some 76, some 77, some 78, some 79, some 80, some 81, some 82, some 83, none] [(0, .val (i64 a0)), (5, .ref 5 [] false (dM (l28.set s3.2.1.toNat v32))), (6, .val (i64 s3.2.1)), (7, .val (i64 s3.2.2))] 18 rfl (by kernel_rfl) (by rfl) ?_ ?_
    · simp [hv29a, hv29b, hv29c, hv29d, hv30a, hv30b, hv30c, hv30d] <;> simp [ieq, ilt, ile]
    refine VW.sqc fun K33 hK33 hCK33 => ?_
    -- region 12
    refine VW.ws tau_ok Sound.none [some 84, some 85, some 86] [(0, .val (i64 a0)), (5, .ref 5 [] false (dM (l28.set s3.2.1.toNat v32))), (6, .val (i64 s3.2.1)), (7, .val (i64 s3.2.2)), (85, .val (i64 ((l28.set s3.2.1.toNat v32).length : Int))), (86, .val (i64 0))] rfl ?_ ?_
    · simp <;> simp [ieq, ilt, ile]
    obtain ⟨x34, hx34, hx12⟩ := bind_some hx12
    refine VW.tlE [(0, .val (i64 a0)), (5, .ref 5 [] false (dM x34)), (6, .val (i64 s3.2.1)), (7, .val (i64 s3.2.2))] (hCK33) ?_ ?_
    · clear hx34
      refine hK33 _ ?_
      -- region 18
      refine VW.wr tau_ok Sound.none [some 124, some 125, some 6] [(0, .val (i64 a0)), (5, .ref 5 [] false (dM x34)), (6, .val (i64 (w64 (s3.2.1 + 1)))), (7, .val (i64 s3.2.2))] rfl ?_ ?_
      · simp <;> simp [ieq, ilt, ile]
      cases hx12
      exact Fits.of rfl
    refine VW.block ?_
    refine VW.loopF (i_field_basis_L2 a0 s3 l28 v32) (fun s34 => [(0, .val (i64 a0)), (5, .ref 5 [] false (dM s34.1)), (6, .val (i64 s3.2.1)), (7, .val (i64 s3.2.2)), (85, .val (i64 ((l28.set s3.2.1.toNat v32).length : Int))), (86, .val (i64 s34.2))]) hx34 (Fits.of rfl) ?_
    clear hx34
    intro s34 ox34 hx34o hx34b
    unfold i_field_basis_L2 at hx34o
    -- region 13
    refine VW.ws tau_ok Sound.none [some 87] [(0, .val (i64 a0)), (5, .ref 5 [] false (dM s34.1)), (6, .val (i64 s3.2.1)), (7, .val (i64 s3.2.2)), (85, .val (i64 ((l28.set s3.2.1.toNat v32).length : Int))), (86, .val (i64 s34.2)), (87, .val (.bool (ilt s34.2 ((l28.set s3.2.1.toNat v32).length : Int))))] rfl ?_ ?_
    · simp <;> simp [ieq, ilt, ile]
    refine VW.sqc fun K36 hK36 hCK36 => ?_
    refine VW.cond rfl (fun hb37 => ?_) (fun hb37 => ?_)
    rotate_left
    ·
      replace hb37 : ¬ (s34.2 < ((l28.set s3.2.1.toNat v32).length : Int)) := by simpa [ieq, ilt, ile] using hb37
      rw [if_neg hb37] at hx34o
      refine VW.exit ?_
      cases hx34o
      have hq := hx34b _ rfl
      subst hq
      exact Fits.of rfl
    replace hb37 : s34.2 < ((l28.set s3.2.1.toNat v32).length : Int) := by simpa [ieq, ilt, ile] using hb37
    rw [if_pos hb37] at hx34o
    refine VW.skip ?_
    refine hK36 _ ?_
    obtain ⟨x38, hx38, hx34o⟩ := bind_some hx34o
    refine VW.sqE [(0, .val (i64 a0)), (5, .ref 5 [] false (dM x38)), (6, .val (i64 s3.2.1)), (7, .val (i64 s3.2.2)), (85, .val (i64 ((l28.set s3.2.1.toNat v32).length : Int))), (86, .val (i64 s34.2))] ?_ ?_
    · clear hx38
      -- region 17
      refine VW.wr tau_ok Sound.none [some 123, some 86] [(0, .val (i64 a0)), (5, .ref 5 [] false (dM x38)), (6, .val (i64 s3.2.1)), (7, .val (i64 s3.2.2)), (85, .val (i64 ((l28.set s3.2.1.toNat v32).length : Int))), (86, .val (i64 (w64 (s34.2 + 1))))] rfl ?_ ?_
      · simp <;> simp [ieq, ilt, ile]
      cases hx34o
      exact ⟨_, rfl, Fits.of rfl⟩
    refine VW.block ?_
    -- region 14
    refine VW.ws tau_ok Sound.none [some 88, some 9] [(0, .val (i64 a0)), (5, .ref 5 [] false (dM s34.1)), (6, .val (i64 s3.2.1)), (7, .val (i64 s3.2.2)), (9, .val (i64 s34.2)), (85, .val (i64 ((l28.set s3.2.1.toNat v32).length : Int))), (86, .val (i64 s34.2))] rfl ?_ ?_
    · simp <;> simp [ieq, ilt, ile]
    -- region 15
    obtain ⟨x43, hx43, hx38⟩ := bind_some hx38
    refine VW.cut [(0, .val (i64 a0)), (5, .ref 5 [] false (dM s34.1)), (6, .val (i64 s3.2.1)), (7, .val (i64 s3.2.2)), (9, .val (i64 s34.2)), (85, .val (i64 ((l28.set s3.2.1.toNat v32).length : Int))), (86, .val (i64 s34.2)), (101, .val (.bool x43))] ?_ fun hy => ?_
    rotate_left
    · clear hx38
      by_cases hp40 : ¬ s34.2 = s3.2.1
      · rw [if_pos hp40] at hx43
        have hp40b : ieq s34.2 s3.2.1 = false := by simpa [ieq, ilt, ile] using hp40
        have hp40s := hp40b
        try simp at hp40s
        obtain ⟨v41, hv41, hx43⟩ := bind_some hx43
        obtain ⟨hv41a, hv41b, hv41c, hv41d⟩ := idx_some hv41
        obtain ⟨v42, hv42, hx43⟩ := bind_some hx43
        obtain ⟨hv42a, hv42b, hv42c, hv42d⟩ := idx_some hv42
        cases hx43
        refine VW.ws tau_ok Sound.none [some 89, some 90, some 91, some 92, some 93, some 94, some 95, some 96, some 97, some 98, some 99, some 100, some 101] _ rfl ?_ hy
        simp [hp40b, hp40s, hv41a, hv41b, hv41c, hv41d, hv42a, hv42b, hv42c, hv42d] <;> simp [ieq, ilt, ile]
      · rw [if_neg hp40] at hx43
        have hp40b : ieq s34.2 s3.2.1 = true := by simpa [ieq, ilt, ile] using hp40
        have hp40s := hp40b
        try simp at hp40s
        cases hx43
        refine VW.ws tau_ok Sound.none [some 89, some 90, some 91, some 92, some 93, some 94, some 95, some 96, some 97, some 98, some 99, some 100, some 101] _ rfl ?_ hy
        simp [hp40b, hp40s] <;> simp [ieq, ilt, ile]
    refine VW.cond rfl (fun hb44 => ?_) (fun hb44 => ?_)
    rotate_left
    ·
      replace hb44 : ¬ (x43 = true) := by simpa [ieq, ilt, ile] using hb44
      rw [if_neg hb44] at hx38
      refine VW.skip ?_
      cases hx38
      exact Fits.of rfl
    replace hb44 : x43 = true := by simpa [ieq, ilt, ile] using hb44
    rw [if_pos hb44] at hx38
    -- region 16
    obtain ⟨v45, hv45, hx38⟩ := bind_some hx38
    obtain ⟨hv45a, hv45b, hv45c, hv45d⟩ := idx_some hv45
    obtain ⟨v46, hv46, hx38⟩ := bind_some hx38
    obtain ⟨hv46a, hv46b, hv46c, hv46d⟩ := idx_some hv46
    obtain ⟨v47, hv47, hx38⟩ := bind_some hx38
    obtain ⟨hv47a, hv47b, hv47c, hv47d⟩ := idx_some hv47
    obtain ⟨v48, hv48, hx38⟩ := bind_some hx38
    refine VW.wdr tau_ok (Sound.none.add 121 (i_field_plus_ok hv48) rfl) try_mixed [some 102, some 103, some 104, some 105, some 106, some 107, some 108, some 109, some 110, some 111, some 112, some 113, some 114, some 115, some 116, some 117, some 118, some 119, some 120, some 121, some 122, none] [(0, .val (i64 a0)), (5, .ref 5 [] false (dM (s34.1.set s34.2.toNat v48))), (6, .val (i64 s3.2.1)), (7, .val (i64 s3.2.2)), (85, .val (i64 ((l28.set s3.2.1.toNat v32).length : Int))), (86, .val (i64 s34.2))] 21 rfl (by kernel_rfl) (by rfl) ?_ ?_
    · simp [hv45a, hv45b, hv45c, hv45d, hv46a, hv46b, hv46c, hv46d, hv47a, hv47b, hv47c, hv47d] <;> simp [ieq, ilt, ile]
    cases hx38
    exact Fits.of rfl
  refine VW.block ?_
  refine VW.loopF (i_field_basis_L1 s3) (fun s15 => [(0, .val (i64 a0)), (5, .ref 5 [] false (dM s3.1)), (6, .val (i64 s3.2.1)), (7, .val (i64 s3.2.2)), (8, .val (i64 s15))]) hx15 (Fits.of rfl) ?_
  clear hx15
  intro s15 ox15 hx15o hx15b
  unfold i_field_basis_L1 at hx15o
  refine VW.sqc fun K17 hK17 hCK17 => ?_
  -- region 7
  obtain ⟨x21, hx21, hx15o⟩ := bind_some hx15o
  refine VW.cut [(0, .val (i64 a0)), (5, .ref 5 [] false (dM s3.1)), (6, .val (i64 s3.2.1)), (7, .val (i64 s3.2.2)), (8, .val (i64 s15)), (45, .val (.bool x21))] ?_ fun hy => ?_
  rotate_left
  · clear hx15o
    by_cases hp18 : s15 < (s3.1.length : Int)
    · rw [if_pos hp18] at hx21
      have hp18b : ilt s15 (s3.1.length : Int) = true := by simpa [ieq, ilt, ile] using hp18
      have hp18s := hp18b
      try simp at hp18s
      obtain ⟨v19, hv19, hx21⟩ := bind_some hx21
      obtain ⟨hv19a, hv19b, hv19c, hv19d⟩ := idx_some hv19
      obtain ⟨v20, hv20, hx21⟩ := bind_some hx21
      obtain ⟨hv20a, hv20b, hv20c, hv20d⟩ := idx_some hv20
      cases hx21
      refine VW.ws tau_ok Sound.none [some 32, some 33, some 34, some 35, some 36, some 37, some 38, some 39, some 40, some 41, some 42, some 43, some 44, some 45] _ rfl ?_ hy
      simp [hp18b, hp18s, hv19a, hv19b, hv19c, hv19d, hv20a, hv20b, hv20c, hv20d] <;> simp [ieq, ilt, ile]
    · rw [if_neg hp18] at hx21
      have hp18b : ilt s15 (s3.1.length : Int) = false := by simpa [ieq, ilt, ile] using hp18
      have hp18s := hp18b
      try simp at hp18s
      cases hx21
      refine VW.ws tau_ok Sound.none [some 32, some 33, some 34, some 35, some 36, some 37, some 38, some 39, some 40, some 41, some 42, some 43, some 44, some 45] _ rfl ?_ hy
      simp [hp18b, hp18s] <;> simp [ieq, ilt, ile]
  refine VW.cond rfl (fun hb22 => ?_) (fun hb22 => ?_)
  rotate_left
  ·
    replace hb22 : ¬ (x21 = true) := by simpa [ieq, ilt, ile] using hb22
    rw [if_neg hb22] at hx15o
    refine VW.exit ?_
    cases hx15o
    have hq := hx15b _ rfl
    subst hq
    exact Fits.of rfl
  replace hb22 : x21 = true := by simpa [ieq, ilt, ile] using hb22
  rw [if_pos hb22] at hx15o
  refine VW.skip ?_
  refine hK17 _ ?_
  refine VW.block ?_
  -- region 8
  refine VW.wr tau_ok Sound.none [some 46, some 47, some 8] [(0, .val (i64 a0)), (5, .ref 5 [] false (dM s3.1)), (6, .val (i64 s3.2.1)), (7, .val (i64 s3.2.2)), (8, .val (i64 (w64 (s15 + 1))))] rfl ?_ ?_
  · simp <;> simp [ieq, ilt, ile]
  cases hx15o
  exact ⟨_, rfl, Fits.of rfl⟩

theorem i_lead_ok {a0 : List Int} {r : Int} (h : i_lead a0 = some r) :
    VCall Try.prog 188 [dI a0] [.sc (i64 r)] := by
  unfold i_lead at h
  refine VCall.enter Try.call188 Try.func188 rfl 18 Try.ntmps188 (by simp) [.tmp 2] rfl ?_
  show VW _ _ _ (mk [(0, .val (dI a0))]) _
  -- region 0
  refine VW.ws tau_ok Sound.none [some 2] [(0, .val (dI a0))] rfl ?_ ?_
  · simp <;> simp [ieq, ilt, ile]
  -- region 1
  refine VW.ws tau_ok Sound.none [some 3] [(0, .val (dI a0)), (3, .val (i64 0))] rfl ?_ ?_
  · simp <;> simp [ieq, ilt, ile]
  refine VW.sqc fun K1 hK1 hCK1 => ?_
  obtain ⟨x2, hx2, h⟩ := bind_some h
  refine VW.tlE [(3, .val (i64 x2))] (hCK1) ?_ ?_
  · clear hx2
    refine hK1 _ ?_
    -- region 4
    refine VW.ws tau_ok Sound.none [some 17, some 2] [(2, .val (i64 x2))] rfl ?_ ?_
    · simp <;> simp [ieq, ilt, ile]
    cases h
    refine VW.ret ?_
    simp [Post, PostM, PostC, PostC2, Nx, Bk]
  refine VW.block ?_
  refine VW.loopF (i_lead_L0 a0) (fun s2 => [(0, .val (dI a0)), (3, .val (i64 s2))]) hx2 (Fits.of rfl) ?_
  clear hx2
  intro s2 ox2 hx2o hx2b
  unfold i_lead_L0 at hx2o
  refine VW.sqc fun K4 hK4 hCK4 => ?_
  -- region 2
  obtain ⟨x7, hx7, hx2o⟩ := bind_some hx2o
  refine VW.cut [(0, .val (dI a0)), (3, .val (i64 s2)), (14, .val (.bool x7))] ?_ fun hy => ?_
  rotate_left
  · clear hx2o
    by_cases hp5 : s2 < (a0.length : Int)
    · rw [if_pos hp5] at hx7
      have hp5b : ilt s2 (a0.length : Int) = true := by simpa [ieq, ilt, ile] using hp5
      have hp5s := hp5b
      try simp at hp5s
      obtain ⟨v6, hv6, hx7⟩ := bind_some hx7
      obtain ⟨hv6a, hv6b, hv6c, hv6d⟩ := idx_some hv6
      cases hx7
      refine VW.ws tau_ok Sound.none [some 4, some 5, some 6, some 7, some 8, some 9, some 10, some 11, some 12, some 13, some 14] _ rfl ?_ hy
      simp [hp5b, hp5s, hv6a, hv6b, hv6c, hv6d] <;> simp [ieq, ilt, ile]
    · rw [if_neg hp5] at hx7
      have hp5b : ilt s2 (a0.length : Int) = false := by simpa [ieq, ilt, ile] using hp5
      have hp5s := hp5b
      try simp at hp5s
      cases hx7
      refine VW.ws tau_ok Sound.none [some 4, some 5, some 6, some 7, some 8, some 9, some 10, some 11, some 12, some 13, some 14] _ rfl ?_ hy
      simp [hp5b, hp5s] <;> simp [ieq, ilt, ile]
  refine VW.cond rfl (fun hb8 => ?_) (fun hb8 => ?_)
  rotate_left
  ·
    replace hb8 : ¬ (x7 = true) := by simpa [ieq, ilt, ile] using hb8
    rw [if_neg hb8] at hx2o
    refine VW.exit ?_
    cases hx2o
    have hq := hx2b _ rfl
    subst hq
    exact Fits.of rfl
  replace hb8 : x7 = true := by simpa [ieq, ilt, ile] using hb8
  rw [if_pos hb8] at hx2o
  refine VW.skip ?_
  refine hK4 _ ?_
  refine VW.block ?_
  -- region 3
  refine VW.wr tau_ok Sound.none [some 15, some 16, some 3] [(0, .val (dI a0)), (3, .val (i64 (w64 (s2 + 1))))] rfl ?_ ?_
  · simp <;> simp [ieq, ilt, ile]
  cases hx2o
  exact ⟨_, rfl, Fits.of rfl⟩

theorem i_field_solve_ok {a0 : Int} {a1 : List (List Int)} {a2 : List Int} {r : (List Int) × Bool} (h : i_field_solve a0 a1 a2 = some r) :
    VCall Try.prog 116 [i64 a0, dM a1, dI a2] [.own true (dI r.1), .sc (.bool r.2)] := by
  unfold i_field_solve at h
  refine VCall.enter Try.call116 Try.func116 rfl 64 Try.ntmps116 (by simp) [.tmp 6, .tmp 7] rfl ?_
  show VW _ _ _ (mk [(0, .val (i64 a0)), (1, .val (dM a1)), (2, .val (dI a2))]) _
  -- region 0
  refine VW.ws tau_ok Sound.none [some 6, some 7] [(0, .val (i64 a0)), (1, .val (dM a1)), (2, .val (dI a2))] rfl ?_ ?_
  · simp <;> simp [ieq, ilt, ile]
  -- region 1
  obtain ⟨v1, hv1, h⟩ := bind_some h
  obtain ⟨hv1a, hv1b, hv1c, hv1d⟩ := idx_some hv1
  replace hv1b : 0 < a1.length := hv1b
  replace hv1c : a1[0]? = some v1 := hv1c
  replace hv1d : ∀ h, a1[0]'h = v1 := hv1d
  refine VW.ws tau_ok Sound.none [some 16, some 17, some 18, some 19, some 20, some 8, some 9] [(0, .val (i64 a0)), (1, .val (dM a1)), (2, .val (dI a2)), (8, .val (i64 (v1.length : Int))), (9, .ref 9 [] true (dM []))] rfl ?_ ?_
  · simp [hv1a, hv1b, hv1c, hv1d] <;> simp [ieq, ilt, ile]
  refine VW.sqc fun K2 hK2 hCK2 => ?_
  -- region 2
  refine VW.ws tau_ok Sound.none [some 21, some 22, some 23] [(0, .val (i64 a0)), (2, .val (dI a2)), (8, .val (i64 (v1.length : Int))), (9, .ref 9 [] true (dM [])), (21, .val (dM a1)), (22, .val (i64 (a1.length : Int))), (23, .val (i64 0))] rfl ?_ ?_
  · simp <;> simp [ieq, ilt, ile]
  obtain ⟨x3, hx3, h⟩ := bind_some h
  refine VW.tlE [(0, .val (i64 a0)), (8, .val (i64 (v1.length : Int))), (9, .ref 9 [] true (dM x3))] (hCK2) ?_ ?_
  · clear hx3
    refine hK2 _ ?_
    -- region 7
    obtain ⟨hc13, h⟩ := chk_some h
    have hc13s := hc13
    try simp at hc13s
    refine VW.ws tau_ok Sound.none [some 40, some 41, some 12] [(0, .val (i64 a0)), (8, .val (i64 (v1.length : Int))), (9, .ref 9 [] true (dM x3)), (12, .ref 12 [] true (dI (List.replicate (v1.length : Int).toNat 0)))] rfl ?_ ?_
    · simp [hc13, hc13s] <;> simp [ieq, ilt, ile]
    refine VW.sqc fun K14 hK14 hCK14 => ?_
    -- region 8
    obtain ⟨v15, hv15, h⟩ := bind_some h
    refine VW.ws tau_ok (Sound.none.add 44 (i_field_basis_ok hv15) rfl) [some 42, some 43, some 44, some 45, some 46] [(8, .val (i64 (v1.length : Int))), (12, .ref 12 [] true (dI (List.replicate (v1.length : Int).toNat 0))), (44, .ref 44 [] false (dM v15)), (45, .val (i64 (v15.length : Int))), (46, .val (i64 0))] rfl ?_ ?_
    · simp <;> simp [ieq, ilt, ile]
    obtain ⟨x16, hx16, h⟩ := bind_some h
    refine VW.tlO (fun y18 => [(12, .ref 12 [] true (dI y18))]) x16 (hCK14) ?_ ?_
    · clear hx16
      rintro y18 rfl
      dsimp only at h
      refine hK14 _ ?_
      -- region 16
      refine VW.ws tau_ok Sound.none [some 63, some 6, some 7] [(6, .ref 6 [] true (dI y18)), (7, .val (.bool true))] rfl ?_ ?_
      · simp <;> simp [ieq, ilt, ile]
      cases h
      refine VW.ret ?_
      simp [Post, PostM, PostC, PostC2, Nx, Bk]
    refine VW.block ?_
    refine VW.loopF (i_field_solve_L1 v1 v15) (fun s16 => [(8, .val (i64 (v1.length : Int))), (12, .ref 12 [] true (dI s16.1)), (44, .ref 44 [] false (dM v15)), (45, .val (i64 (v15.length : Int))), (46, .val (i64 s16.2))]) hx16 (Fits.of rfl) ?_
    clear hx16
    intro s16 ox16 hx16o hx16b
    unfold i_field_solve_L1 at hx16o
    -- region 9
    refine VW.ws tau_ok Sound.none [some 47] [(8, .val (i64 (v1.length : Int))), (12, .ref 12 [] true (dI s16.1)), (44, .ref 44 [] false (dM v15)), (45, .val (i64 (v15.length : Int))), (46, .val (i64 s16.2)), (47, .val (.bool (ilt s16.2 (v15.length : Int))))] rfl ?_ ?_
    · simp <;> simp [ieq, ilt, ile]
    refine VW.sqc fun K19 hK19 hCK19 => ?_
    refine VW.cond rfl (fun hb20 => ?_) (fun hb20 => ?_)
    rotate_left
    ·
      replace hb20 : ¬ (s16.2 < (v15.length : Int)) := by simpa [ieq, ilt, ile] using hb20
      rw [if_neg hb20] at hx16o
      refine VW.exit ?_
      cases hx16o
      have hq := hx16b _ rfl
      subst hq
      exact ⟨_, rfl, Fits.of rfl⟩
    replace hb20 : s16.2 < (v15.length : Int) := by simpa [ieq, ilt, ile] using hb20
    rw [if_pos hb20] at hx16o
    refine VW.skip ?_
    refine hK19 _ ?_
    refine VW.sqc fun K21 hK21 hCK21 => ?_
    refine VW.block ?_
    -- region 10
    obtain ⟨v22, hv22, hx16o⟩ := bind_some hx16o
    obtain ⟨hv22a, hv22b, hv22c, hv22d⟩ := idx_some hv22
    refine VW.ws tau_ok Sound.none [some 48, some 49, some 14] [(8, .val (i64 (v1.length : Int))), (12, .ref 12 [] true (dI s16.1)), (14, .val (dI v22)), (44, .ref 44 [] false (dM v15)), (45, .val (i64 (v15.length : Int))), (46, .val (i64 s16.2))] rfl ?_ ?_
    · simp [hv22a, hv22b, hv22c, hv22d] <;> simp [ieq, ilt, ile]
    -- region 11
    obtain ⟨v23, hv23, hx16o⟩ := bind_some hx16o
    refine VW.ws tau_ok (Sound.none.add 51 (i_lead_ok hv23) rfl) [some 50, some 51, some 15] [(8, .val (i64 (v1.length : Int))), (12, .ref 12 [] true (dI s16.1)), (14, .val (dI v22)), (15, .val (i64 v23)), (44, .ref 44 [] false (dM v15)), (45, .val (i64 (v15.length : Int))), (46, .val (i64 s16.2))] rfl ?_ ?_
    · simp <;> simp [ieq, ilt, ile]
    refine VW.sqc fun K24 hK24 hCK24 => ?_
    -- region 12
    refine VW.ws tau_ok Sound.none [some 52, some 53, some 54] [(8, .val (i64 (v1.length : Int))), (12, .ref 12 [] true (dI s16.1)), (14, .val (dI v22)), (15, .val (i64 v23)), (44, .ref 44 [] false (dM v15)), (45, .val (i64 (v15.length : Int))), (46, .val (i64 s16.2)), (54, .val (.bool (ieq v23 (v1.length : Int))))] rfl ?_ ?_
    · simp <;> simp [ieq, ilt, ile]
    refine VW.cond rfl (fun hb25 => ?_) (fun hb25 => ?_)
    ·
      replace hb25 : v23 = (v1.length : Int) := by simpa [ieq, ilt, ile] using hb25
      rw [if_pos hb25] at hx16o
      -- region 13
      refine VW.ws tau_ok Sound.none [some 6, some 7] [(6, .ref 6 [] true (.list [])), (7, .val (.bool false))] rfl ?_ ?_
      · simp <;> simp [ieq, ilt, ile]
      cases hx16o
      have hq := hx16b _ rfl
      subst hq
      dsimp only at h
      cases h
      refine VW.ret ?_
      simp [Post, PostM, PostC, PostC2, Nx, Bk]
    replace hb25 : ¬ (v23 = (v1.length : Int)) := by simpa [ieq, ilt, ile] using hb25
    rw [if_neg hb25] at hx16o
    refine VW.skip ?_
    refine hK24 _ ?_
    -- region 14
    obtain ⟨v26, hv26, hx16o⟩ := bind_some hx16o
    obtain ⟨hv26a, hv26b, hv26c, hv26d⟩ := idx_some hv26
    replace hv26b : v1.length < v22.length := hv26b
    replace hv26c : v22[v1.length]? = some v26 := hv26c
    replace hv26d : ∀ h, v22[v1.length]'h = v26 := hv26d
    obtain ⟨v27, hv27, hx16o⟩ := bind_some hx16o
    obtain ⟨hv27a, hv27b, hv27c, hv27d⟩ := idx_some hv27
    refine VW.wr tau_ok Sound.none [some 55, some 56, some 57, some 58, some 59, some 60, some 61, none] [(8, .val (i64 (v1.length : Int))), (12, .ref 12 [] true (dI (s16.1.set v23.toNat v26))), (44, .ref 44 [] false (dM v15)), (45, .val (i64 (v15.length : Int))), (46, .val (i64 s16.2))] rfl ?_ ?_
    · simp [hv26a, hv26b, hv26c, hv26d, hv27a, hv27b, hv27c, hv27d] <;> simp [ieq, ilt, ile]
    refine hK21 _ ?_
    -- region 15
    refine VW.wr tau_ok Sound.none [some 62, some 46] [(8, .val (i64 (v1.length : Int))), (12, .ref 12 [] true (dI (s16.1.set v23.toNat v26))), (44, .ref 44 [] false (dM v15)), (45, .val (i64 (v15.length : Int))), (46, .val (i64 (w64 (s16.2 + 1))))] rfl ?_ ?_
    · simp <;> simp [ieq, ilt, ile]
    cases hx16o
    exact ⟨_, rfl, Fits.of rfl⟩
  refine VW.block ?_
  refine VW.loopF (i_field_solve_L0 a1 a2) (fun s3 => [(0, .val (i64 a0)), (2, .val (dI a2)), (8, .val (i64 (v1.length : Int))), (9, .ref 9 [] true (dM s3.1)), (21, .val (dM a1)), (22, .val (i64 (a1.length : Int))), (23, .val (i64 s3.2))]) hx3 (Fits.of rfl) ?_
  clear hx3
  intro s3 ox3 hx3o hx3b
  unfold i_field_solve_L0 at hx3o
  -- region 3
  refine VW.ws tau_ok Sound.none [some 24] [(0, .val (i64 a0)), (2, .val (dI a2)), (8, .val (i64 (v1.length : Int))), (9, .ref 9 [] true (dM s3.1)), (21, .val (dM a1)), (22, .val (i64 (a1.length : Int))), (23, .val (i64 s3.2)), (24, .val (.bool (ilt s3.2 (a1.length : Int))))] rfl ?_ ?_
  · simp <;> simp [ieq, ilt, ile]
  refine VW.sqc fun K5 hK5 hCK5 => ?_
  refine VW.cond rfl (fun hb6 => ?_) (fun hb6 => ?_)
  rotate_left
  ·
    replace hb6 : ¬ (s3.2 < (a1.length : Int)) := by simpa [ieq, ilt, ile] using hb6
    rw [if_neg hb6] at hx3o
    refine VW.exit ?_
    cases hx3o
    have hq := hx3b _ rfl
    subst hq
    exact Fits.of rfl
  replace hb6 : s3.2 < (a1.length : Int) := by simpa [ieq, ilt, ile] using hb6
  rw [if_pos hb6] at hx3o
  refine VW.skip ?_
  refine hK5 _ ?_
  refine VW.sqc fun K7 hK7 hCK7 => ?_
  refine VW.block ?_
  -- region 4
  obtain ⟨v8, hv8, hx3o⟩ := bind_some hx3o
  obtain ⟨hv8a, hv8b, hv8c, hv8d⟩ := idx_some hv8
  refine VW.ws tau_ok Sound.none [some 25, some 26, some 27, some 10, some 11] [(0, .val (i64 a0)), (2, .val (dI a2)), (8, .val (i64 (v1.length : Int))), (9, .ref 9 [] true (dM s3.1)), (10, .val (i64 s3.2)), (11, .val (dI v8)), (21, .val (dM a1)), (22, .val (i64 (a1.length : Int))), (23, .val (i64 s3.2))] rfl ?_ ?_
  · simp [hv8a, hv8b, hv8c, hv8d] <;> simp [ieq, ilt, ile]
  -- region 5
  obtain ⟨v9, hv9, hx3o⟩ := bind_some hx3o
  obtain ⟨v10, hv10, hx3o⟩ := bind_some hx3o
  obtain ⟨hv10a, hv10b, hv10c, hv10d⟩ := idx_some hv10
  obtain ⟨hc11, hx3o⟩ := chk_some hx3o
  have hc11s := hc11
  try simp at hc11s
  obtain ⟨hc12, hx3o⟩ := chk_some hx3o
  have hc12s := hc12
  try simp at hc12s
  refine VW.wdr tau_ok (Sound.none.add 30 (g_slices_Clone_LI_I_ok hv9) rfl) try_mixed [some 28, some 29, some 30, some 31, some 32, some 33, some 34, some 35, some 36, some 37, some 38, some 9] [(0, .val (i64 a0)), (2, .val (dI a2)), (8, .val (i64 (v1.length : Int))), (9, .ref 9 [] true (dM (s3.1 ++ [v9 ++ [v10]]))), (21, .val (dM a1)), (22, .val (i64 (a1.length : Int))), (23, .val (i64 s3.2))] 8 rfl (by kernel_rfl) (by rfl) ?_ ?_
  · simp [hv10a, hv10b, hv10c, hv10d, hc11, hc11s, hc12, hc12s] <;> simp [ieq, ilt, ile]
  refine hK7 _ ?_
  -- region 6
  refine VW.wr tau_ok Sound.none [some 39, some 23] [(0, .val (i64 a0)), (2, .val (dI a2)), (8, .val (i64 (v1.length : Int))), (9, .ref 9 [] true (dM (s3.1 ++ [v9 ++ [v10]]))), (21, .val (dM a1)), (22, .val (i64 (a1.length : Int))), (23, .val (i64 (w64 (s3.2 + 1))))] rfl ?_ ?_
  · simp <;> simp [ieq, ilt, ile]
  cases hx3o
  exact ⟨_, rfl, Fits.of rfl⟩
end Go.Vam
