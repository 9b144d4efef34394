import Derived.Test.YtjkknabmfdodeaaR4T
import Derived.Test.YtjkknabmfdodeaaFnM
import Derived.Test.YtjkknabmfdodeaaR4WW1
namespace Go.Vam
open Go Go.RowKit Go.Proofs
set_option maxRecDepth 100000
set_option linter.unusedSimpArgs false
set_option linter.unusedVariables false

theorem i_field_dot_ok {a0 : Int} {a1 : List Int} {a2 : List Int} {r : Int} (h : i_field_dot a0 a1 a2 = some r) :
    VCall Try.prog 215 [i64 a0, dI a1, dI a2] [.sc (i64 r)] := by
  unfold i_field_dot at h
  refine VCall.enter Try.call215 Try.func215 rfl 29 Try.ntmps215 (by simp) [.tmp 6] rfl ?_
  show VW _ _ _ (mk [(0, .val (i64 a0)), (1, .val (dI a1)), (2, .val (dI a2))]) _
  -- region 0
  refine VW.ws tau_ok Sound.none [some 6] [(0, .val (i64 a0)), (1, .val (dI a1)), (2, .val (dI a2))] rfl ?_ ?_
  · simp <;> simp [ieq, ilt, ile]
  -- region 1
  refine VW.ws tau_ok Sound.none [some 7] [(0, .val (i64 a0)), (1, .val (dI a1)), (2, .val (dI a2)), (7, .val (i64 0))] rfl ?_ ?_
  · simp <;> simp [ieq, ilt, ile]
  refine VW.sqc fun K1 hK1 hCK1 => ?_
  -- region 2
  refine VW.ws tau_ok Sound.none [some 10, some 11, some 12] [(0, .val (i64 a0)), (2, .val (dI a2)), (7, .val (i64 0)), (10, .val (dI a1)), (11, .val (i64 (a1.length : Int))), (12, .val (i64 0))] rfl ?_ ?_
  · simp <;> simp [ieq, ilt, ile]
  obtain ⟨x2, hx2, h⟩ := bind_some h
  refine VW.tlE [(0, .val (i64 a0)), (7, .val (i64 x2))] (hCK1) ?_ ?_
  · clear hx2
    refine hK1 _ ?_
    -- region 7
    obtain ⟨v9, hv9, h⟩ := bind_some h
    refine VW.ws tau_ok (Sound.none.add 28 (i_field_num_ok hv9) rfl) [some 26, some 27, some 28, some 6] [(6, .val (i64 v9))] rfl ?_ ?_
    · simp <;> simp [ieq, ilt, ile]
    cases h
    refine VW.ret ?_
    simp [Post, PostM, PostC, PostC2, Nx, Bk]
  refine VW.block ?_
  refine VW.loopF (i_field_dot_L0 a1 a2) (fun s2 => [(0, .val (i64 a0)), (2, .val (dI a2)), (7, .val (i64 s2.1)), (10, .val (dI a1)), (11, .val (i64 (a1.length : Int))), (12, .val (i64 s2.2))]) hx2 (Fits.of rfl) ?_
  clear hx2
  intro s2 ox2 hx2o hx2b
  unfold i_field_dot_L0 at hx2o
  -- region 3
  refine VW.ws tau_ok Sound.none [some 13] [(0, .val (i64 a0)), (2, .val (dI a2)), (7, .val (i64 s2.1)), (10, .val (dI a1)), (11, .val (i64 (a1.length : Int))), (12, .val (i64 s2.2)), (13, .val (.bool (ilt s2.2 (a1.length : Int))))] rfl ?_ ?_
  · simp <;> simp [ieq, ilt, ile]
  refine VW.sqc fun K4 hK4 hCK4 => ?_
  refine VW.cond rfl (fun hb5 => ?_) (fun hb5 => ?_)
  rotate_left
  ·
    replace hb5 : ¬ (s2.2 < (a1.length : Int)) := by simpa [ieq, ilt, ile] using hb5
    rw [if_neg hb5] at hx2o
    refine VW.exit ?_
    cases hx2o
    have hq := hx2b _ rfl
    subst hq
    exact Fits.of rfl
  replace hb5 : s2.2 < (a1.length : Int) := by simpa [ieq, ilt, ile] using hb5
  rw [if_pos hb5] at hx2o
  refine VW.skip ?_
  refine hK4 _ ?_
  refine VW.sqc fun K6 hK6 hCK6 => ?_
  refine VW.block ?_
  -- region 4
  obtain ⟨v7, hv7, hx2o⟩ := bind_some hx2o
  obtain ⟨hv7a, hv7b, hv7c, hv7d⟩ := idx_some hv7
  refine VW.ws tau_ok Sound.none [some 14, some 15, some 16, some 8, some 9] [(0, .val (i64 a0)), (2, .val (dI a2)), (7, .val (i64 s2.1)), (8, .val (i64 s2.2)), (9, .val (i64 v7)), (10, .val (dI a1)), (11, .val (i64 (a1.length : Int))), (12, .val (i64 s2.2))] rfl ?_ ?_
  · simp [hv7a, hv7b, hv7c, hv7d] <;> simp [ieq, ilt, ile]
  -- region 5
  obtain ⟨v8, hv8, hx2o⟩ := bind_some hx2o
  obtain ⟨hv8a, hv8b, hv8c, hv8d⟩ := idx_some hv8
  refine VW.wr tau_ok Sound.none [some 17, some 18, some 19, some 20, some 21, some 22, some 23, some 24, some 7] [(0, .val (i64 a0)), (2, .val (dI a2)), (7, .val (i64 (w64 (s2.1 + (w64 (v7 * v8)))))), (10, .val (dI a1)), (11, .val (i64 (a1.length : Int))), (12, .val (i64 s2.2))] rfl ?_ ?_
  · simp [hv8a, hv8b, hv8c, hv8d] <;> simp [ieq, ilt, ile]
  refine hK6 _ ?_
  -- region 6
  refine VW.wr tau_ok Sound.none [some 25, some 12] [(0, .val (i64 a0)), (2, .val (dI a2)), (7, .val (i64 (w64 (s2.1 + (w64 (v7 * v8)))))), (10, .val (dI a1)), (11, .val (i64 (a1.length : Int))), (12, .val (i64 (w64 (s2.2 + 1))))] rfl ?_ ?_
  · simp <;> simp [ieq, ilt, ile]
  cases hx2o
  exact ⟨_, rfl, Fits.of rfl⟩

theorem i_field_apply_ok {a0 : Int} {a1 : List (List Int)} {a2 : List Int} {r : List Int} (h : i_field_apply a0 a1 a2 = some r) :
    VCall Try.prog 146 [i64 a0, dM a1, dI a2] [.own true (dI r)] := by
  unfold i_field_apply at h
  refine VCall.enter Try.call146 Try.func146 rfl 26 Try.ntmps146 (by simp) [.tmp 6] rfl ?_
  show VW _ _ _ (mk [(0, .val (i64 a0)), (1, .val (dM a1)), (2, .val (dI a2))]) _
  -- region 0
  refine VW.ws tau_ok Sound.none [some 6] [(0, .val (i64 a0)), (1, .val (dM a1)), (2, .val (dI a2))] rfl ?_ ?_
  · simp <;> simp [ieq, ilt, ile]
  -- region 1
  refine VW.ws tau_ok Sound.none [some 10, some 7] [(0, .val (i64 a0)), (1, .val (dM a1)), (2, .val (dI a2)), (7, .ref 7 [] true (dI []))] rfl ?_ ?_
  · simp <;> simp [ieq, ilt, ile]
  refine VW.sqc fun K1 hK1 hCK1 => ?_
  -- region 2
  refine VW.ws tau_ok Sound.none [some 11, some 12, some 13] [(0, .val (i64 a0)), (2, .val (dI a2)), (7, .ref 7 [] true (dI [])), (11, .val (dM a1)), (12, .val (i64 (a1.length : Int))), (13, .val (i64 0))] rfl ?_ ?_
  · simp <;> simp [ieq, ilt, ile]
  obtain ⟨x2, hx2, h⟩ := bind_some h
  refine VW.tlE [(7, .ref 7 [] true (dI x2))] (hCK1) ?_ ?_
  · clear hx2
    refine hK1 _ ?_
    -- region 7
    refine VW.ws tau_ok Sound.none [some 25, some 6] [(6, .ref 6 [] true (dI x2))] rfl ?_ ?_
    · simp <;> simp [ieq, ilt, ile]
    cases h
    refine VW.ret ?_
    simp [Post, PostM, PostC, PostC2, Nx, Bk]
  refine VW.block ?_
  refine VW.loopF (i_field_apply_L0 a0 a1 a2) (fun s2 => [(0, .val (i64 a0)), (2, .val (dI a2)), (7, .ref 7 [] true (dI s2.1)), (11, .val (dM a1)), (12, .val (i64 (a1.length : Int))), (13, .val (i64 s2.2))]) hx2 (Fits.of rfl) ?_
  clear hx2
  intro s2 ox2 hx2o hx2b
  unfold i_field_apply_L0 at hx2o
  -- region 3
  refine VW.ws tau_ok Sound.none [some 14] [(0, .val (i64 a0)), (2, .val (dI a2)), (7, .ref 7 [] true (dI s2.1)), (11, .val (dM a1)), (12, .val (i64 (a1.length : Int))), (13, .val (i64 s2.2)), (14, .val (.bool (ilt s2.2 (a1.length : Int))))] rfl ?_ ?_
  · simp <;> simp [ieq, ilt, ile]
  refine VW.sqc fun K4 hK4 hCK4 => ?_
  refine VW.cond rfl (fun hb5 => ?_) (fun hb5 => ?_)
  rotate_left
  ·
    replace hb5 : ¬ (s2.2 < (a1.length : Int)) := by simpa [ieq, ilt, ile] using hb5
    rw [if_neg hb5] at hx2o
    refine VW.exit ?_
    cases hx2o
    have hq := hx2b _ rfl
    subst hq
    exact Fits.of rfl
  replace hb5 : s2.2 < (a1.length : Int) := by simpa [ieq, ilt, ile] using hb5
  rw [if_pos hb5] at hx2o
  refine VW.skip ?_
  refine hK4 _ ?_
  refine VW.sqc fun K6 hK6 hCK6 => ?_
  refine VW.block ?_
  -- region 4
  obtain ⟨v7, hv7, hx2o⟩ := bind_some hx2o
  obtain ⟨hv7a, hv7b, hv7c, hv7d⟩ := idx_some hv7
  refine VW.ws tau_ok Sound.none [some 15, some 16, some 9] [(0, .val (i64 a0)), (2, .val (dI a2)), (7, .ref 7 [] true (dI s2.1)), (9, .val (dI v7)), (11, .val (dM a1)), (12, .val (i64 (a1.length : Int))), (13, .val (i64 s2.2))] rfl ?_ ?_
  · simp [hv7a, hv7b, hv7c, hv7d] <;> simp [ieq, ilt, ile]
  -- region 5
  obtain ⟨v8, hv8, hx2o⟩ := bind_some hx2o
  obtain ⟨hc9, hx2o⟩ := chk_some hx2o
  have hc9s := hc9
  try simp at hc9s
  refine VW.wr tau_ok (Sound.none.add 21 (i_field_dot_ok hv8) rfl) [some 17, some 18, some 19, some 20, some 21, some 22, some 23, some 7] [(0, .val (i64 a0)), (2, .val (dI a2)), (7, .ref 7 [] true (dI (s2.1 ++ [v8]))), (11, .val (dM a1)), (12, .val (i64 (a1.length : Int))), (13, .val (i64 s2.2))] rfl ?_ ?_
  · simp [hc9, hc9s] <;> simp [ieq, ilt, ile]
  refine hK6 _ ?_
  -- region 6
  refine VW.wr tau_ok Sound.none [some 24, some 13] [(0, .val (i64 a0)), (2, .val (dI a2)), (7, .ref 7 [] true (dI (s2.1 ++ [v8]))), (11, .val (dM a1)), (12, .val (i64 (a1.length : Int))), (13, .val (i64 (w64 (s2.2 + 1))))] rfl ?_ ?_
  · simp <;> simp [ieq, ilt, ile]
  cases hx2o
  exact ⟨_, rfl, Fits.of rfl⟩

theorem i_field_times_ok {a0 : Int} {a1 : List (List Int)} {a2 : List (List Int)} {r : List (List Int)} (h : i_field_times a0 a1 a2 = some r) :
    VCall Try.prog 96 [i64 a0, dM a1, dM a2] [.own true (dM r)] := by
  unfold i_field_times at h
  refine VCall.enter Try.call96 Try.func96 rfl 29 Try.ntmps96 (by simp) [.tmp 6] rfl ?_
  show VW _ _ _ (mk [(0, .val (i64 a0)), (1, .val (dM a1)), (2, .val (dM a2))]) _
  -- region 0
  refine VW.ws tau_ok Sound.none [some 6] [(0, .val (i64 a0)), (1, .val (dM a1)), (2, .val (dM a2))] rfl ?_ ?_
  · simp <;> simp [ieq, ilt, ile]
  -- region 1
  obtain ⟨v1, hv1, h⟩ := bind_some h
  refine VW.ws tau_ok (Sound.none.add 12 (i_transpose_ok hv1) rfl) [some 11, some 12, some 13, some 7, some 8] [(0, .val (i64 a0)), (1, .val (dM a1)), (7, .ref 7 [] true (dM v1)), (8, .ref 8 [] true (dM []))] rfl ?_ ?_
  · simp <;> simp [ieq, ilt, ile]
  refine VW.sqc fun K2 hK2 hCK2 => ?_
  -- region 2
  refine VW.ws tau_ok Sound.none [some 14, some 15, some 16] [(0, .val (i64 a0)), (7, .ref 7 [] true (dM v1)), (8, .ref 8 [] true (dM [])), (14, .val (dM a1)), (15, .val (i64 (a1.length : Int))), (16, .val (i64 0))] rfl ?_ ?_
  · simp <;> simp [ieq, ilt, ile]
  obtain ⟨x3, hx3, h⟩ := bind_some h
  refine VW.tlE [(8, .ref 8 [] true (dM x3))] (hCK2) ?_ ?_
  · clear hx3
    refine hK2 _ ?_
    -- region 7
    refine VW.ws tau_ok Sound.none [some 28, some 6] [(6, .ref 6 [] true (dM x3))] rfl ?_ ?_
    · simp <;> simp [ieq, ilt, ile]
    cases h
    refine VW.ret ?_
    simp [Post, PostM, PostC, PostC2, Nx, Bk]
  refine VW.block ?_
  refine VW.loopF (i_field_times_L0 a0 a1 v1) (fun s3 => [(0, .val (i64 a0)), (7, .ref 7 [] true (dM v1)), (8, .ref 8 [] true (dM s3.1)), (14, .val (dM a1)), (15, .val (i64 (a1.length : Int))), (16, .val (i64 s3.2))]) hx3 (Fits.of rfl) ?_
  clear hx3
  intro s3 ox3 hx3o hx3b
  unfold i_field_times_L0 at hx3o
  -- region 3
  refine VW.ws tau_ok Sound.none [some 17] [(0, .val (i64 a0)), (7, .ref 7 [] true (dM v1)), (8, .ref 8 [] true (dM s3.1)), (14, .val (dM a1)), (15, .val (i64 (a1.length : Int))), (16, .val (i64 s3.2)), (17, .val (.bool (ilt s3.2 (a1.length : Int))))] rfl ?_ ?_
  · simp <;> simp [ieq, ilt, ile]
  refine VW.sqc fun K5 hK5 hCK5 => ?_
  refine VW.cond rfl (fun hb6 => ?_) (fun hb6 => ?_)
  rotate_left
  ·
    replace hb6 : ¬ (s3.2 < (a1.length : Int)) := by simpa [ieq, ilt, ile] using hb6
    rw [if_neg hb6] at hx3o
    refine VW.exit ?_
    cases hx3o
    have hq := hx3b _ rfl
    subst hq
    exact Fits.of rfl
  replace hb6 : s3.2 < (a1.length : Int) := by simpa [ieq, ilt, ile] using hb6
  rw [if_pos hb6] at hx3o
  refine VW.skip ?_
  refine hK5 _ ?_
  refine VW.sqc fun K7 hK7 hCK7 => ?_
  refine VW.block ?_
  -- region 4
  obtain ⟨v8, hv8, hx3o⟩ := bind_some hx3o
  obtain ⟨hv8a, hv8b, hv8c, hv8d⟩ := idx_some hv8
  refine VW.ws tau_ok Sound.none [some 18, some 19, some 10] [(0, .val (i64 a0)), (7, .ref 7 [] true (dM v1)), (8, .ref 8 [] true (dM s3.1)), (10, .val (dI v8)), (14, .val (dM a1)), (15, .val (i64 (a1.length : Int))), (16, .val (i64 s3.2))] rfl ?_ ?_
  · simp [hv8a, hv8b, hv8c, hv8d] <;> simp [ieq, ilt, ile]
  -- region 5
  obtain ⟨v9, hv9, hx3o⟩ := bind_some hx3o
  obtain ⟨hc10, hx3o⟩ := chk_some hx3o
  have hc10s := hc10
  try simp at hc10s
  refine VW.wr tau_ok (Sound.none.add 24 (i_field_apply_ok hv9) rfl) [some 20, some 21, some 22, some 23, some 24, some 25, some 26, some 8] [(0, .val (i64 a0)), (7, .ref 7 [] true (dM v1)), (8, .ref 8 [] true (dM (s3.1 ++ [v9]))), (14, .val (dM a1)), (15, .val (i64 (a1.length : Int))), (16, .val (i64 s3.2))] rfl ?_ ?_
  · simp [hc10, hc10s] <;> simp [ieq, ilt, ile]
  refine hK7 _ ?_
  -- region 6
  refine VW.wr tau_ok Sound.none [some 27, some 16] [(0, .val (i64 a0)), (7, .ref 7 [] true (dM v1)), (8, .ref 8 [] true (dM (s3.1 ++ [v9]))), (14, .val (dM a1)), (15, .val (i64 (a1.length : Int))), (16, .val (i64 (w64 (s3.2 + 1))))] rfl ?_ ?_
  · simp <;> simp [ieq, ilt, ile]
  cases hx3o
  exact ⟨_, rfl, Fits.of rfl⟩

theorem i_TimesTriple_ok {a0_0 : Int} {a0_1 : List Int} {a1_0 : List (List Int)} {a1_1 : List (List Int)} {a1_2 : List (List Int)} {a2_0 : List (List Int)} {a2_1 : List (List Int)} {a2_2 : List (List Int)} {r : ((List (List Int)) × (List (List Int)) × (List (List Int))) × Int} (h : i_TimesTriple a0_0 a0_1 a1_0 a1_1 a1_2 a2_0 a2_1 a2_2 = some r) :
    VCall Try.prog 26 [.agg [i64 a0_0, dI a0_1], .agg [dM a1_0, dM a1_1, dM a1_2], .agg [dM a2_0, dM a2_1, dM a2_2]] [.own true (.agg [dM r.1.1, dM r.1.2.1, dM r.1.2.2]), .sc (i64 r.2)] := by
  unfold i_TimesTriple at h
  refine VCall.enterC2 Try.call26 Try.func26 rfl 40 Try.ntmps26 (by simp) (tau_ok 39) 6 7 rfl ?_
  show VW _ _ _ (mk [(0, .val (.agg [i64 a0_0, dI a0_1])), (1, .val (.agg [dM a1_0, dM a1_1, dM a1_2])), (2, .val (.agg [dM a2_0, dM a2_1, dM a2_2]))]) _
  -- region 0
  refine VW.ws tau_ok Sound.none [some 3, some 4, some 5, some 6, some 7] [(3, .val (.ptr [i64 a0_0, dI a0_1])), (4, .val (.ptr [dM a1_0, dM a1_1, dM a1_2])), (5, .val (.ptr [dM a2_0, dM a2_1, dM a2_2])), (6, .ref 6 [] true (.ptr [dM [], dM [], dM []]))] rfl ?_ ?_
  · simp <;> simp [ieq, ilt, ile]
  refine VW.sqc fun K1 hK1 hCK1 => ?_
  -- region 1
  obtain ⟨v2, hv2, h⟩ := bind_some h
  refine VW.ws tau_ok (Sound.none.add 14 (i_checkTriples_ok hv2) rfl) [some 10, some 11, some 12, some 13, some 14, some 8] [(3, .val (.ptr [i64 a0_0, dI a0_1])), (4, .val (.ptr [dM a1_0, dM a1_1, dM a1_2])), (5, .val (.ptr [dM a2_0, dM a2_1, dM a2_2])), (6, .ref 6 [] true (.ptr [dM [], dM [], dM []])), (8, .val (i64 v2))] rfl ?_ ?_
  · simp <;> simp [ieq, ilt, ile]
  -- region 2
  refine VW.ws tau_ok Sound.none [some 15, some 16] [(3, .val (.ptr [i64 a0_0, dI a0_1])), (4, .val (.ptr [dM a1_0, dM a1_1, dM a1_2])), (5, .val (.ptr [dM a2_0, dM a2_1, dM a2_2])), (6, .ref 6 [] true (.ptr [dM [], dM [], dM []])), (8, .val (i64 v2)), (16, .val (.bool (!(ieq v2 0))))] rfl ?_ ?_
  · simp <;> simp [ieq, ilt, ile]
  refine VW.cond rfl (fun hb3 => ?_) (fun hb3 => ?_)
  ·
    replace hb3 : ¬ v2 = 0 := by simpa [ieq, ilt, ile] using hb3
    rw [if_pos hb3] at h
    -- region 3
    refine VW.ws tau_ok Sound.none [some 17, some 18, none, some 7] [(6, .ref 6 [] true (.ptr [dM [], dM [], dM []])), (7, .val (i64 v2))] rfl ?_ ?_
    · simp <;> simp [ieq, ilt, ile]
    cases h
    refine VW.ret ?_
    simp [Post, PostM, PostC, PostC2, Nx, Bk]
  replace hb3 : ¬ (¬ v2 = 0) := by simpa [ieq, ilt, ile] using hb3
  rw [if_neg hb3] at h
  refine VW.skip ?_
  refine hK1 _ ?_
  -- region 4
  obtain ⟨v4, hv4, h⟩ := bind_some h
  refine VW.ws tau_ok (Sound.none.add 20 (i_Doubling_field_ok hv4) rfl) [some 19, some 20, some 9] [(4, .val (.ptr [dM a1_0, dM a1_1, dM a1_2])), (5, .val (.ptr [dM a2_0, dM a2_1, dM a2_2])), (6, .ref 6 [] true (.ptr [dM [], dM [], dM []])), (9, .val (i64 v4))] rfl ?_ ?_
  · simp <;> simp [ieq, ilt, ile]
  -- region 5
  obtain ⟨v5, hv5, h⟩ := bind_some h
  obtain ⟨v6, hv6, h⟩ := bind_some h
  obtain ⟨v7, hv7, h⟩ := bind_some h
  refine VW.wds tau_ok (((Sound.none.add 26 (i_field_times_ok hv5) rfl).add 32 (i_field_times_ok hv6) rfl).add 38 (i_field_times_ok hv7) rfl) try_mixed [some 21, some 22, some 23, some 24, some 25, some 26, some 27, some 28, some 29, some 30, some 31, some 32, some 33, some 34, some 35, some 36, some 37, some 38, some 39, none, some 7] [(6, .ref 6 [] true (.ptr [dM v5, dM v6, dM v7])), (7, .val (i64 0))] 18 rfl (by kernel_rfl) (by rfl) ?_ ?_
  · simp <;> simp [ieq, ilt, ile]
  cases h
  refine VW.ret ?_
  simp [Post, PostM, PostC, PostC2, Nx, Bk]

theorem l_eqInt64S_ok {a0 : List Int} {a1 : List Int} {r : Bool} (h : l_eqInt64S a0 a1 = some r) :
    VCall Try.prog 34 [dI a0, dI a1] [.sc (.bool r)] := by
  unfold l_eqInt64S at h
  refine VCall.enter Try.call34 Try.func34 rfl 26 Try.ntmps34 (by simp) [.tmp 4] rfl ?_
  show VW _ _ _ (mk [(0, .val (dI a0)), (1, .val (dI a1))]) _
  -- region 0
  refine VW.ws tau_ok Sound.none [some 4] [(0, .val (dI a0)), (1, .val (dI a1))] rfl ?_ ?_
  · simp <;> simp [ieq, ilt, ile]
  refine VW.sqc fun K1 hK1 hCK1 => ?_
  -- region 1
  refine VW.ws tau_ok Sound.none [some 6, some 7, some 8, some 9, some 10] [(0, .val (dI a0)), (1, .val (dI a1)), (10, .val (.bool (!(ieq (a0.length : Int) (a1.length : Int)))))] rfl ?_ ?_
  · simp <;> simp [ieq, ilt, ile]
  refine VW.cond rfl (fun hb2 => ?_) (fun hb2 => ?_)
  ·
    replace hb2 : ¬ (a0.length : Int) = (a1.length : Int) := by simpa [ieq, ilt, ile] using hb2
    rw [if_pos hb2] at h
    -- region 2
    refine VW.ws tau_ok Sound.none [some 4] [(4, .val (.bool false))] rfl ?_ ?_
    · simp <;> simp [ieq, ilt, ile]
    cases h
    refine VW.ret ?_
    simp [Post, PostM, PostC, PostC2, Nx, Bk]
  replace hb2 : ¬ (¬ (a0.length : Int) = (a1.length : Int)) := by simpa [ieq, ilt, ile] using hb2
  rw [if_neg hb2] at h
  refine VW.skip ?_
  refine hK1 _ ?_
  refine VW.sqc fun K3 hK3 hCK3 => ?_
  -- region 3
  refine VW.ws tau_ok Sound.none [some 5] [(0, .val (dI a0)), (1, .val (dI a1)), (5, .val (i64 0))] rfl ?_ ?_
  · simp <;> simp [ieq, ilt, ile]
  obtain ⟨x4, hx4, h⟩ := bind_some h
  refine VW.tlO (fun y6 => []) x4 (hCK3) ?_ ?_
  · clear hx4
    rintro y6 rfl
    dsimp only at h
    refine hK3 _ ?_
    -- region 8
    refine VW.ws tau_ok Sound.none [some 4] [(4, .val (.bool true))] rfl ?_ ?_
    · simp <;> simp [ieq, ilt, ile]
    cases h
    refine VW.ret ?_
    simp [Post, PostM, PostC, PostC2, Nx, Bk]
  refine VW.block ?_
  refine VW.loopF (l_eqInt64S_L0 a0 a1) (fun s4 => [(0, .val (dI a0)), (1, .val (dI a1)), (5, .val (i64 s4))]) hx4 (Fits.of rfl) ?_
  clear hx4
  intro s4 ox4 hx4o hx4b
  unfold l_eqInt64S_L0 at hx4o
  refine VW.sqc fun K7 hK7 hCK7 => ?_
  -- region 4
  refine VW.ws tau_ok Sound.none [some 11, some 12, some 13, some 14] [(0, .val (dI a0)), (1, .val (dI a1)), (5, .val (i64 s4)), (14, .val (.bool (ilt s4 (a0.length : Int))))] rfl ?_ ?_
  · simp <;> simp [ieq, ilt, ile]
  refine VW.cond rfl (fun hb8 => ?_) (fun hb8 => ?_)
  rotate_left
  ·
    replace hb8 : ¬ (s4 < (a0.length : Int)) := by simpa [ieq, ilt, ile] using hb8
    rw [if_neg hb8] at hx4o
    refine VW.exit ?_
    cases hx4o
    have hq := hx4b _ rfl
    subst hq
    exact ⟨_, rfl, Fits.of rfl⟩
  replace hb8 : s4 < (a0.length : Int) := by simpa [ieq, ilt, ile] using hb8
  rw [if_pos hb8] at hx4o
  refine VW.skip ?_
  refine hK7 _ ?_
  refine VW.sqc fun K9 hK9 hCK9 => ?_
  refine VW.block ?_
  -- region 6
  obtain ⟨v10, hv10, hx4o⟩ := bind_some hx4o
  obtain ⟨hv10a, hv10b, hv10c, hv10d⟩ := idx_some hv10
  obtain ⟨v11, hv11, hx4o⟩ := bind_some hx4o
  obtain ⟨hv11a, hv11b, hv11c, hv11d⟩ := idx_some hv11
  refine VW.wds tau_ok Sound.none try_mixed [some 17, some 18, some 19, some 20, some 21, some 22, some 23, some 24, some 25] [(0, .val (dI a0)), (1, .val (dI a1)), (5, .val (i64 s4)), (25, .val (.bool (!(ieq v10 v11))))] 9 rfl (by kernel_rfl) (by rfl) ?_ ?_
  · simp [hv10a, hv10b, hv10c, hv10d, hv11a, hv11b, hv11c, hv11d] <;> simp [ieq, ilt, ile]
  refine VW.cond rfl (fun hb12 => ?_) (fun hb12 => ?_)
  rotate_left
  ·
    replace hb12 : ¬ (¬ v10 = v11) := by simpa [ieq, ilt, ile] using hb12
    rw [if_neg hb12] at hx4o
    refine VW.skip ?_
    refine hK9 _ ?_
    -- region 5
    refine VW.wr tau_ok Sound.none [some 15, some 16, some 5] [(0, .val (dI a0)), (1, .val (dI a1)), (5, .val (i64 (w64 (s4 + 1))))] rfl ?_ ?_
    · simp <;> simp [ieq, ilt, ile]
    cases hx4o
    exact ⟨_, rfl, Fits.of rfl⟩
  replace hb12 : ¬ v10 = v11 := by simpa [ieq, ilt, ile] using hb12
  rw [if_pos hb12] at hx4o
  -- region 7
  refine VW.ws tau_ok Sound.none [some 4] [(4, .val (.bool false))] rfl ?_ ?_
  · simp <;> simp [ieq, ilt, ile]
  cases hx4o
  have hq := hx4b _ rfl
  subst hq
  dsimp only at h
  cases h
  refine VW.ret ?_
  simp [Post, PostM, PostC, PostC2, Nx, Bk]

theorem l_eqInt64SS_ok {a0 : List (List Int)} {a1 : List (List Int)} {r : Bool} (h : l_eqInt64SS a0 a1 = some r) :
    VCall Try.prog 22 [dM a0, dM a1] [.sc (.bool r)] := by
  unfold l_eqInt64SS at h
  refine VCall.enter Try.call22 Try.func22 rfl 27 Try.ntmps22 (by simp) [.tmp 4] rfl ?_
  show VW _ _ _ (mk [(0, .val (dM a0)), (1, .val (dM a1))]) _
  -- region 0
  refine VW.ws tau_ok Sound.none [some 4] [(0, .val (dM a0)), (1, .val (dM a1))] rfl ?_ ?_
  · simp <;> simp [ieq, ilt, ile]
  refine VW.sqc fun K1 hK1 hCK1 => ?_
  -- region 1
  refine VW.ws tau_ok Sound.none [some 6, some 7, some 8, some 9, some 10] [(0, .val (dM a0)), (1, .val (dM a1)), (10, .val (.bool (!(ieq (a0.length : Int) (a1.length : Int)))))] rfl ?_ ?_
  · simp <;> simp [ieq, ilt, ile]
  refine VW.cond rfl (fun hb2 => ?_) (fun hb2 => ?_)
  ·
    replace hb2 : ¬ (a0.length : Int) = (a1.length : Int) := by simpa [ieq, ilt, ile] using hb2
    rw [if_pos hb2] at h
    -- region 2
    refine VW.ws tau_ok Sound.none [some 4] [(4, .val (.bool false))] rfl ?_ ?_
    · simp <;> simp [ieq, ilt, ile]
    cases h
    refine VW.ret ?_
    simp [Post, PostM, PostC, PostC2, Nx, Bk]
  replace hb2 : ¬ (¬ (a0.length : Int) = (a1.length : Int)) := by simpa [ieq, ilt, ile] using hb2
  rw [if_neg hb2] at h
  refine VW.skip ?_
  refine hK1 _ ?_
  refine VW.sqc fun K3 hK3 hCK3 => ?_
  -- region 3
  refine VW.ws tau_ok Sound.none [some 5] [(0, .val (dM a0)), (1, .val (dM a1)), (5, .val (i64 0))] rfl ?_ ?_
  · simp <;> simp [ieq, ilt, ile]
  obtain ⟨x4, hx4, h⟩ := bind_some h
  refine VW.tlO (fun y6 => []) x4 (hCK3) ?_ ?_
  · clear hx4
    rintro y6 rfl
    dsimp only at h
    refine hK3 _ ?_
    -- region 8
    refine VW.ws tau_ok Sound.none [some 4] [(4, .val (.bool true))] rfl ?_ ?_
    · simp <;> simp [ieq, ilt, ile]
    cases h
    refine VW.ret ?_
    simp [Post, PostM, PostC, PostC2, Nx, Bk]
  refine VW.block ?_
  refine VW.loopF (l_eqInt64SS_L0 a0 a1) (fun s4 => [(0, .val (dM a0)), (1, .val (dM a1)), (5, .val (i64 s4))]) hx4 (Fits.of rfl) ?_
  clear hx4
  intro s4 ox4 hx4o hx4b
  unfold l_eqInt64SS_L0 at hx4o
  refine VW.sqc fun K7 hK7 hCK7 => ?_
  -- region 4
  refine VW.ws tau_ok Sound.none [some 11, some 12, some 13, some 14] [(0, .val (dM a0)), (1, .val (dM a1)), (5, .val (i64 s4)), (14, .val (.bool (ilt s4 (a0.length : Int))))] rfl ?_ ?_
  · simp <;> simp [ieq, ilt, ile]
  refine VW.cond rfl (fun hb8 => ?_) (fun hb8 => ?_)
  rotate_left
  ·
    replace hb8 : ¬ (s4 < (a0.length : Int)) := by simpa [ieq, ilt, ile] using hb8
    rw [if_neg hb8] at hx4o
    refine VW.exit ?_
    cases hx4o
    have hq := hx4b _ rfl
    subst hq
    exact ⟨_, rfl, Fits.of rfl⟩
  replace hb8 : s4 < (a0.length : Int) := by simpa [ieq, ilt, ile] using hb8
  rw [if_pos hb8] at hx4o
  refine VW.skip ?_
  refine hK7 _ ?_
  refine VW.sqc fun K9 hK9 hCK9 => ?_
  refine VW.block ?_
  -- region 6
  obtain ⟨v10, hv10, hx4o⟩ := bind_some hx4o
  obtain ⟨hv10a, hv10b, hv10c, hv10d⟩ := idx_some hv10
  obtain ⟨v11, hv11, hx4o⟩ := bind_some hx4o
  obtain ⟨hv11a, hv11b, hv11c, hv11d⟩ := idx_some hv11
  obtain ⟨v12, hv12, hx4o⟩ := bind_some hx4o
  refine VW.wds tau_ok (Sound.none.add 25 (l_eqInt64S_ok hv12) rfl) try_mixed [some 17, some 18, some 19, some 20, some 21, some 22, some 23, some 24, some 25, some 26] [(0, .val (dM a0)), (1, .val (dM a1)), (5, .val (i64 s4)), (26, .val (.bool (!v12)))] 10 rfl (by kernel_rfl) (by rfl) ?_ ?_
  · simp [hv10a, hv10b, hv10c, hv10d, hv11a, hv11b, hv11c, hv11d] <;> simp [ieq, ilt, ile]
  refine VW.cond rfl (fun hb13 => ?_) (fun hb13 => ?_)
  rotate_left
  ·
    replace hb13 : ¬ (v12 = false) := by simpa [ieq, ilt, ile] using hb13
    rw [if_neg hb13] at hx4o
    refine VW.skip ?_
    refine hK9 _ ?_
    -- region 5
    refine VW.wr tau_ok Sound.none [some 15, some 16, some 5] [(0, .val (dM a0)), (1, .val (dM a1)), (5, .val (i64 (w64 (s4 + 1))))] rfl ?_ ?_
    · simp <;> simp [ieq, ilt, ile]
    cases hx4o
    exact ⟨_, rfl, Fits.of rfl⟩
  replace hb13 : v12 = false := by simpa [ieq, ilt, ile] using hb13
  rw [if_pos hb13] at hx4o
  -- region 7
  refine VW.ws tau_ok Sound.none [some 4] [(4, .val (.bool false))] rfl ?_ ?_
  · simp <;> simp [ieq, ilt, ile]
  cases hx4o
  have hq := hx4b _ rfl
  subst hq
  dsimp only at h
  cases h
  refine VW.ret ?_
  simp [Post, PostM, PostC, PostC2, Nx, Bk]

theorem l_eqTriple_ok {a0_0 : List (List Int)} {a0_1 : List (List Int)} {a0_2 : List (List Int)} {a1_0 : List (List Int)} {a1_1 : List (List Int)} {a1_2 : List (List Int)} {r : Bool} (h : l_eqTriple a0_0 a0_1 a0_2 a1_0 a1_1 a1_2 = some r) :
    VCall Try.prog 27 [.agg [dM a0_0, dM a0_1, dM a0_2], .agg [dM a1_0, dM a1_1, dM a1_2]] [.sc (.bool r)] := by
  unfold l_eqTriple at h
  refine VCall.enter Try.call27 Try.func27 rfl 23 Try.ntmps27 (by simp) [.tmp 4] rfl ?_
  show VW _ _ _ (mk [(0, .val (.agg [dM a0_0, dM a0_1, dM a0_2])), (1, .val (.agg [dM a1_0, dM a1_1, dM a1_2]))]) _
  -- region 0
  refine VW.ws tau_ok Sound.none [some 2, some 3, some 4] [(2, .val (.ptr [dM a0_0, dM a0_1, dM a0_2])), (3, .val (.ptr [dM a1_0, dM a1_1, dM a1_2]))] rfl ?_ ?_
  · simp <;> simp [ieq, ilt, ile]
  refine VW.sqc fun K1 hK1 hCK1 => ?_
  -- region 1
  obtain ⟨v2, hv2, h⟩ := bind_some h
  refine VW.ws tau_ok (Sound.none.add 9 (l_eqInt64SS_ok hv2) rfl) [some 5, some 6, some 7, some 8, some 9, some 10] [(2, .val (.ptr [dM a0_0, dM a0_1, dM a0_2])), (3, .val (.ptr [dM a1_0, dM a1_1, dM a1_2])), (10, .val (.bool (!v2)))] rfl ?_ ?_
  · simp <;> simp [ieq, ilt, ile]
  refine VW.cond rfl (fun hb3 => ?_) (fun hb3 => ?_)
  ·
    replace hb3 : v2 = false := by simpa [ieq, ilt, ile] using hb3
    rw [if_pos hb3] at h
    -- region 2
    refine VW.ws tau_ok Sound.none [some 4] [(4, .val (.bool false))] rfl ?_ ?_
    · simp <;> simp [ieq, ilt, ile]
    cases h
    refine VW.ret ?_
    simp [Post, PostM, PostC, PostC2, Nx, Bk]
  replace hb3 : ¬ (v2 = false) := by simpa [ieq, ilt, ile] using hb3
  rw [if_neg hb3] at h
  refine VW.skip ?_
  refine hK1 _ ?_
  refine VW.sqc fun K4 hK4 hCK4 => ?_
  -- region 3
  obtain ⟨v5, hv5, h⟩ := bind_some h
  refine VW.ws tau_ok (Sound.none.add 15 (l_eqInt64SS_ok hv5) rfl) [some 11, some 12, some 13, some 14, some 15, some 16] [(2, .val (.ptr [dM a0_0, dM a0_1, dM a0_2])), (3, .val (.ptr [dM a1_0, dM a1_1, dM a1_2])), (16, .val (.bool (!v5)))] rfl ?_ ?_
  · simp <;> simp [ieq, ilt, ile]
  refine VW.cond rfl (fun hb6 => ?_) (fun hb6 => ?_)
  ·
    replace hb6 : v5 = false := by simpa [ieq, ilt, ile] using hb6
    rw [if_pos hb6] at h
    -- region 4
    refine VW.ws tau_ok Sound.none [some 4] [(4, .val (.bool false))] rfl ?_ ?_
    · simp <;> simp [ieq, ilt, ile]
    cases h
    refine VW.ret ?_
    simp [Post, PostM, PostC, PostC2, Nx, Bk]
  replace hb6 : ¬ (v5 = false) := by simpa [ieq, ilt, ile] using hb6
  rw [if_neg hb6] at h
  refine VW.skip ?_
  refine hK4 _ ?_
  refine VW.sqc fun K7 hK7 hCK7 => ?_
  -- region 5
  obtain ⟨v8, hv8, h⟩ := bind_some h
  refine VW.ws tau_ok (Sound.none.add 21 (l_eqInt64SS_ok hv8) rfl) [some 17, some 18, some 19, some 20, some 21, some 22] [(22, .val (.bool (!v8)))] rfl ?_ ?_
  · simp <;> simp [ieq, ilt, ile]
  refine VW.cond rfl (fun hb9 => ?_) (fun hb9 => ?_)
  ·
    replace hb9 : v8 = false := by simpa [ieq, ilt, ile] using hb9
    rw [if_pos hb9] at h
    -- region 6
    refine VW.ws tau_ok Sound.none [some 4] [(4, .val (.bool false))] rfl ?_ ?_
    · simp <;> simp [ieq, ilt, ile]
    cases h
    refine VW.ret ?_
    simp [Post, PostM, PostC, PostC2, Nx, Bk]
  replace hb9 : ¬ (v8 = false) := by simpa [ieq, ilt, ile] using hb9
  rw [if_neg hb9] at h
  refine VW.skip ?_
  refine hK7 _ ?_
  -- region 7
  refine VW.ws tau_ok Sound.none [some 4] [(4, .val (.bool true))] rfl ?_ ?_
  · simp <;> simp [ieq, ilt, ile]
  cases h
  refine VW.ret ?_
  simp [Post, PostM, PostC, PostC2, Nx, Bk]

theorem l_eqDoubling_ok {a0_0 : Int} {a0_1 : List Int} {a1_0 : Int} {a1_1 : List Int} {r : Bool} (h : l_eqDoubling a0_0 a0_1 a1_0 a1_1 = some r) :
    VCall Try.prog 21 [.agg [i64 a0_0, dI a0_1], .agg [i64 a1_0, dI a1_1]] [.sc (.bool r)] := by
  unfold l_eqDoubling at h
  refine VCall.enter Try.call21 Try.func21 rfl 16 Try.ntmps21 (by simp) [.tmp 4] rfl ?_
  show VW _ _ _ (mk [(0, .val (.agg [i64 a0_0, dI a0_1])), (1, .val (.agg [i64 a1_0, dI a1_1]))]) _
  -- region 0
  refine VW.ws tau_ok Sound.none [some 2, some 3, some 4] [(2, .val (.ptr [i64 a0_0, dI a0_1])), (3, .val (.ptr [i64 a1_0, dI a1_1]))] rfl ?_ ?_
  · simp <;> simp [ieq, ilt, ile]
  refine VW.sqc fun K1 hK1 hCK1 => ?_
  -- region 1
  refine VW.ws tau_ok Sound.none [some 5, some 6, some 7, some 8, some 9] [(2, .val (.ptr [i64 a0_0, dI a0_1])), (3, .val (.ptr [i64 a1_0, dI a1_1])), (9, .val (.bool (!(ieq a0_0 a1_0))))] rfl ?_ ?_
  · simp <;> simp [ieq, ilt, ile]
  refine VW.cond rfl (fun hb2 => ?_) (fun hb2 => ?_)
  ·
    replace hb2 : ¬ a0_0 = a1_0 := by simpa [ieq, ilt, ile] using hb2
    rw [if_pos hb2] at h
    -- region 2
    refine VW.ws tau_ok Sound.none [some 4] [(4, .val (.bool false))] rfl ?_ ?_
    · simp <;> simp [ieq, ilt, ile]
    cases h
    refine VW.ret ?_
    simp [Post, PostM, PostC, PostC2, Nx, Bk]
  replace hb2 : ¬ (¬ a0_0 = a1_0) := by simpa [ieq, ilt, ile] using hb2
  rw [if_neg hb2] at h
  refine VW.skip ?_
  refine hK1 _ ?_
  refine VW.sqc fun K3 hK3 hCK3 => ?_
  -- region 3
  obtain ⟨v4, hv4, h⟩ := bind_some h
  refine VW.ws tau_ok (Sound.none.add 14 (l_eqInt64S_ok hv4) rfl) [some 10, some 11, some 12, some 13, some 14, some 15] [(15, .val (.bool (!v4)))] rfl ?_ ?_
  · simp <;> simp [ieq, ilt, ile]
  refine VW.cond rfl (fun hb5 => ?_) (fun hb5 => ?_)
  ·
    replace hb5 : v4 = false := by simpa [ieq, ilt, ile] using hb5
    rw [if_pos hb5] at h
    -- region 4
    refine VW.ws tau_ok Sound.none [some 4] [(4, .val (.bool false))] rfl ?_ ?_
    · simp <;> simp [ieq, ilt, ile]
    cases h
    refine VW.ret ?_
    simp [Post, PostM, PostC, PostC2, Nx, Bk]
  replace hb5 : ¬ (v4 = false) := by simpa [ieq, ilt, ile] using hb5
  rw [if_neg hb5] at h
  refine VW.skip ?_
  refine hK3 _ ?_
  -- region 5
  refine VW.ws tau_ok Sound.none [some 4] [(4, .val (.bool true))] rfl ?_ ?_
  · simp <;> simp [ieq, ilt, ile]
  cases h
  refine VW.ret ?_
  simp [Post, PostM, PostC, PostC2, Nx, Bk]

theorem l_markInt64S_ok {a0 : List Int} {a1 : Int} {r : Int × (List Int)} (h : l_markInt64S a0 a1 = some r) :
    VMut Try.prog 35 (dI a0) [i64 a1] (i64 r.1) (dI r.2) := by
  unfold l_markInt64S at h
  refine VMut.enter Try.call35 Try.func35 rfl 19 Try.ntmps35 (by simp) [.tmp 4] rfl ?_
  show VW _ _ _ (mk [(0, .ref 0 [] true (dI a0)), (1, .val (i64 a1))]) _
  -- region 0
  refine VW.ws tau_ok Sound.none [some 4] [(0, .ref 0 [] true (dI a0)), (1, .val (i64 a1))] rfl ?_ ?_
  · simp <;> simp [ieq, ilt, ile]
  refine VW.sqc fun K1 hK1 hCK1 => ?_
  -- region 1
  refine VW.ws tau_ok Sound.none [some 5] [(0, .ref 0 [] true (dI a0)), (1, .val (i64 a1)), (5, .val (i64 0))] rfl ?_ ?_
  · simp <;> simp [ieq, ilt, ile]
  obtain ⟨x2, hx2, h⟩ := bind_some h
  refine VW.tlE [(0, .ref 0 [] true (dI x2.1)), (1, .val (i64 x2.2))] (hCK1) ?_ ?_
  · clear hx2
    refine hK1 _ ?_
    -- region 6
    refine VW.ws tau_ok Sound.none [some 18, some 4] [(0, .ref 0 [] true (dI x2.1)), (4, .val (i64 x2.2))] rfl ?_ ?_
    · simp <;> simp [ieq, ilt, ile]
    cases h
    refine VW.ret ?_
    simp [Post, PostM, PostC, PostC2, Nx, Bk]
  refine VW.block ?_
  refine VW.loopF l_markInt64S_L0 (fun s2 => [(0, .ref 0 [] true (dI s2.1)), (1, .val (i64 s2.2.1)), (5, .val (i64 s2.2.2))]) hx2 (Fits.of rfl) ?_
  clear hx2
  intro s2 ox2 hx2o hx2b
  unfold l_markInt64S_L0 at hx2o
  refine VW.sqc fun K4 hK4 hCK4 => ?_
  -- region 2
  refine VW.ws tau_ok Sound.none [some 6, some 7, some 8, some 9] [(0, .ref 0 [] true (dI s2.1)), (1, .val (i64 s2.2.1)), (5, .val (i64 s2.2.2)), (9, .val (.bool (ilt s2.2.2 (s2.1.length : Int))))] rfl ?_ ?_
  · simp <;> simp [ieq, ilt, ile]
  refine VW.cond rfl (fun hb5 => ?_) (fun hb5 => ?_)
  rotate_left
  ·
    replace hb5 : ¬ (s2.2.2 < (s2.1.length : Int)) := by simpa [ieq, ilt, ile] using hb5
    rw [if_neg hb5] at hx2o
    refine VW.exit ?_
    cases hx2o
    have hq := hx2b _ rfl
    subst hq
    exact Fits.of rfl
  replace hb5 : s2.2.2 < (s2.1.length : Int) := by simpa [ieq, ilt, ile] using hb5
  rw [if_pos hb5] at hx2o
  refine VW.skip ?_
  refine hK4 _ ?_
  refine VW.sqc fun K6 hK6 hCK6 => ?_
  refine VW.block ?_
  -- region 4
  obtain ⟨v7, hv7, hx2o⟩ := bind_some hx2o
  obtain ⟨hv7a, hv7b, hv7c, hv7d⟩ := idx_some hv7
  refine VW.ws tau_ok Sound.none [some 12, some 13, some 14, some 15, none] [(0, .ref 0 [] true (dI (s2.1.set s2.2.2.toNat s2.2.1))), (1, .val (i64 s2.2.1)), (5, .val (i64 s2.2.2))] rfl ?_ ?_
  · simp [hv7a, hv7b, hv7c, hv7d] <;> simp [ieq, ilt, ile]
  -- region 5
  refine VW.wr tau_ok Sound.none [some 16, some 17, some 1] [(0, .ref 0 [] true (dI (s2.1.set s2.2.2.toNat s2.2.1))), (1, .val (i64 (w64 (s2.2.1 + 1)))), (5, .val (i64 s2.2.2))] rfl ?_ ?_
  · simp <;> simp [ieq, ilt, ile]
  refine hK6 _ ?_
  -- region 3
  refine VW.wr tau_ok Sound.none [some 10, some 11, some 5] [(0, .ref 0 [] true (dI (s2.1.set s2.2.2.toNat s2.2.1))), (1, .val (i64 (w64 (s2.2.1 + 1)))), (5, .val (i64 (w64 (s2.2.2 + 1))))] rfl ?_ ?_
  · simp <;> simp [ieq, ilt, ile]
  cases hx2o
  exact ⟨_, rfl, Fits.of rfl⟩

theorem l_markDoubling_ok {a0_0 : Int} {a0_1 : List Int} {a1 : Int} {r : Int} (h : l_markDoubling a0_0 a0_1 a1 = some r) :
    VSpoil Try.prog 28 (.agg [i64 a0_0, dI a0_1]) [i64 a1] (i64 r) := by
  unfold l_markDoubling at h
  refine VSpoil.enter Try.call28 Try.func28 rfl 10 Try.ntmps28 (by simp) 4 rfl ?_
  show VW _ _ _ (mk [(0, .ref 0 [] true (.agg [i64 a0_0, dI a0_1])), (1, .val (i64 a1))]) _
  -- region 0
  refine VW.ws tau_ok Sound.none [some 2, some 4] [(1, .val (i64 a1)), (2, .al 0 [i64 a0_0, dI a0_1])] rfl ?_ ?_
  · simp <;> simp [ieq, ilt, ile]
  -- region 1
  obtain ⟨v1, hv1, h⟩ := bind_some h
  refine VW.ws tau_ok (Sound.none.mutc 8 (l_markInt64S_ok hv1)) [some 5, some 6, some 7, some 8, some 1] [(1, .val (i64 v1.1))] rfl ?_ ?_
  · simp <;> simp [ieq, ilt, ile]
  -- region 2
  refine VW.ws tau_ok Sound.none [some 9, some 4] [(4, .val (i64 v1.1))] rfl ?_ ?_
  · simp <;> simp [ieq, ilt, ile]
  cases h
  refine VW.ret ?_
  simp [Post, PostM, PostC, PostC2, Nx, Bk]

theorem l_markInt64SS_ok {a0 : List (List Int)} {a1 : Int} {r : Int × (List (List Int))} (h : l_markInt64SS a0 a1 = some r) :
    VMut Try.prog 36 (dM a0) [i64 a1] (i64 r.1) (dM r.2) := by
  unfold l_markInt64SS at h
  refine VMut.enter Try.call36 Try.func36 rfl 19 Try.ntmps36 (by simp) [.tmp 4] rfl ?_
  show VW _ _ _ (mk [(0, .ref 0 [] true (dM a0)), (1, .val (i64 a1))]) _
  -- region 0
  refine VW.ws tau_ok Sound.none [some 4] [(0, .ref 0 [] true (dM a0)), (1, .val (i64 a1))] rfl ?_ ?_
  · simp <;> simp [ieq, ilt, ile]
  refine VW.sqc fun K1 hK1 hCK1 => ?_
  -- region 1
  refine VW.ws tau_ok Sound.none [some 5] [(0, .ref 0 [] true (dM a0)), (1, .val (i64 a1)), (5, .val (i64 0))] rfl ?_ ?_
  · simp <;> simp [ieq, ilt, ile]
  obtain ⟨x2, hx2, h⟩ := bind_some h
  refine VW.tlE [(0, .ref 0 [] true (dM x2.1)), (1, .val (i64 x2.2))] (hCK1) ?_ ?_
  · clear hx2
    refine hK1 _ ?_
    -- region 5
    refine VW.ws tau_ok Sound.none [some 18, some 4] [(0, .ref 0 [] true (dM x2.1)), (4, .val (i64 x2.2))] rfl ?_ ?_
    · simp <;> simp [ieq, ilt, ile]
    cases h
    refine VW.ret ?_
    simp [Post, PostM, PostC, PostC2, Nx, Bk]
  refine VW.block ?_
  refine VW.loopF l_markInt64SS_L0 (fun s2 => [(0, .ref 0 [] true (dM s2.1)), (1, .val (i64 s2.2.1)), (5, .val (i64 s2.2.2))]) hx2 (Fits.of rfl) ?_
  clear hx2
  intro s2 ox2 hx2o hx2b
  unfold l_markInt64SS_L0 at hx2o
  refine VW.sqc fun K4 hK4 hCK4 => ?_
  -- region 2
  refine VW.ws tau_ok Sound.none [some 6, some 7, some 8, some 9] [(0, .ref 0 [] true (dM s2.1)), (1, .val (i64 s2.2.1)), (5, .val (i64 s2.2.2)), (9, .val (.bool (ilt s2.2.2 (s2.1.length : Int))))] rfl ?_ ?_
  · simp <;> simp [ieq, ilt, ile]
  refine VW.cond rfl (fun hb5 => ?_) (fun hb5 => ?_)
  rotate_left
  ·
    replace hb5 : ¬ (s2.2.2 < (s2.1.length : Int)) := by simpa [ieq, ilt, ile] using hb5
    rw [if_neg hb5] at hx2o
    refine VW.exit ?_
    cases hx2o
    have hq := hx2b _ rfl
    subst hq
    exact Fits.of rfl
  replace hb5 : s2.2.2 < (s2.1.length : Int) := by simpa [ieq, ilt, ile] using hb5
  rw [if_pos hb5] at hx2o
  refine VW.skip ?_
  refine hK4 _ ?_
  refine VW.sqc fun K6 hK6 hCK6 => ?_
  refine VW.block ?_
  -- region 4
  obtain ⟨v7, hv7, hx2o⟩ := bind_some hx2o
  obtain ⟨hv7a, hv7b, hv7c, hv7d⟩ := idx_some hv7
  obtain ⟨v8, hv8, hx2o⟩ := bind_some hx2o
  refine VW.wr tau_ok (Sound.none.mutc 17 (l_markInt64S_ok hv8)) [some 12, some 13, some 14, some 15, some 16, some 17, some 1] [(0, .ref 0 [] true (dM (s2.1.set s2.2.2.toNat v8.2))), (1, .val (i64 v8.1)), (5, .val (i64 s2.2.2))] rfl ?_ ?_
  · simp [hv7a, hv7b, hv7c, hv7d] <;> simp [ieq, ilt, ile]
  refine hK6 _ ?_
  -- region 3
  refine VW.wr tau_ok Sound.none [some 10, some 11, some 5] [(0, .ref 0 [] true (dM (s2.1.set s2.2.2.toNat v8.2))), (1, .val (i64 v8.1)), (5, .val (i64 (w64 (s2.2.2 + 1))))] rfl ?_ ?_
  · simp <;> simp [ieq, ilt, ile]
  cases hx2o
  exact ⟨_, rfl, Fits.of rfl⟩

theorem l_markTriple_m_ok {a0_0 : List (List Int)} {a0_1 : List (List Int)} {a0_2 : List (List Int)} {a1 : Int} {r : Int × ((List (List Int)) × (List (List Int)) × (List (List Int)))} (h : l_markTriple_m a0_0 a0_1 a0_2 a1 = some r) :
    VMut Try.prog 29 (.agg [dM a0_0, dM a0_1, dM a0_2]) [i64 a1] (i64 r.1) (.agg [dM r.2.1, dM r.2.2.1, dM r.2.2.2]) := by
  unfold l_markTriple_m at h
  refine VMut.enterA Try.call29 Try.func29 rfl 18 Try.ntmps29 (by simp) [.tmp 4] rfl (by rfl) ⟨_, rfl⟩ ?_
  show VW _ _ _ (mk [(0, .ref 0 [] true (.agg [dM a0_0, dM a0_1, dM a0_2])), (1, .val (i64 a1))]) _
  -- region 0
  refine VW.ws tau_ok Sound.none [some 2, some 4] [(0, .ref 0 [] true (.agg [dM a0_0, dM a0_1, dM a0_2])), (1, .val (i64 a1)), (2, .al 0 [dM a0_0, dM a0_1, dM a0_2])] rfl ?_ ?_
  · simp <;> simp [ieq, ilt, ile]
  -- region 1
  obtain ⟨v1, hv1, h⟩ := bind_some h
  refine VW.ws tau_ok (Sound.none.mutc 8 (l_markInt64SS_ok hv1)) [some 5, some 6, some 7, some 8, some 1] [(0, .ref 0 [] true (.agg [dM v1.2, dM a0_1, dM a0_2])), (1, .val (i64 v1.1)), (2, .al 0 [dM v1.2, dM a0_1, dM a0_2])] rfl ?_ ?_
  · simp <;> simp [ieq, ilt, ile]
  -- region 2
  obtain ⟨v2, hv2, h⟩ := bind_some h
  refine VW.ws tau_ok (Sound.none.mutc 12 (l_markInt64SS_ok hv2)) [some 9, some 10, some 11, some 12, some 1] [(0, .ref 0 [] true (.agg [dM v1.2, dM v2.2, dM a0_2])), (1, .val (i64 v2.1)), (2, .al 0 [dM v1.2, dM v2.2, dM a0_2])] rfl ?_ ?_
  · simp <;> simp [ieq, ilt, ile]
  -- region 3
  obtain ⟨v3, hv3, h⟩ := bind_some h
  refine VW.ws tau_ok (Sound.none.mutc 16 (l_markInt64SS_ok hv3)) [some 13, some 14, some 15, some 16, some 1] [(0, .ref 0 [] true (.agg [dM v1.2, dM v2.2, dM v3.2])), (1, .val (i64 v3.1))] rfl ?_ ?_
  · simp <;> simp [ieq, ilt, ile]
  -- region 4
  refine VW.ws tau_ok Sound.none [some 17, some 4] [(0, .ref 0 [] true (.agg [dM v1.2, dM v2.2, dM v3.2])), (4, .val (i64 v3.1))] rfl ?_ ?_
  · simp <;> simp [ieq, ilt, ile]
  cases h
  refine VW.ret ?_
  simp [Post, PostM, PostC, PostC2, Nx, Bk]

theorem l_heldInt64S_ok {a0 : List Int} {a1 : Int} {r : Int} (h : l_heldInt64S a0 a1 = some r) :
    VCall Try.prog 110 [dI a0, i64 a1] [.sc (i64 r)] := by
  unfold l_heldInt64S at h
  refine VCall.enter Try.call110 Try.func110 rfl 21 Try.ntmps110 (by simp) [.tmp 4] rfl ?_
  show VW _ _ _ (mk [(0, .val (dI a0)), (1, .val (i64 a1))]) _
  -- region 0
  refine VW.ws tau_ok Sound.none [some 4] [(0, .val (dI a0)), (1, .val (i64 a1))] rfl ?_ ?_
  · simp <;> simp [ieq, ilt, ile]
  refine VW.sqc fun K1 hK1 hCK1 => ?_
  -- region 1
  refine VW.ws tau_ok Sound.none [some 5] [(0, .val (dI a0)), (1, .val (i64 a1)), (5, .val (i64 0))] rfl ?_ ?_
  · simp <;> simp [ieq, ilt, ile]
  obtain ⟨x2, hx2, h⟩ := bind_some h
  refine VW.tlO (fun y4 => [(1, .val (i64 y4))]) x2 (hCK1) ?_ ?_
  · clear hx2
    rintro y4 rfl
    dsimp only at h
    refine hK1 _ ?_
    -- region 7
    refine VW.ws tau_ok Sound.none [some 20, some 4] [(4, .val (i64 y4))] rfl ?_ ?_
    · simp <;> simp [ieq, ilt, ile]
    cases h
    refine VW.ret ?_
    simp [Post, PostM, PostC, PostC2, Nx, Bk]
  refine VW.block ?_
  refine VW.loopF (l_heldInt64S_L0 a0) (fun s2 => [(0, .val (dI a0)), (1, .val (i64 s2.1)), (5, .val (i64 s2.2))]) hx2 (Fits.of rfl) ?_
  clear hx2
  intro s2 ox2 hx2o hx2b
  unfold l_heldInt64S_L0 at hx2o
  refine VW.sqc fun K5 hK5 hCK5 => ?_
  -- region 2
  refine VW.ws tau_ok Sound.none [some 6, some 7, some 8, some 9] [(0, .val (dI a0)), (1, .val (i64 s2.1)), (5, .val (i64 s2.2)), (9, .val (.bool (ilt s2.2 (a0.length : Int))))] rfl ?_ ?_
  · simp <;> simp [ieq, ilt, ile]
  refine VW.cond rfl (fun hb6 => ?_) (fun hb6 => ?_)
  rotate_left
  ·
    replace hb6 : ¬ (s2.2 < (a0.length : Int)) := by simpa [ieq, ilt, ile] using hb6
    rw [if_neg hb6] at hx2o
    refine VW.exit ?_
    cases hx2o
    have hq := hx2b _ rfl
    subst hq
    exact ⟨_, rfl, Fits.of rfl⟩
  replace hb6 : s2.2 < (a0.length : Int) := by simpa [ieq, ilt, ile] using hb6
  rw [if_pos hb6] at hx2o
  refine VW.skip ?_
  refine hK5 _ ?_
  refine VW.sqc fun K7 hK7 hCK7 => ?_
  refine VW.block ?_
  refine VW.sqc fun K8 hK8 hCK8 => ?_
  -- region 4
  obtain ⟨v9, hv9, hx2o⟩ := bind_some hx2o
  obtain ⟨hv9a, hv9b, hv9c, hv9d⟩ := idx_some hv9
  refine VW.ws tau_ok Sound.none [some 12, some 13, some 14, some 15, some 16, some 17] [(0, .val (dI a0)), (1, .val (i64 s2.1)), (5, .val (i64 s2.2)), (17, .val (.bool (!(ieq v9 s2.1))))] rfl ?_ ?_
  · simp [hv9a, hv9b, hv9c, hv9d] <;> simp [ieq, ilt, ile]
  refine VW.cond rfl (fun hb10 => ?_) (fun hb10 => ?_)
  ·
    replace hb10 : ¬ v9 = s2.1 := by simpa [ieq, ilt, ile] using hb10
    rw [if_pos hb10] at hx2o
    -- region 5
    refine VW.ws tau_ok Sound.none [some 4] [(4, .val (i64 (-1)))] rfl ?_ ?_
    · simp <;> simp [ieq, ilt, ile]
    cases hx2o
    have hq := hx2b _ rfl
    subst hq
    dsimp only at h
    cases h
    refine VW.ret ?_
    simp [Post, PostM, PostC, PostC2, Nx, Bk]
  replace hb10 : ¬ (¬ v9 = s2.1) := by simpa [ieq, ilt, ile] using hb10
  rw [if_neg hb10] at hx2o
  refine VW.skip ?_
  refine hK8 _ ?_
  -- region 6
  refine VW.wr tau_ok Sound.none [some 18, some 19, some 1] [(0, .val (dI a0)), (1, .val (i64 (w64 (s2.1 + 1)))), (5, .val (i64 s2.2))] rfl ?_ ?_
  · simp <;> simp [ieq, ilt, ile]
  refine hK7 _ ?_
  -- region 3
  refine VW.wr tau_ok Sound.none [some 10, some 11, some 5] [(0, .val (dI a0)), (1, .val (i64 (w64 (s2.1 + 1)))), (5, .val (i64 (w64 (s2.2 + 1))))] rfl ?_ ?_
  · simp <;> simp [ieq, ilt, ile]
  cases hx2o
  exact ⟨_, rfl, Fits.of rfl⟩

theorem l_heldInt64SS_ok {a0 : List (List Int)} {a1 : Int} {r : Int} (h : l_heldInt64SS a0 a1 = some r) :
    VCall Try.prog 37 [dM a0, i64 a1] [.sc (i64 r)] := by
  unfold l_heldInt64SS at h
  refine VCall.enter Try.call37 Try.func37 rfl 21 Try.ntmps37 (by simp) [.tmp 4] rfl ?_
  show VW _ _ _ (mk [(0, .val (dM a0)), (1, .val (i64 a1))]) _
  -- region 0
  refine VW.ws tau_ok Sound.none [some 4] [(0, .val (dM a0)), (1, .val (i64 a1))] rfl ?_ ?_
  · simp <;> simp [ieq, ilt, ile]
  refine VW.sqc fun K1 hK1 hCK1 => ?_
  -- region 1
  refine VW.ws tau_ok Sound.none [some 5] [(0, .val (dM a0)), (1, .val (i64 a1)), (5, .val (i64 0))] rfl ?_ ?_
  · simp <;> simp [ieq, ilt, ile]
  obtain ⟨x2, hx2, h⟩ := bind_some h
  refine VW.tlO (fun y4 => [(1, .val (i64 y4))]) x2 (hCK1) ?_ ?_
  · clear hx2
    rintro y4 rfl
    dsimp only at h
    refine hK1 _ ?_
    -- region 7
    refine VW.ws tau_ok Sound.none [some 20, some 4] [(4, .val (i64 y4))] rfl ?_ ?_
    · simp <;> simp [ieq, ilt, ile]
    cases h
    refine VW.ret ?_
    simp [Post, PostM, PostC, PostC2, Nx, Bk]
  refine VW.block ?_
  refine VW.loopF (l_heldInt64SS_L0 a0) (fun s2 => [(0, .val (dM a0)), (1, .val (i64 s2.1)), (5, .val (i64 s2.2))]) hx2 (Fits.of rfl) ?_
  clear hx2
  intro s2 ox2 hx2o hx2b
  unfold l_heldInt64SS_L0 at hx2o
  refine VW.sqc fun K5 hK5 hCK5 => ?_
  -- region 2
  refine VW.ws tau_ok Sound.none [some 6, some 7, some 8, some 9] [(0, .val (dM a0)), (1, .val (i64 s2.1)), (5, .val (i64 s2.2)), (9, .val (.bool (ilt s2.2 (a0.length : Int))))] rfl ?_ ?_
  · simp <;> simp [ieq, ilt, ile]
  refine VW.cond rfl (fun hb6 => ?_) (fun hb6 => ?_)
  rotate_left
  ·
    replace hb6 : ¬ (s2.2 < (a0.length : Int)) := by simpa [ieq, ilt, ile] using hb6
    rw [if_neg hb6] at hx2o
    refine VW.exit ?_
    cases hx2o
    have hq := hx2b _ rfl
    subst hq
    exact ⟨_, rfl, Fits.of rfl⟩
  replace hb6 : s2.2 < (a0.length : Int) := by simpa [ieq, ilt, ile] using hb6
  rw [if_pos hb6] at hx2o
  refine VW.skip ?_
  refine hK5 _ ?_
  refine VW.sqc fun K7 hK7 hCK7 => ?_
  refine VW.block ?_
  -- region 4
  obtain ⟨v8, hv8, hx2o⟩ := bind_some hx2o
  obtain ⟨hv8a, hv8b, hv8c, hv8d⟩ := idx_some hv8
  obtain ⟨v9, hv9, hx2o⟩ := bind_some hx2o
  refine VW.ws tau_ok (Sound.none.add 17 (l_heldInt64S_ok hv9) rfl) [some 12, some 13, some 14, some 15, some 16, some 17, some 1] [(0, .val (dM a0)), (1, .val (i64 v9)), (5, .val (i64 s2.2))] rfl ?_ ?_
  · simp [hv8a, hv8b, hv8c, hv8d] <;> simp [ieq, ilt, ile]
  -- region 5
  refine VW.ws tau_ok Sound.none [some 18, some 19] [(0, .val (dM a0)), (1, .val (i64 v9)), (5, .val (i64 s2.2)), (19, .val (.bool (ilt v9 0)))] rfl ?_ ?_
  · simp <;> simp [ieq, ilt, ile]
  refine VW.cond rfl (fun hb10 => ?_) (fun hb10 => ?_)
  rotate_left
  ·
    replace hb10 : ¬ (v9 < 0) := by simpa [ieq, ilt, ile] using hb10
    rw [if_neg hb10] at hx2o
    refine VW.skip ?_
    refine hK7 _ ?_
    -- region 3
    refine VW.wr tau_ok Sound.none [some 10, some 11, some 5] [(0, .val (dM a0)), (1, .val (i64 v9)), (5, .val (i64 (w64 (s2.2 + 1))))] rfl ?_ ?_
    · simp <;> simp [ieq, ilt, ile]
    cases hx2o
    exact ⟨_, rfl, Fits.of rfl⟩
  replace hb10 : v9 < 0 := by simpa [ieq, ilt, ile] using hb10
  rw [if_pos hb10] at hx2o
  -- region 6
  refine VW.ws tau_ok Sound.none [some 4] [(4, .val (i64 (-1)))] rfl ?_ ?_
  · simp <;> simp [ieq, ilt, ile]
  cases hx2o
  have hq := hx2b _ rfl
  subst hq
  dsimp only at h
  cases h
  refine VW.ret ?_
  simp [Post, PostM, PostC, PostC2, Nx, Bk]

theorem l_heldTriple_ok {a0_0 : List (List Int)} {a0_1 : List (List Int)} {a0_2 : List (List Int)} {a1 : Int} {r : Int} (h : l_heldTriple a0_0 a0_1 a0_2 a1 = some r) :
    VCall Try.prog 30 [.agg [dM a0_0, dM a0_1, dM a0_2], i64 a1] [.sc (i64 r)] := by
  unfold l_heldTriple at h
  refine VCall.enter Try.call30 Try.func30 rfl 24 Try.ntmps30 (by simp) [.tmp 4] rfl ?_
  show VW _ _ _ (mk [(0, .val (.agg [dM a0_0, dM a0_1, dM a0_2])), (1, .val (i64 a1))]) _
  -- region 0
  refine VW.ws tau_ok Sound.none [some 2, some 4] [(1, .val (i64 a1)), (2, .val (.ptr [dM a0_0, dM a0_1, dM a0_2]))] rfl ?_ ?_
  · simp <;> simp [ieq, ilt, ile]
  -- region 1
  obtain ⟨v1, hv1, h⟩ := bind_some h
  refine VW.ws tau_ok (Sound.none.add 8 (l_heldInt64SS_ok hv1) rfl) [some 5, some 6, some 7, some 8, some 1] [(1, .val (i64 v1)), (2, .val (.ptr [dM a0_0, dM a0_1, dM a0_2]))] rfl ?_ ?_
  · simp <;> simp [ieq, ilt, ile]
  refine VW.sqc fun K2 hK2 hCK2 => ?_
  -- region 2
  refine VW.ws tau_ok Sound.none [some 9, some 10] [(1, .val (i64 v1)), (2, .val (.ptr [dM a0_0, dM a0_1, dM a0_2])), (10, .val (.bool (ilt v1 0)))] rfl ?_ ?_
  · simp <;> simp [ieq, ilt, ile]
  refine VW.cond rfl (fun hb3 => ?_) (fun hb3 => ?_)
  ·
    replace hb3 : v1 < 0 := by simpa [ieq, ilt, ile] using hb3
    rw [if_pos hb3] at h
    -- region 3
    refine VW.ws tau_ok Sound.none [some 4] [(4, .val (i64 (-1)))] rfl ?_ ?_
    · simp <;> simp [ieq, ilt, ile]
    cases h
    refine VW.ret ?_
    simp [Post, PostM, PostC, PostC2, Nx, Bk]
  replace hb3 : ¬ (v1 < 0) := by simpa [ieq, ilt, ile] using hb3
  rw [if_neg hb3] at h
  refine VW.skip ?_
  refine hK2 _ ?_
  -- region 4
  obtain ⟨v4, hv4, h⟩ := bind_some h
  refine VW.ws tau_ok (Sound.none.add 14 (l_heldInt64SS_ok hv4) rfl) [some 11, some 12, some 13, some 14, some 1] [(1, .val (i64 v4)), (2, .val (.ptr [dM a0_0, dM a0_1, dM a0_2]))] rfl ?_ ?_
  · simp <;> simp [ieq, ilt, ile]
  refine VW.sqc fun K5 hK5 hCK5 => ?_
  -- region 5
  refine VW.ws tau_ok Sound.none [some 15, some 16] [(1, .val (i64 v4)), (2, .val (.ptr [dM a0_0, dM a0_1, dM a0_2])), (16, .val (.bool (ilt v4 0)))] rfl ?_ ?_
  · simp <;> simp [ieq, ilt, ile]
  refine VW.cond rfl (fun hb6 => ?_) (fun hb6 => ?_)
  ·
    replace hb6 : v4 < 0 := by simpa [ieq, ilt, ile] using hb6
    rw [if_pos hb6] at h
    -- region 6
    refine VW.ws tau_ok Sound.none [some 4] [(4, .val (i64 (-1)))] rfl ?_ ?_
    · simp <;> simp [ieq, ilt, ile]
    cases h
    refine VW.ret ?_
    simp [Post, PostM, PostC, PostC2, Nx, Bk]
  replace hb6 : ¬ (v4 < 0) := by simpa [ieq, ilt, ile] using hb6
  rw [if_neg hb6] at h
  refine VW.skip ?_
  refine hK5 _ ?_
  -- region 7
  obtain ⟨v7, hv7, h⟩ := bind_some h
  refine VW.ws tau_ok (Sound.none.add 20 (l_heldInt64SS_ok hv7) rfl) [some 17, some 18, some 19, some 20, some 1] [(1, .val (i64 v7))] rfl ?_ ?_
  · simp <;> simp [ieq, ilt, ile]
  refine VW.sqc fun K8 hK8 hCK8 => ?_
  -- region 8
  refine VW.ws tau_ok Sound.none [some 21, some 22] [(1, .val (i64 v7)), (22, .val (.bool (ilt v7 0)))] rfl ?_ ?_
  · simp <;> simp [ieq, ilt, ile]
  refine VW.cond rfl (fun hb9 => ?_) (fun hb9 => ?_)
  ·
    replace hb9 : v7 < 0 := by simpa [ieq, ilt, ile] using hb9
    rw [if_pos hb9] at h
    -- region 9
    refine VW.ws tau_ok Sound.none [some 4] [(4, .val (i64 (-1)))] rfl ?_ ?_
    · simp <;> simp [ieq, ilt, ile]
    cases h
    refine VW.ret ?_
    simp [Post, PostM, PostC, PostC2, Nx, Bk]
  replace hb9 : ¬ (v7 < 0) := by simpa [ieq, ilt, ile] using hb9
  rw [if_neg hb9] at h
  refine VW.skip ?_
  refine hK8 _ ?_
  -- region 10
  refine VW.ws tau_ok Sound.none [some 23, some 4] [(4, .val (i64 v7))] rfl ?_ ?_
  · simp <;> simp [ieq, ilt, ile]
  cases h
  refine VW.ret ?_
  simp [Post, PostM, PostC, PostC2, Nx, Bk]

set_option maxHeartbeats 4000000 in
theorem l_FnExactTimesTriple_ok {a0_0 : Int} {a0_1 : List Int} {a1_0 : List (List Int)} {a1_1 : List (List Int)} {a1_2 : List (List Int)} {a2_0 : List (List Int)} {a2_1 : List (List Int)} {a2_2 : List (List Int)} {r : Bool} (h : l_FnExactTimesTriple a0_0 a0_1 a1_0 a1_1 a1_2 a2_0 a2_1 a2_2 = some r) :
    VCall Try.prog 4 [.agg [i64 a0_0, dI a0_1], .agg [dM a1_0, dM a1_1, dM a1_2], .agg [dM a2_0, dM a2_1, dM a2_2]] [.sc (.bool r)] := by
  unfold l_FnExactTimesTriple at h
  refine VCall.enter Try.call4 Try.func4 rfl 142 Try.ntmps4 (by simp) [.tmp 6] rfl ?_
  show VW _ _ _ (mk [(0, .val (.agg [i64 a0_0, dI a0_1])), (1, .val (.agg [dM a1_0, dM a1_1, dM a1_2])), (2, .val (.agg [dM a2_0, dM a2_1, dM a2_2]))]) _
  -- region 0
  refine VW.ws tau_ok Sound.none [some 3, some 4, some 5, some 6] [(3, .val (.ptr [i64 a0_0, dI a0_1])), (4, .val (.ptr [dM a1_0, dM a1_1, dM a1_2])), (5, .val (.ptr [dM a2_0, dM a2_1, dM a2_2]))] rfl ?_ ?_
  · simp <;> simp [ieq, ilt, ile]
  -- region 1
  refine VW.ws tau_ok Sound.none [some 7] [(3, .val (.ptr [i64 a0_0, dI a0_1])), (4, .val (.ptr [dM a1_0, dM a1_1, dM a1_2])), (5, .val (.ptr [dM a2_0, dM a2_1, dM a2_2])), (7, .val (i64 1048576))] rfl ?_ ?_
  · simp <;> simp [ieq, ilt, ile]
  -- region 2
  obtain ⟨v1, hv1, h⟩ := bind_some h
  refine VW.ws tau_ok (Sound.none.add 22 (l_szDoubling_ok hv1) rfl) [some 20, some 21, some 22, some 7] [(3, .val (.ptr [i64 a0_0, dI a0_1])), (4, .val (.ptr [dM a1_0, dM a1_1, dM a1_2])), (5, .val (.ptr [dM a2_0, dM a2_1, dM a2_2])), (7, .val (i64 v1))] rfl ?_ ?_
  · simp <;> simp [ieq, ilt, ile]
  refine VW.sqc fun K2 hK2 hCK2 => ?_
  -- region 3
  refine VW.ws tau_ok Sound.none [some 23, some 24] [(3, .val (.ptr [i64 a0_0, dI a0_1])), (4, .val (.ptr [dM a1_0, dM a1_1, dM a1_2])), (5, .val (.ptr [dM a2_0, dM a2_1, dM a2_2])), (7, .val (i64 v1)), (24, .val (.bool (ilt v1 0)))] rfl ?_ ?_
  · simp <;> simp [ieq, ilt, ile]
  refine VW.cond rfl (fun hb3 => ?_) (fun hb3 => ?_)
  ·
    replace hb3 : v1 < 0 := by simpa [ieq, ilt, ile] using hb3
    rw [if_pos hb3] at h
    -- region 4
    refine VW.ws tau_ok Sound.none [some 6] [(6, .val (.bool true))] rfl ?_ ?_
    · simp <;> simp [ieq, ilt, ile]
    cases h
    refine VW.ret ?_
    simp [Post, PostM, PostC, PostC2, Nx, Bk]
  replace hb3 : ¬ (v1 < 0) := by simpa [ieq, ilt, ile] using hb3
  rw [if_neg hb3] at h
  refine VW.skip ?_
  refine hK2 _ ?_
  -- region 5
  obtain ⟨v4, hv4, h⟩ := bind_some h
  refine VW.ws tau_ok (Sound.none.add 27 (l_szTriple_ok hv4) rfl) [some 25, some 26, some 27, some 7] [(3, .val (.ptr [i64 a0_0, dI a0_1])), (4, .val (.ptr [dM a1_0, dM a1_1, dM a1_2])), (5, .val (.ptr [dM a2_0, dM a2_1, dM a2_2])), (7, .val (i64 v4))] rfl ?_ ?_
  · simp <;> simp [ieq, ilt, ile]
  refine VW.sqc fun K5 hK5 hCK5 => ?_
  -- region 6
  refine VW.ws tau_ok Sound.none [some 28, some 29] [(3, .val (.ptr [i64 a0_0, dI a0_1])), (4, .val (.ptr [dM a1_0, dM a1_1, dM a1_2])), (5, .val (.ptr [dM a2_0, dM a2_1, dM a2_2])), (7, .val (i64 v4)), (29, .val (.bool (ilt v4 0)))] rfl ?_ ?_
  · simp <;> simp [ieq, ilt, ile]
  refine VW.cond rfl (fun hb6 => ?_) (fun hb6 => ?_)
  ·
    replace hb6 : v4 < 0 := by simpa [ieq, ilt, ile] using hb6
    rw [if_pos hb6] at h
    -- region 7
    refine VW.ws tau_ok Sound.none [some 6] [(6, .val (.bool true))] rfl ?_ ?_
    · simp <;> simp [ieq, ilt, ile]
    cases h
    refine VW.ret ?_
    simp [Post, PostM, PostC, PostC2, Nx, Bk]
  replace hb6 : ¬ (v4 < 0) := by simpa [ieq, ilt, ile] using hb6
  rw [if_neg hb6] at h
  refine VW.skip ?_
  refine hK5 _ ?_
  -- region 8
  obtain ⟨v7, hv7, h⟩ := bind_some h
  refine VW.ws tau_ok (Sound.none.add 32 (l_szTriple_ok hv7) rfl) [some 30, some 31, some 32, some 7] [(3, .val (.ptr [i64 a0_0, dI a0_1])), (4, .val (.ptr [dM a1_0, dM a1_1, dM a1_2])), (5, .val (.ptr [dM a2_0, dM a2_1, dM a2_2])), (7, .val (i64 v7))] rfl ?_ ?_
  · simp <;> simp [ieq, ilt, ile]
  refine VW.sqc fun K8 hK8 hCK8 => ?_
  -- region 9
  refine VW.ws tau_ok Sound.none [some 33, some 34] [(3, .val (.ptr [i64 a0_0, dI a0_1])), (4, .val (.ptr [dM a1_0, dM a1_1, dM a1_2])), (5, .val (.ptr [dM a2_0, dM a2_1, dM a2_2])), (34, .val (.bool (ilt v7 0)))] rfl ?_ ?_
  · simp <;> simp [ieq, ilt, ile]
  refine VW.cond rfl (fun hb9 => ?_) (fun hb9 => ?_)
  ·
    replace hb9 : v7 < 0 := by simpa [ieq, ilt, ile] using hb9
    rw [if_pos hb9] at h
    -- region 10
    refine VW.ws tau_ok Sound.none [some 6] [(6, .val (.bool true))] rfl ?_ ?_
    · simp <;> simp [ieq, ilt, ile]
    cases h
    refine VW.ret ?_
    simp [Post, PostM, PostC, PostC2, Nx, Bk]
  replace hb9 : ¬ (v7 < 0) := by simpa [ieq, ilt, ile] using hb9
  rw [if_neg hb9] at h
  refine VW.skip ?_
  refine hK8 _ ?_
  -- region 11
  obtain ⟨v10, hv10, h⟩ := bind_some h
  obtain ⟨v11, hv11, h⟩ := bind_some h
  obtain ⟨v12, hv12, h⟩ := bind_some h
  obtain ⟨v13, hv13, h⟩ := bind_some h
  refine VW.wdsE tau_ok ((((Sound.none.add 37 (VCall.frz (l_toDoubling_ok hv10)) rfl).add 39 (VCall.frz (l_toTriple_ok hv11)) rfl).add 41 (VCall.frz (l_toTriple_ok hv12)) rfl).add 42 (VCall.frzT (s_TimesTriple_ok hv13)) rfl) try_mixed [some 36, some 37, some 38, some 39, some 40, some 41, some 42, some 35, some 43, some 44, some 8, none, some 9] [(3, .val (.ptr [i64 a0_0, dI a0_1])), (4, .val (.ptr [dM a1_0, dM a1_1, dM a1_2])), (5, .val (.ptr [dM a2_0, dM a2_1, dM a2_2])), (8, .val (.ptr [dM v13.1.1, dM v13.1.2.1, dM v13.1.2.2])), (9, .val (i64 v13.2))] 11 [9] rfl (by kernel_rfl) (by kernel_rfl) (by rfl) (by
    intro i hi
    simp only [List.mem_cons, List.not_mem_nil, or_false] at hi
    subst hi
    simp [exS]) ?_ ?_
  · simp <;> simp [ieq, ilt, ile]
  -- region 12
  obtain ⟨v14, hv14, h⟩ := bind_some h
  refine VW.ws tau_ok (Sound.none.add 46 (l_toDoubling_ok hv14) rfl) [some 45, some 46, some 10, none] [(3, .val (.ptr [i64 a0_0, dI a0_1])), (4, .val (.ptr [dM a1_0, dM a1_1, dM a1_2])), (5, .val (.ptr [dM a2_0, dM a2_1, dM a2_2])), (8, .val (.ptr [dM v13.1.1, dM v13.1.2.1, dM v13.1.2.2])), (9, .val (i64 v13.2)), (10, .ref 10 [] true (.ptr [i64 v14.1, dI v14.2]))] rfl ?_ ?_
  · simp <;> simp [ieq, ilt, ile]
  -- region 13
  obtain ⟨v15, hv15, h⟩ := bind_some h
  refine VW.ws tau_ok (Sound.none.add 48 (l_toTriple_ok hv15) rfl) [some 47, some 48, some 11, none] [(3, .val (.ptr [i64 a0_0, dI a0_1])), (4, .val (.ptr [dM a1_0, dM a1_1, dM a1_2])), (5, .val (.ptr [dM a2_0, dM a2_1, dM a2_2])), (8, .val (.ptr [dM v13.1.1, dM v13.1.2.1, dM v13.1.2.2])), (9, .val (i64 v13.2)), (10, .ref 10 [] true (.ptr [i64 v14.1, dI v14.2])), (11, .ref 11 [] true (.ptr [dM v15.1, dM v15.2.1, dM v15.2.2]))] rfl ?_ ?_
  · simp <;> simp [ieq, ilt, ile]
  -- region 14
  obtain ⟨v16, hv16, h⟩ := bind_some h
  refine VW.ws tau_ok (Sound.none.add 50 (l_toTriple_ok hv16) rfl) [some 49, some 50, some 12, none] [(3, .val (.ptr [i64 a0_0, dI a0_1])), (4, .val (.ptr [dM a1_0, dM a1_1, dM a1_2])), (5, .val (.ptr [dM a2_0, dM a2_1, dM a2_2])), (8, .val (.ptr [dM v13.1.1, dM v13.1.2.1, dM v13.1.2.2])), (9, .val (i64 v13.2)), (10, .ref 10 [] true (.ptr [i64 v14.1, dI v14.2])), (11, .ref 11 [] true (.ptr [dM v15.1, dM v15.2.1, dM v15.2.2])), (12, .ref 12 [] true (.ptr [dM v16.1, dM v16.2.1, dM v16.2.2]))] rfl ?_ ?_
  · simp <;> simp [ieq, ilt, ile]
  -- region 15
  obtain ⟨v17, hv17, h⟩ := bind_some h
  refine VW.ws tau_ok (Sound.none.add 55 (i_TimesTriple_ok hv17) rfl) [some 52, some 53, some 54, some 55, some 51, some 56, some 57, some 13, none, some 14] [(3, .val (.ptr [i64 a0_0, dI a0_1])), (4, .val (.ptr [dM a1_0, dM a1_1, dM a1_2])), (5, .val (.ptr [dM a2_0, dM a2_1, dM a2_2])), (8, .val (.ptr [dM v13.1.1, dM v13.1.2.1, dM v13.1.2.2])), (9, .val (i64 v13.2)), (10, .ref 10 [] true (.ptr [i64 v14.1, dI v14.2])), (11, .ref 11 [] true (.ptr [dM v15.1, dM v15.2.1, dM v15.2.2])), (12, .ref 12 [] true (.ptr [dM v16.1, dM v16.2.1, dM v16.2.2])), (13, .ref 13 [] true (.ptr [dM v17.1.1, dM v17.1.2.1, dM v17.1.2.2])), (14, .val (i64 v17.2))] rfl ?_ ?_
  · simp <;> simp [ieq, ilt, ile]
  refine VW.sqc fun K18 hK18 hCK18 => ?_
  -- region 16
  obtain ⟨x21, hx21, h⟩ := bind_some h
  refine VW.cut [(3, .val (.ptr [i64 a0_0, dI a0_1])), (4, .val (.ptr [dM a1_0, dM a1_1, dM a1_2])), (5, .val (.ptr [dM a2_0, dM a2_1, dM a2_2])), (8, .val (.ptr [dM v13.1.1, dM v13.1.2.1, dM v13.1.2.2])), (9, .val (i64 v13.2)), (10, .ref 10 [] true (.ptr [i64 v14.1, dI v14.2])), (11, .ref 11 [] true (.ptr [dM v15.1, dM v15.2.1, dM v15.2.2])), (12, .ref 12 [] true (.ptr [dM v16.1, dM v16.2.1, dM v16.2.2])), (13, .ref 13 [] true (.ptr [dM v17.1.1, dM v17.1.2.1, dM v17.1.2.2])), (14, .val (i64 v17.2)), (66, .val (.bool x21))] ?_ fun hy => ?_
  rotate_left
  · clear h
    obtain ⟨v19, hv19, hx21⟩ := bind_some hx21
    by_cases hp20 : v19 = false
    · rw [if_pos hp20] at hx21
      have hp20b : v19 = false := by simpa [ieq, ilt, ile] using hp20
      have hp20s := hp20b
      try simp at hp20s
      cases hx21
      refine VW.ws tau_ok (Sound.none.add 60 (l_eqTriple_ok hv19) rfl) [some 58, some 59, some 60, some 61, some 62, some 63, some 64, some 65, some 66] _ rfl ?_ hy
      simp [hp20b, hp20s] <;> simp [ieq, ilt, ile]
    · rw [if_neg hp20] at hx21
      have hp20b : v19 = true := by simpa [ieq, ilt, ile] using hp20
      have hp20s := hp20b
      try simp at hp20s
      cases hx21
      refine VW.ws tau_ok (Sound.none.add 60 (l_eqTriple_ok hv19) rfl) [some 58, some 59, some 60, some 61, some 62, some 63, some 64, some 65, some 66] _ rfl ?_ hy
      simp [hp20b, hp20s] <;> simp [ieq, ilt, ile]
  refine VW.cond rfl (fun hb22 => ?_) (fun hb22 => ?_)
  ·
    replace hb22 : x21 = true := by simpa [ieq, ilt, ile] using hb22
    rw [if_pos hb22] at h
    -- region 17
    refine VW.ws tau_ok Sound.none [some 6] [(6, .val (.bool false))] rfl ?_ ?_
    · simp <;> simp [ieq, ilt, ile]
    cases h
    refine VW.ret ?_
    simp [Post, PostM, PostC, PostC2, Nx, Bk]
  replace hb22 : ¬ (x21 = true) := by simpa [ieq, ilt, ile] using hb22
  rw [if_neg hb22] at h
  refine VW.skip ?_
  refine hK18 _ ?_
  refine VW.sqc fun K23 hK23 hCK23 => ?_
  -- region 18
  obtain ⟨v24, hv24, h⟩ := bind_some h
  obtain ⟨v25, hv25, h⟩ := bind_some h
  refine VW.wds tau_ok ((Sound.none.add 69 (l_toDoubling_ok hv24) rfl).add 70 (l_eqDoubling_ok hv25) rfl) try_mixed [some 67, some 68, some 69, some 70, some 71] [(3, .val (.ptr [i64 a0_0, dI a0_1])), (4, .val (.ptr [dM a1_0, dM a1_1, dM a1_2])), (5, .val (.ptr [dM a2_0, dM a2_1, dM a2_2])), (8, .val (.ptr [dM v13.1.1, dM v13.1.2.1, dM v13.1.2.2])), (9, .val (i64 v13.2)), (10, .ref 10 [] true (.ptr [i64 v14.1, dI v14.2])), (11, .ref 11 [] true (.ptr [dM v15.1, dM v15.2.1, dM v15.2.2])), (12, .ref 12 [] true (.ptr [dM v16.1, dM v16.2.1, dM v16.2.2])), (13, .ref 13 [] true (.ptr [dM v17.1.1, dM v17.1.2.1, dM v17.1.2.2])), (14, .val (i64 v17.2)), (71, .val (.bool (!v25)))] 5 rfl (by kernel_rfl) (by rfl) ?_ ?_
  · simp <;> simp [ieq, ilt, ile]
  refine VW.cond rfl (fun hb26 => ?_) (fun hb26 => ?_)
  ·
    replace hb26 : v25 = false := by simpa [ieq, ilt, ile] using hb26
    rw [if_pos hb26] at h
    -- region 19
    refine VW.ws tau_ok Sound.none [some 6] [(6, .val (.bool false))] rfl ?_ ?_
    · simp <;> simp [ieq, ilt, ile]
    cases h
    refine VW.ret ?_
    simp [Post, PostM, PostC, PostC2, Nx, Bk]
  replace hb26 : ¬ (v25 = false) := by simpa [ieq, ilt, ile] using hb26
  rw [if_neg hb26] at h
  refine VW.skip ?_
  refine hK23 _ ?_
  refine VW.sqc fun K27 hK27 hCK27 => ?_
  -- region 20
  obtain ⟨v28, hv28, h⟩ := bind_some h
  obtain ⟨v29, hv29, h⟩ := bind_some h
  refine VW.wds tau_ok ((Sound.none.add 74 (l_toTriple_ok hv28) rfl).add 75 (l_eqTriple_ok hv29) rfl) try_mixed [some 72, some 73, some 74, some 75, some 76] [(3, .val (.ptr [i64 a0_0, dI a0_1])), (4, .val (.ptr [dM a1_0, dM a1_1, dM a1_2])), (5, .val (.ptr [dM a2_0, dM a2_1, dM a2_2])), (8, .val (.ptr [dM v13.1.1, dM v13.1.2.1, dM v13.1.2.2])), (9, .val (i64 v13.2)), (10, .ref 10 [] true (.ptr [i64 v14.1, dI v14.2])), (11, .ref 11 [] true (.ptr [dM v15.1, dM v15.2.1, dM v15.2.2])), (12, .ref 12 [] true (.ptr [dM v16.1, dM v16.2.1, dM v16.2.2])), (13, .ref 13 [] true (.ptr [dM v17.1.1, dM v17.1.2.1, dM v17.1.2.2])), (14, .val (i64 v17.2)), (76, .val (.bool (!v29)))] 5 rfl (by kernel_rfl) (by rfl) ?_ ?_
  · simp <;> simp [ieq, ilt, ile]
  refine VW.cond rfl (fun hb30 => ?_) (fun hb30 => ?_)
  ·
    replace hb30 : v29 = false := by simpa [ieq, ilt, ile] using hb30
    rw [if_pos hb30] at h
    -- region 21
    refine VW.ws tau_ok Sound.none [some 6] [(6, .val (.bool false))] rfl ?_ ?_
    · simp <;> simp [ieq, ilt, ile]
    cases h
    refine VW.ret ?_
    simp [Post, PostM, PostC, PostC2, Nx, Bk]
  replace hb30 : ¬ (v29 = false) := by simpa [ieq, ilt, ile] using hb30
  rw [if_neg hb30] at h
  refine VW.skip ?_
  refine hK27 _ ?_
  refine VW.sqc fun K31 hK31 hCK31 => ?_
  -- region 22
  obtain ⟨v32, hv32, h⟩ := bind_some h
  obtain ⟨v33, hv33, h⟩ := bind_some h
  refine VW.wds tau_ok ((Sound.none.add 79 (l_toTriple_ok hv32) rfl).add 80 (l_eqTriple_ok hv33) rfl) try_mixed [some 77, some 78, some 79, some 80, some 81] [(3, .val (.ptr [i64 a0_0, dI a0_1])), (4, .val (.ptr [dM a1_0, dM a1_1, dM a1_2])), (5, .val (.ptr [dM a2_0, dM a2_1, dM a2_2])), (8, .val (.ptr [dM v13.1.1, dM v13.1.2.1, dM v13.1.2.2])), (9, .val (i64 v13.2)), (10, .ref 10 [] true (.ptr [i64 v14.1, dI v14.2])), (11, .ref 11 [] true (.ptr [dM v15.1, dM v15.2.1, dM v15.2.2])), (12, .ref 12 [] true (.ptr [dM v16.1, dM v16.2.1, dM v16.2.2])), (13, .ref 13 [] true (.ptr [dM v17.1.1, dM v17.1.2.1, dM v17.1.2.2])), (14, .val (i64 v17.2)), (81, .val (.bool (!v33)))] 5 rfl (by kernel_rfl) (by rfl) ?_ ?_
  · simp <;> simp [ieq, ilt, ile]
  refine VW.cond rfl (fun hb34 => ?_) (fun hb34 => ?_)
  ·
    replace hb34 : v33 = false := by simpa [ieq, ilt, ile] using hb34
    rw [if_pos hb34] at h
    -- region 23
    refine VW.ws tau_ok Sound.none [some 6] [(6, .val (.bool false))] rfl ?_ ?_
    · simp <;> simp [ieq, ilt, ile]
    cases h
    refine VW.ret ?_
    simp [Post, PostM, PostC, PostC2, Nx, Bk]
  replace hb34 : ¬ (v33 = false) := by simpa [ieq, ilt, ile] using hb34
  rw [if_neg hb34] at h
  refine VW.skip ?_
  refine hK31 _ ?_
  -- region 24
  refine VW.ws tau_ok Sound.none [some 15] [(3, .val (.ptr [i64 a0_0, dI a0_1])), (4, .val (.ptr [dM a1_0, dM a1_1, dM a1_2])), (5, .val (.ptr [dM a2_0, dM a2_1, dM a2_2])), (8, .val (.ptr [dM v13.1.1, dM v13.1.2.1, dM v13.1.2.2])), (9, .val (i64 v13.2)), (10, .ref 10 [] true (.ptr [i64 v14.1, dI v14.2])), (11, .ref 11 [] true (.ptr [dM v15.1, dM v15.2.1, dM v15.2.2])), (12, .ref 12 [] true (.ptr [dM v16.1, dM v16.2.1, dM v16.2.2])), (13, .ref 13 [] true (.ptr [dM v17.1.1, dM v17.1.2.1, dM v17.1.2.2])), (14, .val (i64 v17.2)), (15, .val (i64 1))] rfl ?_ ?_
  · simp <;> simp [ieq, ilt, ile]
  -- region 25
  obtain ⟨v35, hv35, h⟩ := bind_some h
  refine VW.ws tau_ok (Sound.none.spoilc 84 (l_markDoubling_ok hv35)) [some 82, some 83, some 84, some 15] [(3, .val (.ptr [i64 a0_0, dI a0_1])), (4, .val (.ptr [dM a1_0, dM a1_1, dM a1_2])), (5, .val (.ptr [dM a2_0, dM a2_1, dM a2_2])), (8, .val (.ptr [dM v13.1.1, dM v13.1.2.1, dM v13.1.2.2])), (9, .val (i64 v13.2)), (11, .ref 11 [] true (.ptr [dM v15.1, dM v15.2.1, dM v15.2.2])), (12, .ref 12 [] true (.ptr [dM v16.1, dM v16.2.1, dM v16.2.2])), (13, .ref 13 [] true (.ptr [dM v17.1.1, dM v17.1.2.1, dM v17.1.2.2])), (14, .val (i64 v17.2)), (15, .val (i64 v35))] rfl ?_ ?_
  · simp <;> simp [ieq, ilt, ile]
  -- region 26
  obtain ⟨v36, hv36, h⟩ := bind_some h
  refine VW.ws tau_ok (Sound.none.mutc 87 (l_markTriple_m_ok hv36)) [some 85, some 86, some 87, some 15] [(3, .val (.ptr [i64 a0_0, dI a0_1])), (4, .val (.ptr [dM a1_0, dM a1_1, dM a1_2])), (5, .val (.ptr [dM a2_0, dM a2_1, dM a2_2])), (8, .val (.ptr [dM v13.1.1, dM v13.1.2.1, dM v13.1.2.2])), (9, .val (i64 v13.2)), (12, .ref 12 [] true (.ptr [dM v16.1, dM v16.2.1, dM v16.2.2])), (13, .ref 13 [] true (.ptr [dM v17.1.1, dM v17.1.2.1, dM v17.1.2.2])), (14, .val (i64 v17.2)), (15, .val (i64 v36.1))] rfl ?_ ?_
  · simp <;> simp [ieq, ilt, ile]
  -- region 27
  obtain ⟨v37, hv37, h⟩ := bind_some h
  refine VW.ws tau_ok (Sound.none.mutc 90 (l_markTriple_m_ok hv37)) [some 88, some 89, some 90, some 15] [(3, .val (.ptr [i64 a0_0, dI a0_1])), (4, .val (.ptr [dM a1_0, dM a1_1, dM a1_2])), (5, .val (.ptr [dM a2_0, dM a2_1, dM a2_2])), (8, .val (.ptr [dM v13.1.1, dM v13.1.2.1, dM v13.1.2.2])), (9, .val (i64 v13.2)), (13, .ref 13 [] true (.ptr [dM v17.1.1, dM v17.1.2.1, dM v17.1.2.2])), (14, .val (i64 v17.2)), (15, .val (i64 v37.1))] rfl ?_ ?_
  · simp <;> simp [ieq, ilt, ile]
  refine VW.sqc fun K38 hK38 hCK38 => ?_
  -- region 28
  obtain ⟨x42, hx42, h⟩ := bind_some h
  refine VW.cut [(3, .val (.ptr [i64 a0_0, dI a0_1])), (4, .val (.ptr [dM a1_0, dM a1_1, dM a1_2])), (5, .val (.ptr [dM a2_0, dM a2_1, dM a2_2])), (8, .val (.ptr [dM v13.1.1, dM v13.1.2.1, dM v13.1.2.2])), (9, .val (i64 v13.2)), (13, .ref 13 [] true (.ptr [dM v17.1.1, dM v17.1.2.1, dM v17.1.2.2])), (103, .val (.bool x42))] ?_ fun hy => ?_
  rotate_left
  · clear h
    by_cases hp39 : v37.1 < 0
    · rw [if_pos hp39] at hx42
      have hp39b : ilt v37.1 0 = true := by simpa [ieq, ilt, ile] using hp39
      have hp39s := hp39b
      try simp at hp39s
      cases hx42
      refine VW.ws tau_ok Sound.none [some 91, some 92, some 93, some 94, some 95, some 96, some 97, some 98, some 99, some 100, some 101, some 102, some 103] _ rfl ?_ hy
      simp [hp39b, hp39s] <;> simp [ieq, ilt, ile]
    · rw [if_neg hp39] at hx42
      have hp39b : ilt v37.1 0 = false := by simpa [ieq, ilt, ile] using hp39
      have hp39s := hp39b
      try simp at hp39s
      obtain ⟨v40, hv40, hx42⟩ := bind_some hx42
      by_cases hp41 : v40 = false
      · rw [if_pos hp41] at hx42
        have hp41b : v40 = false := by simpa [ieq, ilt, ile] using hp41
        have hp41s := hp41b
        try simp at hp41s
        cases hx42
        refine VW.ws tau_ok (Sound.none.add 96 (l_eqTriple_ok hv40) rfl) [some 91, some 92, some 93, some 94, some 95, some 96, some 97, some 98, some 99, some 100, some 101, some 102, some 103] _ rfl ?_ hy
        simp [hp39b, hp39s, hp41b, hp41s] <;> simp [ieq, ilt, ile]
      · rw [if_neg hp41] at hx42
        have hp41b : v40 = true := by simpa [ieq, ilt, ile] using hp41
        have hp41s := hp41b
        try simp at hp41s
        cases hx42
        refine VW.ws tau_ok (Sound.none.add 96 (l_eqTriple_ok hv40) rfl) [some 91, some 92, some 93, some 94, some 95, some 96, some 97, some 98, some 99, some 100, some 101, some 102, some 103] _ rfl ?_ hy
        simp [hp39b, hp39s, hp41b, hp41s] <;> simp [ieq, ilt, ile]
  refine VW.cond rfl (fun hb43 => ?_) (fun hb43 => ?_)
  ·
    replace hb43 : x42 = true := by simpa [ieq, ilt, ile] using hb43
    rw [if_pos hb43] at h
    -- region 29
    refine VW.ws tau_ok Sound.none [some 6] [(6, .val (.bool false))] rfl ?_ ?_
    · simp <;> simp [ieq, ilt, ile]
    cases h
    refine VW.ret ?_
    simp [Post, PostM, PostC, PostC2, Nx, Bk]
  replace hb43 : ¬ (x42 = true) := by simpa [ieq, ilt, ile] using hb43
  rw [if_neg hb43] at h
  refine VW.skip ?_
  refine hK38 _ ?_
  -- region 30
  refine VW.ws tau_ok Sound.none [some 16] [(3, .val (.ptr [i64 a0_0, dI a0_1])), (4, .val (.ptr [dM a1_0, dM a1_1, dM a1_2])), (5, .val (.ptr [dM a2_0, dM a2_1, dM a2_2])), (8, .val (.ptr [dM v13.1.1, dM v13.1.2.1, dM v13.1.2.2])), (9, .val (i64 v13.2)), (13, .ref 13 [] true (.ptr [dM v17.1.1, dM v17.1.2.1, dM v17.1.2.2])), (16, .val (i64 1))] rfl ?_ ?_
  · simp <;> simp [ieq, ilt, ile]
  -- region 31
  obtain ⟨v44, hv44, h⟩ := bind_some h
  refine VW.ws tau_ok (Sound.none.mutc 106 (l_markTriple_m_ok hv44)) [some 104, some 105, some 106, some 16] [(3, .val (.ptr [i64 a0_0, dI a0_1])), (4, .val (.ptr [dM a1_0, dM a1_1, dM a1_2])), (5, .val (.ptr [dM a2_0, dM a2_1, dM a2_2])), (8, .val (.ptr [dM v13.1.1, dM v13.1.2.1, dM v13.1.2.2])), (9, .val (i64 v13.2)), (13, .ref 13 [] true (.ptr [dM v44.2.1, dM v44.2.2.1, dM v44.2.2.2])), (16, .val (i64 v44.1))] rfl ?_ ?_
  · simp <;> simp [ieq, ilt, ile]
  -- region 32
  refine VW.ws tau_ok Sound.none [some 17] [(3, .val (.ptr [i64 a0_0, dI a0_1])), (4, .val (.ptr [dM a1_0, dM a1_1, dM a1_2])), (5, .val (.ptr [dM a2_0, dM a2_1, dM a2_2])), (8, .val (.ptr [dM v13.1.1, dM v13.1.2.1, dM v13.1.2.2])), (9, .val (i64 v13.2)), (13, .ref 13 [] true (.ptr [dM v44.2.1, dM v44.2.2.1, dM v44.2.2.2])), (16, .val (i64 v44.1)), (17, .val (i64 1))] rfl ?_ ?_
  · simp <;> simp [ieq, ilt, ile]
  -- region 33
  obtain ⟨v45, hv45, h⟩ := bind_some h
  refine VW.ws tau_ok (Sound.none.add 109 (l_heldTriple_ok hv45) rfl) [some 107, some 108, some 109, some 17] [(3, .val (.ptr [i64 a0_0, dI a0_1])), (4, .val (.ptr [dM a1_0, dM a1_1, dM a1_2])), (5, .val (.ptr [dM a2_0, dM a2_1, dM a2_2])), (8, .val (.ptr [dM v13.1.1, dM v13.1.2.1, dM v13.1.2.2])), (9, .val (i64 v13.2)), (13, .ref 13 [] true (.ptr [dM v44.2.1, dM v44.2.2.1, dM v44.2.2.2])), (16, .val (i64 v44.1)), (17, .val (i64 v45))] rfl ?_ ?_
  · simp <;> simp [ieq, ilt, ile]
  refine VW.sqc fun K46 hK46 hCK46 => ?_
  -- region 34
  refine VW.ws tau_ok Sound.none [some 110, some 111] [(3, .val (.ptr [i64 a0_0, dI a0_1])), (4, .val (.ptr [dM a1_0, dM a1_1, dM a1_2])), (5, .val (.ptr [dM a2_0, dM a2_1, dM a2_2])), (8, .val (.ptr [dM v13.1.1, dM v13.1.2.1, dM v13.1.2.2])), (9, .val (i64 v13.2)), (13, .ref 13 [] true (.ptr [dM v44.2.1, dM v44.2.2.1, dM v44.2.2.2])), (16, .val (i64 v44.1)), (17, .val (i64 v45)), (111, .val (.bool (ilt v45 0)))] rfl ?_ ?_
  · simp <;> simp [ieq, ilt, ile]
  refine VW.cond rfl (fun hb47 => ?_) (fun hb47 => ?_)
  ·
    replace hb47 : v45 < 0 := by simpa [ieq, ilt, ile] using hb47
    rw [if_pos hb47] at h
    -- region 35
    refine VW.ws tau_ok Sound.none [some 6] [(6, .val (.bool false))] rfl ?_ ?_
    · simp <;> simp [ieq, ilt, ile]
    cases h
    refine VW.ret ?_
    simp [Post, PostM, PostC, PostC2, Nx, Bk]
  replace hb47 : ¬ (v45 < 0) := by simpa [ieq, ilt, ile] using hb47
  rw [if_neg hb47] at h
  refine VW.skip ?_
  refine hK46 _ ?_
  refine VW.sqc fun K48 hK48 hCK48 => ?_
  -- region 36
  refine VW.ws tau_ok Sound.none [some 112, some 113, some 114] [(3, .val (.ptr [i64 a0_0, dI a0_1])), (4, .val (.ptr [dM a1_0, dM a1_1, dM a1_2])), (5, .val (.ptr [dM a2_0, dM a2_1, dM a2_2])), (8, .val (.ptr [dM v13.1.1, dM v13.1.2.1, dM v13.1.2.2])), (9, .val (i64 v13.2)), (13, .ref 13 [] true (.ptr [dM v44.2.1, dM v44.2.2.1, dM v44.2.2.2])), (16, .val (i64 v44.1)), (114, .val (.bool (!(ieq v45 v44.1))))] rfl ?_ ?_
  · simp <;> simp [ieq, ilt, ile]
  refine VW.cond rfl (fun hb49 => ?_) (fun hb49 => ?_)
  ·
    replace hb49 : ¬ v45 = v44.1 := by simpa [ieq, ilt, ile] using hb49
    rw [if_pos hb49] at h
    -- region 37
    refine VW.ws tau_ok Sound.none [some 6] [(6, .val (.bool false))] rfl ?_ ?_
    · simp <;> simp [ieq, ilt, ile]
    cases h
    refine VW.ret ?_
    simp [Post, PostM, PostC, PostC2, Nx, Bk]
  replace hb49 : ¬ (¬ v45 = v44.1) := by simpa [ieq, ilt, ile] using hb49
  rw [if_neg hb49] at h
  refine VW.skip ?_
  refine hK48 _ ?_
  -- region 38
  obtain ⟨v50, hv50, h⟩ := bind_some h
  obtain ⟨v51, hv51, h⟩ := bind_some h
  obtain ⟨v52, hv52, h⟩ := bind_some h
  obtain ⟨v53, hv53, h⟩ := bind_some h
  refine VW.wdsE tau_ok ((((Sound.none.add 117 (VCall.frz (l_toDoubling_ok hv50)) rfl).add 119 (VCall.frz (l_toTriple_ok hv51)) rfl).add 121 (VCall.frz (l_toTriple_ok hv52)) rfl).add 122 (VCall.frzT (i_TimesTriple_ok hv53)) rfl) try_mixed [some 116, some 117, some 118, some 119, some 120, some 121, some 122, some 115, some 123, some 124, some 18, none, some 19] [(8, .val (.ptr [dM v13.1.1, dM v13.1.2.1, dM v13.1.2.2])), (9, .val (i64 v13.2)), (13, .ref 13 [] true (.ptr [dM v44.2.1, dM v44.2.2.1, dM v44.2.2.2])), (16, .val (i64 v44.1)), (18, .val (.ptr [dM v53.1.1, dM v53.1.2.1, dM v53.1.2.2])), (19, .val (i64 v53.2))] 11 [9] rfl (by kernel_rfl) (by kernel_rfl) (by rfl) (by
    intro i hi
    simp only [List.mem_cons, List.not_mem_nil, or_false] at hi
    subst hi
    simp [exS]) ?_ ?_
  · simp <;> simp [ieq, ilt, ile]
  refine VW.sqc fun K54 hK54 hCK54 => ?_
  -- region 39
  obtain ⟨x57, hx57, h⟩ := bind_some h
  refine VW.cut [(13, .ref 13 [] true (.ptr [dM v44.2.1, dM v44.2.2.1, dM v44.2.2.2])), (16, .val (i64 v44.1)), (133, .val (.bool x57))] ?_ fun hy => ?_
  rotate_left
  · clear h
    obtain ⟨v55, hv55, hx57⟩ := bind_some hx57
    by_cases hp56 : v55 = false
    · rw [if_pos hp56] at hx57
      have hp56b : v55 = false := by simpa [ieq, ilt, ile] using hp56
      have hp56s := hp56b
      try simp at hp56s
      cases hx57
      refine VW.ws tau_ok (Sound.none.add 127 (l_eqTriple_ok hv55) rfl) [some 125, some 126, some 127, some 128, some 129, some 130, some 131, some 132, some 133] _ rfl ?_ hy
      simp [hp56b, hp56s] <;> simp [ieq, ilt, ile]
    · rw [if_neg hp56] at hx57
      have hp56b : v55 = true := by simpa [ieq, ilt, ile] using hp56
      have hp56s := hp56b
      try simp at hp56s
      cases hx57
      refine VW.ws tau_ok (Sound.none.add 127 (l_eqTriple_ok hv55) rfl) [some 125, some 126, some 127, some 128, some 129, some 130, some 131, some 132, some 133] _ rfl ?_ hy
      simp [hp56b, hp56s] <;> simp [ieq, ilt, ile]
  refine VW.cond rfl (fun hb58 => ?_) (fun hb58 => ?_)
  ·
    replace hb58 : x57 = true := by simpa [ieq, ilt, ile] using hb58
    rw [if_pos hb58] at h
    -- region 40
    refine VW.ws tau_ok Sound.none [some 6] [(6, .val (.bool false))] rfl ?_ ?_
    · simp <;> simp [ieq, ilt, ile]
    cases h
    refine VW.ret ?_
    simp [Post, PostM, PostC, PostC2, Nx, Bk]
  replace hb58 : ¬ (x57 = true) := by simpa [ieq, ilt, ile] using hb58
  rw [if_neg hb58] at h
  refine VW.skip ?_
  refine hK54 _ ?_
  -- region 41
  refine VW.ws tau_ok Sound.none [some 17] [(13, .ref 13 [] true (.ptr [dM v44.2.1, dM v44.2.2.1, dM v44.2.2.2])), (16, .val (i64 v44.1)), (17, .val (i64 1))] rfl ?_ ?_
  · simp <;> simp [ieq, ilt, ile]
  -- region 42
  obtain ⟨v59, hv59, h⟩ := bind_some h
  refine VW.ws tau_ok (Sound.none.add 136 (l_heldTriple_ok hv59) rfl) [some 134, some 135, some 136, some 17] [(16, .val (i64 v44.1)), (17, .val (i64 v59))] rfl ?_ ?_
  · simp <;> simp [ieq, ilt, ile]
  refine VW.sqc fun K60 hK60 hCK60 => ?_
  -- region 43
  refine VW.ws tau_ok Sound.none [some 137, some 138] [(16, .val (i64 v44.1)), (17, .val (i64 v59)), (138, .val (.bool (ilt v59 0)))] rfl ?_ ?_
  · simp <;> simp [ieq, ilt, ile]
  refine VW.cond rfl (fun hb61 => ?_) (fun hb61 => ?_)
  ·
    replace hb61 : v59 < 0 := by simpa [ieq, ilt, ile] using hb61
    rw [if_pos hb61] at h
    -- region 44
    refine VW.ws tau_ok Sound.none [some 6] [(6, .val (.bool false))] rfl ?_ ?_
    · simp <;> simp [ieq, ilt, ile]
    cases h
    refine VW.ret ?_
    simp [Post, PostM, PostC, PostC2, Nx, Bk]
  replace hb61 : ¬ (v59 < 0) := by simpa [ieq, ilt, ile] using hb61
  rw [if_neg hb61] at h
  refine VW.skip ?_
  refine hK60 _ ?_
  refine VW.sqc fun K62 hK62 hCK62 => ?_
  -- region 45
  refine VW.ws tau_ok Sound.none [some 139, some 140, some 141] [(141, .val (.bool (!(ieq v59 v44.1))))] rfl ?_ ?_
  · simp <;> simp [ieq, ilt, ile]
  refine VW.cond rfl (fun hb63 => ?_) (fun hb63 => ?_)
  ·
    replace hb63 : ¬ v59 = v44.1 := by simpa [ieq, ilt, ile] using hb63
    rw [if_pos hb63] at h
    -- region 46
    refine VW.ws tau_ok Sound.none [some 6] [(6, .val (.bool false))] rfl ?_ ?_
    · simp <;> simp [ieq, ilt, ile]
    cases h
    refine VW.ret ?_
    simp [Post, PostM, PostC, PostC2, Nx, Bk]
  replace hb63 : ¬ (¬ v59 = v44.1) := by simpa [ieq, ilt, ile] using hb63
  rw [if_neg hb63] at h
  refine VW.skip ?_
  refine hK62 _ ?_
  -- region 47
  refine VW.ws tau_ok Sound.none [some 6] [(6, .val (.bool true))] rfl ?_ ?_
  · simp <;> simp [ieq, ilt, ile]
  cases h
  refine VW.ret ?_
  simp [Post, PostM, PostC, PostC2, Nx, Bk]
end Go.Vam
