import Derived.Test.YtjkknabmfdodeaaR4T
import Derived.Test.YtjkknabmfdodeaaFnJ
import Derived.Test.YtjkknabmfdodeaaR4NW1
namespace Go.Vam
open Go Go.RowKit Go.Proofs
set_option maxRecDepth 100000
set_option linter.unusedSimpArgs false
set_option linter.unusedVariables false

theorem s_l11Times_ok {a0_0 : Int} {a0_1 : List Int} {a1 : List Int} {a2 : List Int} {r : List Int} (h : s_l11Times a0_0 a0_1 a1 a2 = some r) :
    VCall Try.prog 103 [.agg [i64 a0_0, dI a0_1], dI a1, dI a2] [.own true (dI r)] := by
  unfold s_l11Times at h
  refine VCall.enter Try.call103 Try.func103 rfl 14 Try.ntmps103 (by simp) [.tmp 6] rfl ?_
  show VW _ _ _ (mk [(0, .val (.agg [i64 a0_0, dI a0_1])), (1, .val (dI a1)), (2, .val (dI a2))]) _
  -- region 0
  refine VW.ws tau_ok Sound.none [some 3, some 6] [(1, .val (dI a1)), (2, .val (dI a2)), (3, .val (.ptr [i64 a0_0, dI a0_1]))] rfl ?_ ?_
  · simp <;> simp [ieq, ilt, ile]
  -- region 1
  obtain ⟨v1, hv1, h⟩ := bind_some h
  refine VW.ws tau_ok (Sound.none.add 13 (s_l11Mul_ok (n := BIG) hv1) rfl) [some 7, some 8, some 9, some 10, some 11, some 12, some 13, some 6] [(6, .ref 6 [] true (dI v1))] rfl ?_ ?_
  · simp <;> simp [ieq, ilt, ile]
  cases h
  refine VW.ret ?_
  simp [Post, PostM, PostC, PostC2, Nx, Bk]

theorem s_l11Columns_ok {a0 : List (List Int)} {r : List (List Int)} (h : s_l11Columns a0 = some r) :
    VCall Try.prog 105 [dM a0] [.own true (dM r)] := by
  unfold s_l11Columns at h
  refine VCall.enter Try.call105 Try.func105 rfl 36 Try.ntmps105 (by simp) [.tmp 2] rfl ?_
  show VW _ _ _ (mk [(0, .val (dM a0))]) _
  -- region 0
  refine VW.ws tau_ok Sound.none [some 2] [(0, .val (dM a0))] rfl ?_ ?_
  · simp <;> simp [ieq, ilt, ile]
  -- region 1
  refine VW.ws tau_ok Sound.none [some 7, some 3] [(0, .val (dM a0)), (3, .ref 3 [] true (dM []))] rfl ?_ ?_
  · simp <;> simp [ieq, ilt, ile]
  refine VW.sqc fun K1 hK1 hCK1 => ?_
  -- region 2
  refine VW.ws tau_ok Sound.none [some 4] [(0, .val (dM a0)), (3, .ref 3 [] true (dM [])), (4, .val (i64 0))] rfl ?_ ?_
  · simp <;> simp [ieq, ilt, ile]
  obtain ⟨x2, hx2, h⟩ := bind_some h
  refine VW.tlE [(3, .ref 3 [] true (dM x2))] (hCK1) ?_ ?_
  · clear hx2
    refine hK1 _ ?_
    -- region 11
    refine VW.ws tau_ok Sound.none [some 35, some 2] [(2, .ref 2 [] true (dM x2))] rfl ?_ ?_
    · simp <;> simp [ieq, ilt, ile]
    cases h
    refine VW.ret ?_
    simp [Post, PostM, PostC, PostC2, Nx, Bk]
  refine VW.block ?_
  refine VW.loopF (s_l11Columns_L0 a0) (fun s2 => [(0, .val (dM a0)), (3, .ref 3 [] true (dM s2.1)), (4, .val (i64 s2.2))]) hx2 (Fits.of rfl) ?_
  clear hx2
  intro s2 ox2 hx2o hx2b
  unfold s_l11Columns_L0 at hx2o
  refine VW.sqc fun K4 hK4 hCK4 => ?_
  -- region 3
  refine VW.ws tau_ok Sound.none [some 8, some 9, some 10, some 11] [(0, .val (dM a0)), (3, .ref 3 [] true (dM s2.1)), (4, .val (i64 s2.2)), (11, .val (.bool (ilt s2.2 (a0.length : Int))))] rfl ?_ ?_
  · simp <;> simp [ieq, ilt, ile]
  refine VW.cond rfl (fun hb5 => ?_) (fun hb5 => ?_)
  rotate_left
  ·
    replace hb5 : ¬ (s2.2 < (a0.length : Int)) := by simpa [ieq, ilt, ile] using hb5
    rw [if_neg hb5] at hx2o
    refine VW.exit ?_
    cases hx2o
    have hq := hx2b _ rfl
    subst hq
    exact Fits.of rfl
  replace hb5 : s2.2 < (a0.length : Int) := by simpa [ieq, ilt, ile] using hb5
  rw [if_pos hb5] at hx2o
  refine VW.skip ?_
  refine hK4 _ ?_
  refine VW.sqc fun K6 hK6 hCK6 => ?_
  refine VW.block ?_
  -- region 5
  refine VW.ws tau_ok Sound.none [some 14, some 5] [(0, .val (dM a0)), (3, .ref 3 [] true (dM s2.1)), (4, .val (i64 s2.2)), (5, .ref 5 [] true (dI []))] rfl ?_ ?_
  · simp <;> simp [ieq, ilt, ile]
  refine VW.sqc fun K7 hK7 hCK7 => ?_
  -- region 6
  refine VW.ws tau_ok Sound.none [some 6] [(0, .val (dM a0)), (3, .ref 3 [] true (dM s2.1)), (4, .val (i64 s2.2)), (5, .ref 5 [] true (dI [])), (6, .val (i64 0))] rfl ?_ ?_
  · simp <;> simp [ieq, ilt, ile]
  obtain ⟨x8, hx8, hx2o⟩ := bind_some hx2o
  refine VW.tlE [(0, .val (dM a0)), (3, .ref 3 [] true (dM s2.1)), (4, .val (i64 s2.2)), (5, .ref 5 [] true (dI x8))] (hCK7) ?_ ?_
  · clear hx8
    refine hK7 _ ?_
    -- region 10
    obtain ⟨hc16, hx2o⟩ := chk_some hx2o
    have hc16s := hc16
    try simp at hc16s
    refine VW.wr tau_ok Sound.none [some 31, some 32, some 33, some 34, some 3] [(0, .val (dM a0)), (3, .ref 3 [] true (dM (s2.1 ++ [x8]))), (4, .val (i64 s2.2))] rfl ?_ ?_
    · simp [hc16, hc16s] <;> simp [ieq, ilt, ile]
    refine hK6 _ ?_
    -- region 4
    refine VW.wr tau_ok Sound.none [some 12, some 13, some 4] [(0, .val (dM a0)), (3, .ref 3 [] true (dM (s2.1 ++ [x8]))), (4, .val (i64 (w64 (s2.2 + 1))))] rfl ?_ ?_
    · simp <;> simp [ieq, ilt, ile]
    cases hx2o
    exact ⟨_, rfl, Fits.of rfl⟩
  refine VW.block ?_
  refine VW.loopF (s_l11Columns_L1 a0 s2) (fun s8 => [(0, .val (dM a0)), (3, .ref 3 [] true (dM s2.1)), (4, .val (i64 s2.2)), (5, .ref 5 [] true (dI s8.1)), (6, .val (i64 s8.2))]) hx8 (Fits.of rfl) ?_
  clear hx8
  intro s8 ox8 hx8o hx8b
  unfold s_l11Columns_L1 at hx8o
  refine VW.sqc fun K10 hK10 hCK10 => ?_
  -- region 7
  refine VW.ws tau_ok Sound.none [some 15, some 16, some 17, some 18] [(0, .val (dM a0)), (3, .ref 3 [] true (dM s2.1)), (4, .val (i64 s2.2)), (5, .ref 5 [] true (dI s8.1)), (6, .val (i64 s8.2)), (18, .val (.bool (ilt s8.2 (a0.length : Int))))] rfl ?_ ?_
  · simp <;> simp [ieq, ilt, ile]
  refine VW.cond rfl (fun hb11 => ?_) (fun hb11 => ?_)
  rotate_left
  ·
    replace hb11 : ¬ (s8.2 < (a0.length : Int)) := by simpa [ieq, ilt, ile] using hb11
    rw [if_neg hb11] at hx8o
    refine VW.exit ?_
    cases hx8o
    have hq := hx8b _ rfl
    subst hq
    exact Fits.of rfl
  replace hb11 : s8.2 < (a0.length : Int) := by simpa [ieq, ilt, ile] using hb11
  rw [if_pos hb11] at hx8o
  refine VW.skip ?_
  refine hK10 _ ?_
  refine VW.sqc fun K12 hK12 hCK12 => ?_
  refine VW.block ?_
  -- region 9
  obtain ⟨v13, hv13, hx8o⟩ := bind_some hx8o
  obtain ⟨hv13a, hv13b, hv13c, hv13d⟩ := idx_some hv13
  obtain ⟨v14, hv14, hx8o⟩ := bind_some hx8o
  obtain ⟨hv14a, hv14b, hv14c, hv14d⟩ := idx_some hv14
  obtain ⟨hc15, hx8o⟩ := chk_some hx8o
  have hc15s := hc15
  try simp at hc15s
  refine VW.wr tau_ok Sound.none [some 21, some 22, some 23, some 24, some 25, some 26, some 27, some 28, some 29, some 30, some 5] [(0, .val (dM a0)), (3, .ref 3 [] true (dM s2.1)), (4, .val (i64 s2.2)), (5, .ref 5 [] true (dI (s8.1 ++ [v14]))), (6, .val (i64 s8.2))] rfl ?_ ?_
  · simp [hv13a, hv13b, hv13c, hv13d, hv14a, hv14b, hv14c, hv14d, hc15, hc15s] <;> simp [ieq, ilt, ile]
  refine hK12 _ ?_
  -- region 8
  refine VW.wr tau_ok Sound.none [some 19, some 20, some 6] [(0, .val (dM a0)), (3, .ref 3 [] true (dM s2.1)), (4, .val (i64 s2.2)), (5, .ref 5 [] true (dI (s8.1 ++ [v14]))), (6, .val (i64 (w64 (s8.2 + 1))))] rfl ?_ ?_
  · simp <;> simp [ieq, ilt, ile]
  cases hx8o
  exact ⟨_, rfl, Fits.of rfl⟩

theorem s_l11Left_ok {a0_0 : Int} {a0_1 : List Int} {a1 : List Int} {r : List (List Int)} (h : s_l11Left a0_0 a0_1 a1 = some r) :
    VCall Try.prog 163 [.agg [i64 a0_0, dI a0_1], dI a1] [.own true (dM r)] := by
  unfold s_l11Left at h
  refine VCall.enter Try.call163 Try.func163 rfl 25 Try.ntmps163 (by simp) [.tmp 4] rfl ?_
  show VW _ _ _ (mk [(0, .val (.agg [i64 a0_0, dI a0_1])), (1, .val (dI a1))]) _
  -- region 0
  refine VW.ws tau_ok Sound.none [some 2, some 4] [(1, .val (dI a1)), (2, .val (.ptr [i64 a0_0, dI a0_1]))] rfl ?_ ?_
  · simp <;> simp [ieq, ilt, ile]
  -- region 1
  refine VW.ws tau_ok Sound.none [some 7, some 5] [(1, .val (dI a1)), (2, .val (.ptr [i64 a0_0, dI a0_1])), (5, .ref 5 [] true (dM []))] rfl ?_ ?_
  · simp <;> simp [ieq, ilt, ile]
  refine VW.sqc fun K1 hK1 hCK1 => ?_
  -- region 2
  refine VW.ws tau_ok Sound.none [some 6] [(1, .val (dI a1)), (2, .val (.ptr [i64 a0_0, dI a0_1])), (5, .ref 5 [] true (dM [])), (6, .val (i64 0))] rfl ?_ ?_
  · simp <;> simp [ieq, ilt, ile]
  obtain ⟨x2, hx2, h⟩ := bind_some h
  refine VW.tlE [(5, .ref 5 [] true (dM x2))] (hCK1) ?_ ?_
  · clear hx2
    refine hK1 _ ?_
    -- region 6
    obtain ⟨v11, hv11, h⟩ := bind_some h
    refine VW.ws tau_ok (Sound.none.add 24 (s_l11Columns_ok hv11) rfl) [some 23, some 24, some 4] [(4, .ref 4 [] true (dM v11))] rfl ?_ ?_
    · simp <;> simp [ieq, ilt, ile]
    cases h
    refine VW.ret ?_
    simp [Post, PostM, PostC, PostC2, Nx, Bk]
  refine VW.block ?_
  refine VW.loopF (s_l11Left_L0 a0_0 a0_1 a1) (fun s2 => [(1, .val (dI a1)), (2, .val (.ptr [i64 a0_0, dI a0_1])), (5, .ref 5 [] true (dM s2.1)), (6, .val (i64 s2.2))]) hx2 (Fits.of rfl) ?_
  clear hx2
  intro s2 ox2 hx2o hx2b
  unfold s_l11Left_L0 at hx2o
  refine VW.sqc fun K4 hK4 hCK4 => ?_
  -- region 3
  obtain ⟨v5, hv5, hx2o⟩ := bind_some hx2o
  refine VW.ws tau_ok (Sound.none.add 10 (s_l11Size_ok hv5) rfl) [some 8, some 9, some 10, some 11] [(1, .val (dI a1)), (2, .val (.ptr [i64 a0_0, dI a0_1])), (5, .ref 5 [] true (dM s2.1)), (6, .val (i64 s2.2)), (11, .val (.bool (ilt s2.2 v5)))] rfl ?_ ?_
  · simp <;> simp [ieq, ilt, ile]
  refine VW.cond rfl (fun hb6 => ?_) (fun hb6 => ?_)
  rotate_left
  ·
    replace hb6 : ¬ (s2.2 < v5) := by simpa [ieq, ilt, ile] using hb6
    rw [if_neg hb6] at hx2o
    refine VW.exit ?_
    cases hx2o
    have hq := hx2b _ rfl
    subst hq
    exact Fits.of rfl
  replace hb6 : s2.2 < v5 := by simpa [ieq, ilt, ile] using hb6
  rw [if_pos hb6] at hx2o
  refine VW.skip ?_
  refine hK4 _ ?_
  refine VW.sqc fun K7 hK7 hCK7 => ?_
  refine VW.block ?_
  -- region 5
  obtain ⟨v8, hv8, hx2o⟩ := bind_some hx2o
  obtain ⟨v9, hv9, hx2o⟩ := bind_some hx2o
  obtain ⟨hc10, hx2o⟩ := chk_some hx2o
  have hc10s := hc10
  try simp at hc10s
  refine VW.wdr tau_ok ((Sound.none.add 19 (s_l11One_ok hv8) rfl).add 20 (s_l11Times_ok hv9) rfl) try_mixed [some 14, some 15, some 16, some 17, some 18, some 19, some 20, some 21, some 22, some 5] [(1, .val (dI a1)), (2, .val (.ptr [i64 a0_0, dI a0_1])), (5, .ref 5 [] true (dM (s2.1 ++ [v9]))), (6, .val (i64 s2.2))] 7 rfl (by kernel_rfl) (by rfl) ?_ ?_
  · simp [hc10, hc10s] <;> simp [ieq, ilt, ile]
  refine hK7 _ ?_
  -- region 4
  refine VW.wr tau_ok Sound.none [some 12, some 13, some 6] [(1, .val (dI a1)), (2, .val (.ptr [i64 a0_0, dI a0_1])), (5, .ref 5 [] true (dM (s2.1 ++ [v9]))), (6, .val (i64 (w64 (s2.2 + 1))))] rfl ?_ ?_
  · simp <;> simp [ieq, ilt, ile]
  cases hx2o
  exact ⟨_, rfl, Fits.of rfl⟩

theorem s_LeftMatrixOf_ok {a0_0 : Int} {a0_1 : List Int} {a1 : List Int} {r : (List (List Int)) × Int} (h : s_LeftMatrixOf a0_0 a0_1 a1 = some r) :
    VCall Try.prog 72 [.agg [i64 a0_0, dI a0_1], dI a1] [.own true (dM r.1), .sc (i64 r.2)] := by
  unfold s_LeftMatrixOf at h
  refine VCall.enter Try.call72 Try.func72 rfl 17 Try.ntmps72 (by simp) [.tmp 4, .tmp 5] rfl ?_
  show VW _ _ _ (mk [(0, .val (.agg [i64 a0_0, dI a0_1])), (1, .val (dI a1))]) _
  -- region 0
  refine VW.ws tau_ok Sound.none [some 2, some 4, some 5] [(1, .val (dI a1)), (2, .val (.ptr [i64 a0_0, dI a0_1]))] rfl ?_ ?_
  · simp <;> simp [ieq, ilt, ile]
  refine VW.sqc fun K1 hK1 hCK1 => ?_
  -- region 1
  obtain ⟨v2, hv2, h⟩ := bind_some h
  refine VW.ws tau_ok (Sound.none.add 10 (s_l11Code_ok hv2) rfl) [some 7, some 8, some 9, some 10, some 6] [(1, .val (dI a1)), (2, .val (.ptr [i64 a0_0, dI a0_1])), (6, .val (i64 v2))] rfl ?_ ?_
  · simp <;> simp [ieq, ilt, ile]
  -- region 2
  refine VW.ws tau_ok Sound.none [some 11, some 12] [(1, .val (dI a1)), (2, .val (.ptr [i64 a0_0, dI a0_1])), (6, .val (i64 v2)), (12, .val (.bool (!(ieq v2 0))))] rfl ?_ ?_
  · simp <;> simp [ieq, ilt, ile]
  refine VW.cond rfl (fun hb3 => ?_) (fun hb3 => ?_)
  ·
    replace hb3 : ¬ v2 = 0 := by simpa [ieq, ilt, ile] using hb3
    rw [if_pos hb3] at h
    -- region 3
    refine VW.ws tau_ok Sound.none [some 13, some 4, some 5] [(4, .ref 4 [] true (.list [])), (5, .val (i64 v2))] rfl ?_ ?_
    · simp <;> simp [ieq, ilt, ile]
    cases h
    refine VW.ret ?_
    simp [Post, PostM, PostC, PostC2, Nx, Bk]
  replace hb3 : ¬ (¬ v2 = 0) := by simpa [ieq, ilt, ile] using hb3
  rw [if_neg hb3] at h
  refine VW.skip ?_
  refine hK1 _ ?_
  -- region 4
  obtain ⟨v4, hv4, h⟩ := bind_some h
  refine VW.ws tau_ok (Sound.none.add 16 (s_l11Left_ok hv4) rfl) [some 14, some 15, some 16, some 4, some 5] [(4, .ref 4 [] true (dM v4)), (5, .val (i64 0))] rfl ?_ ?_
  · simp <;> simp [ieq, ilt, ile]
  cases h
  refine VW.ret ?_
  simp [Post, PostM, PostC, PostC2, Nx, Bk]

theorem l_likeInts_ok {a0 : List Int} {a1 : List Int} {r : Bool} (h : l_likeInts a0 a1 = some r) :
    VCall Try.prog 67 [dI a0, dI a1] [.sc (.bool r)] := by
  unfold l_likeInts at h
  refine VCall.enter Try.call67 Try.func67 rfl 26 Try.ntmps67 (by simp) [.tmp 4] rfl ?_
  show VW _ _ _ (mk [(0, .val (dI a0)), (1, .val (dI a1))]) _
  -- region 0
  refine VW.ws tau_ok Sound.none [some 4] [(0, .val (dI a0)), (1, .val (dI a1))] rfl ?_ ?_
  · simp <;> simp [ieq, ilt, ile]
  refine VW.sqc fun K1 hK1 hCK1 => ?_
  -- region 1
  refine VW.ws tau_ok Sound.none [some 6, some 7, some 8, some 9, some 10] [(0, .val (dI a0)), (1, .val (dI a1)), (10, .val (.bool (!(ieq (a0.length : Int) (a1.length : Int)))))] rfl ?_ ?_
  · simp <;> simp [ieq, ilt, ile]
  refine VW.cond rfl (fun hb2 => ?_) (fun hb2 => ?_)
  ·
    replace hb2 : ¬ (a0.length : Int) = (a1.length : Int) := by simpa [ieq, ilt, ile] using hb2
    rw [if_pos hb2] at h
    -- region 2
    refine VW.ws tau_ok Sound.none [some 4] [(4, .val (.bool false))] rfl ?_ ?_
    · simp <;> simp [ieq, ilt, ile]
    cases h
    refine VW.ret ?_
    simp [Post, PostM, PostC, PostC2, Nx, Bk]
  replace hb2 : ¬ (¬ (a0.length : Int) = (a1.length : Int)) := by simpa [ieq, ilt, ile] using hb2
  rw [if_neg hb2] at h
  refine VW.skip ?_
  refine hK1 _ ?_
  refine VW.sqc fun K3 hK3 hCK3 => ?_
  -- region 3
  refine VW.ws tau_ok Sound.none [some 5] [(0, .val (dI a0)), (1, .val (dI a1)), (5, .val (i64 0))] rfl ?_ ?_
  · simp <;> simp [ieq, ilt, ile]
  obtain ⟨x4, hx4, h⟩ := bind_some h
  refine VW.tlO (fun y6 => []) x4 (hCK3) ?_ ?_
  · clear hx4
    rintro y6 rfl
    dsimp only at h
    refine hK3 _ ?_
    -- region 8
    refine VW.ws tau_ok Sound.none [some 4] [(4, .val (.bool true))] rfl ?_ ?_
    · simp <;> simp [ieq, ilt, ile]
    cases h
    refine VW.ret ?_
    simp [Post, PostM, PostC, PostC2, Nx, Bk]
  refine VW.block ?_
  refine VW.loopF (l_likeInts_L0 a0 a1) (fun s4 => [(0, .val (dI a0)), (1, .val (dI a1)), (5, .val (i64 s4))]) hx4 (Fits.of rfl) ?_
  clear hx4
  intro s4 ox4 hx4o hx4b
  unfold l_likeInts_L0 at hx4o
  refine VW.sqc fun K7 hK7 hCK7 => ?_
  -- region 4
  refine VW.ws tau_ok Sound.none [some 11, some 12, some 13, some 14] [(0, .val (dI a0)), (1, .val (dI a1)), (5, .val (i64 s4)), (14, .val (.bool (ilt s4 (a0.length : Int))))] rfl ?_ ?_
  · simp <;> simp [ieq, ilt, ile]
  refine VW.cond rfl (fun hb8 => ?_) (fun hb8 => ?_)
  rotate_left
  ·
    replace hb8 : ¬ (s4 < (a0.length : Int)) := by simpa [ieq, ilt, ile] using hb8
    rw [if_neg hb8] at hx4o
    refine VW.exit ?_
    cases hx4o
    have hq := hx4b _ rfl
    subst hq
    exact ⟨_, rfl, Fits.of rfl⟩
  replace hb8 : s4 < (a0.length : Int) := by simpa [ieq, ilt, ile] using hb8
  rw [if_pos hb8] at hx4o
  refine VW.skip ?_
  refine hK7 _ ?_
  refine VW.sqc fun K9 hK9 hCK9 => ?_
  refine VW.block ?_
  -- region 6
  obtain ⟨v10, hv10, hx4o⟩ := bind_some hx4o
  obtain ⟨hv10a, hv10b, hv10c, hv10d⟩ := idx_some hv10
  obtain ⟨v11, hv11, hx4o⟩ := bind_some hx4o
  obtain ⟨hv11a, hv11b, hv11c, hv11d⟩ := idx_some hv11
  refine VW.wds tau_ok Sound.none try_mixed [some 17, some 18, some 19, some 20, some 21, some 22, some 23, some 24, some 25] [(0, .val (dI a0)), (1, .val (dI a1)), (5, .val (i64 s4)), (25, .val (.bool (!(ieq v10 v11))))] 9 rfl (by kernel_rfl) (by rfl) ?_ ?_
  · simp [hv10a, hv10b, hv10c, hv10d, hv11a, hv11b, hv11c, hv11d] <;> simp [ieq, ilt, ile]
  refine VW.cond rfl (fun hb12 => ?_) (fun hb12 => ?_)
  rotate_left
  ·
    replace hb12 : ¬ (¬ v10 = v11) := by simpa [ieq, ilt, ile] using hb12
    rw [if_neg hb12] at hx4o
    refine VW.skip ?_
    refine hK9 _ ?_
    -- region 5
    refine VW.wr tau_ok Sound.none [some 15, some 16, some 5] [(0, .val (dI a0)), (1, .val (dI a1)), (5, .val (i64 (w64 (s4 + 1))))] rfl ?_ ?_
    · simp <;> simp [ieq, ilt, ile]
    cases hx4o
    exact ⟨_, rfl, Fits.of rfl⟩
  replace hb12 : ¬ v10 = v11 := by simpa [ieq, ilt, ile] using hb12
  rw [if_pos hb12] at hx4o
  -- region 7
  refine VW.ws tau_ok Sound.none [some 4] [(4, .val (.bool false))] rfl ?_ ?_
  · simp <;> simp [ieq, ilt, ile]
  cases hx4o
  have hq := hx4b _ rfl
  subst hq
  dsimp only at h
  cases h
  refine VW.ret ?_
  simp [Post, PostM, PostC, PostC2, Nx, Bk]

theorem l_same9_ok {a0 : List (List Int)} {a1 : List (List Int)} {r : Bool} (h : l_same9 a0 a1 = some r) :
    VCall Try.prog 73 [dM a0, dM a1] [.sc (.bool r)] := by
  unfold l_same9 at h
  refine VCall.enter Try.call73 Try.func73 rfl 27 Try.ntmps73 (by simp) [.tmp 4] rfl ?_
  show VW _ _ _ (mk [(0, .val (dM a0)), (1, .val (dM a1))]) _
  -- region 0
  refine VW.ws tau_ok Sound.none [some 4] [(0, .val (dM a0)), (1, .val (dM a1))] rfl ?_ ?_
  · simp <;> simp [ieq, ilt, ile]
  refine VW.sqc fun K1 hK1 hCK1 => ?_
  -- region 1
  refine VW.ws tau_ok Sound.none [some 6, some 7, some 8, some 9, some 10] [(0, .val (dM a0)), (1, .val (dM a1)), (10, .val (.bool (!(ieq (a0.length : Int) (a1.length : Int)))))] rfl ?_ ?_
  · simp <;> simp [ieq, ilt, ile]
  refine VW.cond rfl (fun hb2 => ?_) (fun hb2 => ?_)
  ·
    replace hb2 : ¬ (a0.length : Int) = (a1.length : Int) := by simpa [ieq, ilt, ile] using hb2
    rw [if_pos hb2] at h
    -- region 2
    refine VW.ws tau_ok Sound.none [some 4] [(4, .val (.bool false))] rfl ?_ ?_
    · simp <;> simp [ieq, ilt, ile]
    cases h
    refine VW.ret ?_
    simp [Post, PostM, PostC, PostC2, Nx, Bk]
  replace hb2 : ¬ (¬ (a0.length : Int) = (a1.length : Int)) := by simpa [ieq, ilt, ile] using hb2
  rw [if_neg hb2] at h
  refine VW.skip ?_
  refine hK1 _ ?_
  refine VW.sqc fun K3 hK3 hCK3 => ?_
  -- region 3
  refine VW.ws tau_ok Sound.none [some 5] [(0, .val (dM a0)), (1, .val (dM a1)), (5, .val (i64 0))] rfl ?_ ?_
  · simp <;> simp [ieq, ilt, ile]
  obtain ⟨x4, hx4, h⟩ := bind_some h
  refine VW.tlO (fun y6 => []) x4 (hCK3) ?_ ?_
  · clear hx4
    rintro y6 rfl
    dsimp only at h
    refine hK3 _ ?_
    -- region 8
    refine VW.ws tau_ok Sound.none [some 4] [(4, .val (.bool true))] rfl ?_ ?_
    · simp <;> simp [ieq, ilt, ile]
    cases h
    refine VW.ret ?_
    simp [Post, PostM, PostC, PostC2, Nx, Bk]
  refine VW.block ?_
  refine VW.loopF (l_same9_L0 a0 a1) (fun s4 => [(0, .val (dM a0)), (1, .val (dM a1)), (5, .val (i64 s4))]) hx4 (Fits.of rfl) ?_
  clear hx4
  intro s4 ox4 hx4o hx4b
  unfold l_same9_L0 at hx4o
  refine VW.sqc fun K7 hK7 hCK7 => ?_
  -- region 4
  refine VW.ws tau_ok Sound.none [some 11, some 12, some 13, some 14] [(0, .val (dM a0)), (1, .val (dM a1)), (5, .val (i64 s4)), (14, .val (.bool (ilt s4 (a0.length : Int))))] rfl ?_ ?_
  · simp <;> simp [ieq, ilt, ile]
  refine VW.cond rfl (fun hb8 => ?_) (fun hb8 => ?_)
  rotate_left
  ·
    replace hb8 : ¬ (s4 < (a0.length : Int)) := by simpa [ieq, ilt, ile] using hb8
    rw [if_neg hb8] at hx4o
    refine VW.exit ?_
    cases hx4o
    have hq := hx4b _ rfl
    subst hq
    exact ⟨_, rfl, Fits.of rfl⟩
  replace hb8 : s4 < (a0.length : Int) := by simpa [ieq, ilt, ile] using hb8
  rw [if_pos hb8] at hx4o
  refine VW.skip ?_
  refine hK7 _ ?_
  refine VW.sqc fun K9 hK9 hCK9 => ?_
  refine VW.block ?_
  -- region 6
  obtain ⟨v10, hv10, hx4o⟩ := bind_some hx4o
  obtain ⟨hv10a, hv10b, hv10c, hv10d⟩ := idx_some hv10
  obtain ⟨v11, hv11, hx4o⟩ := bind_some hx4o
  obtain ⟨hv11a, hv11b, hv11c, hv11d⟩ := idx_some hv11
  obtain ⟨v12, hv12, hx4o⟩ := bind_some hx4o
  refine VW.wds tau_ok (Sound.none.add 25 (l_likeInts_ok hv12) rfl) try_mixed [some 17, some 18, some 19, some 20, some 21, some 22, some 23, some 24, some 25, some 26] [(0, .val (dM a0)), (1, .val (dM a1)), (5, .val (i64 s4)), (26, .val (.bool (!v12)))] 10 rfl (by kernel_rfl) (by rfl) ?_ ?_
  · simp [hv10a, hv10b, hv10c, hv10d, hv11a, hv11b, hv11c, hv11d] <;> simp [ieq, ilt, ile]
  refine VW.cond rfl (fun hb13 => ?_) (fun hb13 => ?_)
  rotate_left
  ·
    replace hb13 : ¬ (v12 = false) := by simpa [ieq, ilt, ile] using hb13
    rw [if_neg hb13] at hx4o
    refine VW.skip ?_
    refine hK9 _ ?_
    -- region 5
    refine VW.wr tau_ok Sound.none [some 15, some 16, some 5] [(0, .val (dM a0)), (1, .val (dM a1)), (5, .val (i64 (w64 (s4 + 1))))] rfl ?_ ?_
    · simp <;> simp [ieq, ilt, ile]
    cases hx4o
    exact ⟨_, rfl, Fits.of rfl⟩
  replace hb13 : v12 = false := by simpa [ieq, ilt, ile] using hb13
  rw [if_pos hb13] at hx4o
  -- region 7
  refine VW.ws tau_ok Sound.none [some 4] [(4, .val (.bool false))] rfl ?_ ?_
  · simp <;> simp [ieq, ilt, ile]
  cases hx4o
  have hq := hx4b _ rfl
  subst hq
  dsimp only at h
  cases h
  refine VW.ret ?_
  simp [Post, PostM, PostC, PostC2, Nx, Bk]

theorem i_Doubling_right_ok {a0_0 : Int} {a0_1 : List Int} {a1 : List Int} {r : List (List Int)} (h : i_Doubling_right a0_0 a0_1 a1 = some r) :
    VCall Try.prog 158 [.agg [i64 a0_0, dI a0_1], dI a1] [.own true (dM r)] := by
  unfold i_Doubling_right at h
  refine VCall.enter Try.call158 Try.func158 rfl 27 Try.ntmps158 (by simp) [.tmp 4] rfl ?_
  show VW _ _ _ (mk [(0, .val (.agg [i64 a0_0, dI a0_1])), (1, .val (dI a1))]) _
  -- region 0
  refine VW.ws tau_ok Sound.none [some 2, some 4] [(1, .val (dI a1)), (2, .val (.ptr [i64 a0_0, dI a0_1]))] rfl ?_ ?_
  · simp <;> simp [ieq, ilt, ile]
  -- region 1
  refine VW.ws tau_ok Sound.none [some 8, some 5] [(1, .val (dI a1)), (2, .val (.ptr [i64 a0_0, dI a0_1])), (5, .ref 5 [] true (dM []))] rfl ?_ ?_
  · simp <;> simp [ieq, ilt, ile]
  refine VW.sqc fun K1 hK1 hCK1 => ?_
  -- region 2
  obtain ⟨v2, hv2, h⟩ := bind_some h
  obtain ⟨v3, hv3, h⟩ := bind_some h
  refine VW.ws tau_ok ((Sound.none.add 10 (i_Doubling_size_ok hv2) rfl).add 11 (i_unit_ok hv3) rfl) [some 9, some 10, some 11, some 12, some 13] [(1, .val (dI a1)), (2, .val (.ptr [i64 a0_0, dI a0_1])), (5, .ref 5 [] true (dM [])), (11, .ref 11 [] true (dM v3)), (12, .val (i64 (v3.length : Int))), (13, .val (i64 0))] rfl ?_ ?_
  · simp <;> simp [ieq, ilt, ile]
  obtain ⟨x4, hx4, h⟩ := bind_some h
  refine VW.tlE [(5, .ref 5 [] true (dM x4))] (hCK1) ?_ ?_
  · clear hx4
    refine hK1 _ ?_
    -- region 7
    obtain ⟨v12, hv12, h⟩ := bind_some h
    refine VW.ws tau_ok (Sound.none.add 26 (i_transpose_ok hv12) rfl) [some 25, some 26, some 4] [(4, .ref 4 [] true (dM v12))] rfl ?_ ?_
    · simp <;> simp [ieq, ilt, ile]
    cases h
    refine VW.ret ?_
    simp [Post, PostM, PostC, PostC2, Nx, Bk]
  refine VW.block ?_
  refine VW.loopF (i_Doubling_right_L0 a0_0 a0_1 a1 v3) (fun s4 => [(1, .val (dI a1)), (2, .val (.ptr [i64 a0_0, dI a0_1])), (5, .ref 5 [] true (dM s4.1)), (11, .ref 11 [] true (dM v3)), (12, .val (i64 (v3.length : Int))), (13, .val (i64 s4.2))]) hx4 (Fits.of rfl) ?_
  clear hx4
  intro s4 ox4 hx4o hx4b
  unfold i_Doubling_right_L0 at hx4o
  -- region 3
  refine VW.ws tau_ok Sound.none [some 14] [(1, .val (dI a1)), (2, .val (.ptr [i64 a0_0, dI a0_1])), (5, .ref 5 [] true (dM s4.1)), (11, .ref 11 [] true (dM v3)), (12, .val (i64 (v3.length : Int))), (13, .val (i64 s4.2)), (14, .val (.bool (ilt s4.2 (v3.length : Int))))] rfl ?_ ?_
  · simp <;> simp [ieq, ilt, ile]
  refine VW.sqc fun K6 hK6 hCK6 => ?_
  refine VW.cond rfl (fun hb7 => ?_) (fun hb7 => ?_)
  rotate_left
  ·
    replace hb7 : ¬ (s4.2 < (v3.length : Int)) := by simpa [ieq, ilt, ile] using hb7
    rw [if_neg hb7] at hx4o
    refine VW.exit ?_
    cases hx4o
    have hq := hx4b _ rfl
    subst hq
    exact Fits.of rfl
  replace hb7 : s4.2 < (v3.length : Int) := by simpa [ieq, ilt, ile] using hb7
  rw [if_pos hb7] at hx4o
  refine VW.skip ?_
  refine hK6 _ ?_
  refine VW.sqc fun K8 hK8 hCK8 => ?_
  refine VW.block ?_
  -- region 4
  obtain ⟨v9, hv9, hx4o⟩ := bind_some hx4o
  obtain ⟨hv9a, hv9b, hv9c, hv9d⟩ := idx_some hv9
  refine VW.ws tau_ok Sound.none [some 15, some 16, some 7] [(1, .val (dI a1)), (2, .val (.ptr [i64 a0_0, dI a0_1])), (5, .ref 5 [] true (dM s4.1)), (7, .ref 11 [s4.2.toNat] true (dI v9)), (11, .ref 11 [] true (dM v3)), (12, .val (i64 (v3.length : Int))), (13, .val (i64 s4.2))] rfl ?_ ?_
  · simp [hv9a, hv9b, hv9c, hv9d] <;> simp [ieq, ilt, ile]
  -- region 5
  obtain ⟨v10, hv10, hx4o⟩ := bind_some hx4o
  obtain ⟨hc11, hx4o⟩ := chk_some hx4o
  have hc11s := hc11
  try simp at hc11s
  refine VW.wr tau_ok (Sound.none.add 21 (i_Doubling_times_ok hv10) rfl) [some 17, some 18, some 19, some 20, some 21, some 22, some 23, some 5] [(1, .val (dI a1)), (2, .val (.ptr [i64 a0_0, dI a0_1])), (5, .ref 5 [] true (dM (s4.1 ++ [v10]))), (11, .ref 11 [] true (dM v3)), (12, .val (i64 (v3.length : Int))), (13, .val (i64 s4.2))] rfl ?_ ?_
  · simp [hc11, hc11s] <;> simp [ieq, ilt, ile]
  refine hK8 _ ?_
  -- region 6
  refine VW.wr tau_ok Sound.none [some 24, some 13] [(1, .val (dI a1)), (2, .val (.ptr [i64 a0_0, dI a0_1])), (5, .ref 5 [] true (dM (s4.1 ++ [v10]))), (11, .ref 11 [] true (dM v3)), (12, .val (i64 (v3.length : Int))), (13, .val (i64 (w64 (s4.2 + 1))))] rfl ?_ ?_
  · simp <;> simp [ieq, ilt, ile]
  cases hx4o
  exact ⟨_, rfl, Fits.of rfl⟩

theorem i_RightMatrixOf_ok {a0_0 : Int} {a0_1 : List Int} {a1 : List Int} {r : (List (List Int)) × Int} (h : i_RightMatrixOf a0_0 a0_1 a1 = some r) :
    VCall Try.prog 74 [.agg [i64 a0_0, dI a0_1], dI a1] [.own true (dM r.1), .sc (i64 r.2)] := by
  unfold i_RightMatrixOf at h
  refine VCall.enter Try.call74 Try.func74 rfl 17 Try.ntmps74 (by simp) [.tmp 4, .tmp 5] rfl ?_
  show VW _ _ _ (mk [(0, .val (.agg [i64 a0_0, dI a0_1])), (1, .val (dI a1))]) _
  -- region 0
  refine VW.ws tau_ok Sound.none [some 2, some 4, some 5] [(1, .val (dI a1)), (2, .val (.ptr [i64 a0_0, dI a0_1]))] rfl ?_ ?_
  · simp <;> simp [ieq, ilt, ile]
  refine VW.sqc fun K1 hK1 hCK1 => ?_
  -- region 1
  obtain ⟨v2, hv2, h⟩ := bind_some h
  refine VW.ws tau_ok (Sound.none.add 10 (i_checkElements_ok hv2) rfl) [some 7, some 8, some 9, some 10, some 6] [(1, .val (dI a1)), (2, .val (.ptr [i64 a0_0, dI a0_1])), (6, .val (i64 v2))] rfl ?_ ?_
  · simp <;> simp [ieq, ilt, ile]
  -- region 2
  refine VW.ws tau_ok Sound.none [some 11, some 12] [(1, .val (dI a1)), (2, .val (.ptr [i64 a0_0, dI a0_1])), (6, .val (i64 v2)), (12, .val (.bool (!(ieq v2 0))))] rfl ?_ ?_
  · simp <;> simp [ieq, ilt, ile]
  refine VW.cond rfl (fun hb3 => ?_) (fun hb3 => ?_)
  ·
    replace hb3 : ¬ v2 = 0 := by simpa [ieq, ilt, ile] using hb3
    rw [if_pos hb3] at h
    -- region 3
    refine VW.ws tau_ok Sound.none [some 13, some 4, some 5] [(4, .ref 4 [] true (.list [])), (5, .val (i64 v2))] rfl ?_ ?_
    · simp <;> simp [ieq, ilt, ile]
    cases h
    refine VW.ret ?_
    simp [Post, PostM, PostC, PostC2, Nx, Bk]
  replace hb3 : ¬ (¬ v2 = 0) := by simpa [ieq, ilt, ile] using hb3
  rw [if_neg hb3] at h
  refine VW.skip ?_
  refine hK1 _ ?_
  -- region 4
  obtain ⟨v4, hv4, h⟩ := bind_some h
  refine VW.ws tau_ok (Sound.none.add 16 (i_Doubling_right_ok hv4) rfl) [some 14, some 15, some 16, some 4, some 5] [(4, .ref 4 [] true (dM v4)), (5, .val (i64 0))] rfl ?_ ?_
  · simp <;> simp [ieq, ilt, ile]
  cases h
  refine VW.ret ?_
  simp [Post, PostM, PostC, PostC2, Nx, Bk]

theorem s_l11Right_ok {a0_0 : Int} {a0_1 : List Int} {a1 : List Int} {r : List (List Int)} (h : s_l11Right a0_0 a0_1 a1 = some r) :
    VCall Try.prog 164 [.agg [i64 a0_0, dI a0_1], dI a1] [.own true (dM r)] := by
  unfold s_l11Right at h
  refine VCall.enter Try.call164 Try.func164 rfl 25 Try.ntmps164 (by simp) [.tmp 4] rfl ?_
  show VW _ _ _ (mk [(0, .val (.agg [i64 a0_0, dI a0_1])), (1, .val (dI a1))]) _
  -- region 0
  refine VW.ws tau_ok Sound.none [some 2, some 4] [(1, .val (dI a1)), (2, .val (.ptr [i64 a0_0, dI a0_1]))] rfl ?_ ?_
  · simp <;> simp [ieq, ilt, ile]
  -- region 1
  refine VW.ws tau_ok Sound.none [some 7, some 5] [(1, .val (dI a1)), (2, .val (.ptr [i64 a0_0, dI a0_1])), (5, .ref 5 [] true (dM []))] rfl ?_ ?_
  · simp <;> simp [ieq, ilt, ile]
  refine VW.sqc fun K1 hK1 hCK1 => ?_
  -- region 2
  refine VW.ws tau_ok Sound.none [some 6] [(1, .val (dI a1)), (2, .val (.ptr [i64 a0_0, dI a0_1])), (5, .ref 5 [] true (dM [])), (6, .val (i64 0))] rfl ?_ ?_
  · simp <;> simp [ieq, ilt, ile]
  obtain ⟨x2, hx2, h⟩ := bind_some h
  refine VW.tlE [(5, .ref 5 [] true (dM x2))] (hCK1) ?_ ?_
  · clear hx2
    refine hK1 _ ?_
    -- region 6
    obtain ⟨v11, hv11, h⟩ := bind_some h
    refine VW.ws tau_ok (Sound.none.add 24 (s_l11Columns_ok hv11) rfl) [some 23, some 24, some 4] [(4, .ref 4 [] true (dM v11))] rfl ?_ ?_
    · simp <;> simp [ieq, ilt, ile]
    cases h
    refine VW.ret ?_
    simp [Post, PostM, PostC, PostC2, Nx, Bk]
  refine VW.block ?_
  refine VW.loopF (s_l11Right_L0 a0_0 a0_1 a1) (fun s2 => [(1, .val (dI a1)), (2, .val (.ptr [i64 a0_0, dI a0_1])), (5, .ref 5 [] true (dM s2.1)), (6, .val (i64 s2.2))]) hx2 (Fits.of rfl) ?_
  clear hx2
  intro s2 ox2 hx2o hx2b
  unfold s_l11Right_L0 at hx2o
  refine VW.sqc fun K4 hK4 hCK4 => ?_
  -- region 3
  obtain ⟨v5, hv5, hx2o⟩ := bind_some hx2o
  refine VW.ws tau_ok (Sound.none.add 10 (s_l11Size_ok hv5) rfl) [some 8, some 9, some 10, some 11] [(1, .val (dI a1)), (2, .val (.ptr [i64 a0_0, dI a0_1])), (5, .ref 5 [] true (dM s2.1)), (6, .val (i64 s2.2)), (11, .val (.bool (ilt s2.2 v5)))] rfl ?_ ?_
  · simp <;> simp [ieq, ilt, ile]
  refine VW.cond rfl (fun hb6 => ?_) (fun hb6 => ?_)
  rotate_left
  ·
    replace hb6 : ¬ (s2.2 < v5) := by simpa [ieq, ilt, ile] using hb6
    rw [if_neg hb6] at hx2o
    refine VW.exit ?_
    cases hx2o
    have hq := hx2b _ rfl
    subst hq
    exact Fits.of rfl
  replace hb6 : s2.2 < v5 := by simpa [ieq, ilt, ile] using hb6
  rw [if_pos hb6] at hx2o
  refine VW.skip ?_
  refine hK4 _ ?_
  refine VW.sqc fun K7 hK7 hCK7 => ?_
  refine VW.block ?_
  -- region 5
  obtain ⟨v8, hv8, hx2o⟩ := bind_some hx2o
  obtain ⟨v9, hv9, hx2o⟩ := bind_some hx2o
  obtain ⟨hc10, hx2o⟩ := chk_some hx2o
  have hc10s := hc10
  try simp at hc10s
  refine VW.wdr tau_ok ((Sound.none.add 18 (s_l11One_ok hv8) rfl).add 20 (s_l11Times_ok hv9) rfl) try_mixed [some 14, some 15, some 16, some 17, some 18, some 19, some 20, some 21, some 22, some 5] [(1, .val (dI a1)), (2, .val (.ptr [i64 a0_0, dI a0_1])), (5, .ref 5 [] true (dM (s2.1 ++ [v9]))), (6, .val (i64 s2.2))] 7 rfl (by kernel_rfl) (by rfl) ?_ ?_
  · simp [hc10, hc10s] <;> simp [ieq, ilt, ile]
  refine hK7 _ ?_
  -- region 4
  refine VW.wr tau_ok Sound.none [some 12, some 13, some 6] [(1, .val (dI a1)), (2, .val (.ptr [i64 a0_0, dI a0_1])), (5, .ref 5 [] true (dM (s2.1 ++ [v9]))), (6, .val (i64 (w64 (s2.2 + 1))))] rfl ?_ ?_
  · simp <;> simp [ieq, ilt, ile]
  cases hx2o
  exact ⟨_, rfl, Fits.of rfl⟩

theorem s_RightMatrixOf_ok {a0_0 : Int} {a0_1 : List Int} {a1 : List Int} {r : (List (List Int)) × Int} (h : s_RightMatrixOf a0_0 a0_1 a1 = some r) :
    VCall Try.prog 75 [.agg [i64 a0_0, dI a0_1], dI a1] [.own true (dM r.1), .sc (i64 r.2)] := by
  unfold s_RightMatrixOf at h
  refine VCall.enter Try.call75 Try.func75 rfl 17 Try.ntmps75 (by simp) [.tmp 4, .tmp 5] rfl ?_
  show VW _ _ _ (mk [(0, .val (.agg [i64 a0_0, dI a0_1])), (1, .val (dI a1))]) _
  -- region 0
  refine VW.ws tau_ok Sound.none [some 2, some 4, some 5] [(1, .val (dI a1)), (2, .val (.ptr [i64 a0_0, dI a0_1]))] rfl ?_ ?_
  · simp <;> simp [ieq, ilt, ile]
  refine VW.sqc fun K1 hK1 hCK1 => ?_
  -- region 1
  obtain ⟨v2, hv2, h⟩ := bind_some h
  refine VW.ws tau_ok (Sound.none.add 10 (s_l11Code_ok hv2) rfl) [some 7, some 8, some 9, some 10, some 6] [(1, .val (dI a1)), (2, .val (.ptr [i64 a0_0, dI a0_1])), (6, .val (i64 v2))] rfl ?_ ?_
  · simp <;> simp [ieq, ilt, ile]
  -- region 2
  refine VW.ws tau_ok Sound.none [some 11, some 12] [(1, .val (dI a1)), (2, .val (.ptr [i64 a0_0, dI a0_1])), (6, .val (i64 v2)), (12, .val (.bool (!(ieq v2 0))))] rfl ?_ ?_
  · simp <;> simp [ieq, ilt, ile]
  refine VW.cond rfl (fun hb3 => ?_) (fun hb3 => ?_)
  ·
    replace hb3 : ¬ v2 = 0 := by simpa [ieq, ilt, ile] using hb3
    rw [if_pos hb3] at h
    -- region 3
    refine VW.ws tau_ok Sound.none [some 13, some 4, some 5] [(4, .ref 4 [] true (.list [])), (5, .val (i64 v2))] rfl ?_ ?_
    · simp <;> simp [ieq, ilt, ile]
    cases h
    refine VW.ret ?_
    simp [Post, PostM, PostC, PostC2, Nx, Bk]
  replace hb3 : ¬ (¬ v2 = 0) := by simpa [ieq, ilt, ile] using hb3
  rw [if_neg hb3] at h
  refine VW.skip ?_
  refine hK1 _ ?_
  -- region 4
  obtain ⟨v4, hv4, h⟩ := bind_some h
  refine VW.ws tau_ok (Sound.none.add 16 (s_l11Right_ok hv4) rfl) [some 14, some 15, some 16, some 4, some 5] [(4, .ref 4 [] true (dM v4)), (5, .val (i64 0))] rfl ?_ ?_
  · simp <;> simp [ieq, ilt, ile]
  cases h
  refine VW.ret ?_
  simp [Post, PostM, PostC, PostC2, Nx, Bk]

theorem l_roll_ok {a0 : List Int} {a1 : Int} {r : (List Int) × Int × Int} (h : l_roll a0 a1 = some r) :
    VCall Try.prog 45 [.list (a0.map (D.int .u8)), .int .u64 a1] [.own false (.ptr [.list (r.1.map (D.int .u8)), i64 r.2.1, .int .u64 r.2.2])] := by
  unfold l_roll at h
  refine VCall.enter Try.call45 Try.func45 rfl 38 Try.ntmps45 (by simp) [.tmp 4] rfl ?_
  show VW _ _ _ (mk [(0, .val (.list (a0.map (D.int .u8)))), (1, .val (.int .u64 a1))]) _
  -- region 0
  refine VW.ws tau_ok Sound.none [some 4] [(0, .val (.list (a0.map (D.int .u8)))), (1, .val (.int .u64 a1))] rfl ?_ ?_
  · simp <;> simp [ieq, ilt, ile]
  -- region 1
  refine VW.ws tau_ok Sound.none [some 7, some 8, some 9, some 10, some 11, some 12, some 13, some 14, some 15, some 5] [(0, .val (.list (a0.map (D.int .u8)))), (5, .ref 5 [] false (.ptr [.list (a0.map (D.int .u8)), i64 0, .int .u64 (IntKind.u64.wrap ((IntKind.u64.wrap (a1 * 7681)) + (IntKind.u64.wrap ((a0.length : Int)))))]))] rfl ?_ ?_
  · simp <;> simp [ieq, ilt, ile]
  refine VW.sqc fun K1 hK1 hCK1 => ?_
  -- region 2
  refine VW.ws tau_ok Sound.none [some 6] [(0, .val (.list (a0.map (D.int .u8)))), (5, .ref 5 [] false (.ptr [.list (a0.map (D.int .u8)), i64 0, .int .u64 (IntKind.u64.wrap ((IntKind.u64.wrap (a1 * 7681)) + (IntKind.u64.wrap ((a0.length : Int)))))])), (6, .val (i64 0))] rfl ?_ ?_
  · simp <;> simp [ieq, ilt, ile]
  obtain ⟨x2, hx2, h⟩ := bind_some h
  refine VW.tlE [(5, .ref 5 [] false (.ptr [.list (x2.1.map (D.int .u8)), i64 x2.2.1, .int .u64 x2.2.2]))] (hCK1) ?_ ?_
  · clear hx2
    refine hK1 _ ?_
    -- region 6
    refine VW.ws tau_ok Sound.none [some 37, some 4] [(4, .ref 4 [] false (.ptr [.list (x2.1.map (D.int .u8)), i64 x2.2.1, .int .u64 x2.2.2]))] rfl ?_ ?_
    · simp <;> simp [ieq, ilt, ile]
    cases h
    refine VW.ret ?_
    simp [Post, PostM, PostC, PostC2, Nx, Bk]
  refine VW.block ?_
  refine VW.loopF (l_roll_L0 a0) (fun s2 => [(0, .val (.list (a0.map (D.int .u8)))), (5, .ref 5 [] false (.ptr [.list (s2.1.map (D.int .u8)), i64 s2.2.1, .int .u64 s2.2.2.1])), (6, .val (i64 s2.2.2.2))]) hx2 (Fits.of rfl) ?_
  clear hx2
  intro s2 ox2 hx2o hx2b
  unfold l_roll_L0 at hx2o
  refine VW.sqc fun K4 hK4 hCK4 => ?_
  -- region 3
  refine VW.ws tau_ok Sound.none [some 16, some 17, some 18, some 19] [(0, .val (.list (a0.map (D.int .u8)))), (5, .ref 5 [] false (.ptr [.list (s2.1.map (D.int .u8)), i64 s2.2.1, .int .u64 s2.2.2.1])), (6, .val (i64 s2.2.2.2)), (19, .val (.bool (ilt s2.2.2.2 (a0.length : Int))))] rfl ?_ ?_
  · simp <;> simp [ieq, ilt, ile]
  refine VW.cond rfl (fun hb5 => ?_) (fun hb5 => ?_)
  rotate_left
  ·
    replace hb5 : ¬ (s2.2.2.2 < (a0.length : Int)) := by simpa [ieq, ilt, ile] using hb5
    rw [if_neg hb5] at hx2o
    refine VW.exit ?_
    cases hx2o
    have hq := hx2b _ rfl
    subst hq
    exact Fits.of rfl
  replace hb5 : s2.2.2.2 < (a0.length : Int) := by simpa [ieq, ilt, ile] using hb5
  rw [if_pos hb5] at hx2o
  refine VW.skip ?_
  refine hK4 _ ?_
  refine VW.sqc fun K6 hK6 hCK6 => ?_
  refine VW.block ?_
  -- region 5
  obtain ⟨v7, hv7, hx2o⟩ := bind_some hx2o
  obtain ⟨hv7a, hv7b, hv7c, hv7d⟩ := idx_some hv7
  refine VW.wdr tau_ok Sound.none try_mixed [some 22, some 23, some 24, some 25, some 26, some 27, some 28, some 29, some 30, some 31, some 32, some 33, some 34, some 35, some 36, none] [(0, .val (.list (a0.map (D.int .u8)))), (5, .ref 5 [] false (.ptr [.list (s2.1.map (D.int .u8)), i64 s2.2.1, .int .u64 (IntKind.u64.wrap ((IntKind.u64.wrap ((IntKind.u64.wrap (s2.2.2.1 * 1099511628211)) + (IntKind.u64.wrap (v7)))) + 5))])), (6, .val (i64 s2.2.2.2))] 15 rfl (by kernel_rfl) (by rfl) ?_ ?_
  · simp [hv7a, hv7b, hv7c, hv7d] <;> simp [ieq, ilt, ile]
  refine hK6 _ ?_
  -- region 4
  refine VW.wr tau_ok Sound.none [some 20, some 21, some 6] [(0, .val (.list (a0.map (D.int .u8)))), (5, .ref 5 [] false (.ptr [.list (s2.1.map (D.int .u8)), i64 s2.2.1, .int .u64 (IntKind.u64.wrap ((IntKind.u64.wrap ((IntKind.u64.wrap (s2.2.2.1 * 1099511628211)) + (IntKind.u64.wrap (v7)))) + 5))])), (6, .val (i64 (w64 (s2.2.2.2 + 1))))] rfl ?_ ?_
  · simp <;> simp [ieq, ilt, ile]
  cases hx2o
  exact ⟨_, rfl, Fits.of rfl⟩

theorem g_p_laws_dice_below_ok {a0_0 : List Int} {a0_1 : Int} {a0_2 : Int} {a1 : Int} {r : Int × ((List Int) × Int × Int)} (h : g_p_laws_dice_below a0_0 a0_1 a0_2 a1 = some r) :
    VPtr Try.prog 47 [.list (a0_0.map (D.int .u8)), i64 a0_1, .int .u64 a0_2] [i64 a1] [.sc (i64 r.1)] [.list (r.2.1.map (D.int .u8)), i64 r.2.2.1, .int .u64 r.2.2.2] := by
  unfold g_p_laws_dice_below at h
  refine VPtr.enter Try.call47 Try.func47 rfl 58 Try.ntmps47 (by simp) [.tmp 4] rfl ?_
  show VW _ _ _ (mk [(0, .ref 0 [] false (.ptr [.list (a0_0.map (D.int .u8)), i64 a0_1, .int .u64 a0_2])), (1, .val (i64 a1))]) _
  -- region 0
  refine VW.ws tau_ok Sound.none [some 4] [(0, .ref 0 [] false (.ptr [.list (a0_0.map (D.int .u8)), i64 a0_1, .int .u64 a0_2])), (1, .val (i64 a1))] rfl ?_ ?_
  · simp <;> simp [ieq, ilt, ile]
  refine VW.sqc fun K1 hK1 hCK1 => ?_
  -- region 1
  refine VW.ws tau_ok Sound.none [some 6, some 7] [(0, .ref 0 [] false (.ptr [.list (a0_0.map (D.int .u8)), i64 a0_1, .int .u64 a0_2])), (1, .val (i64 a1)), (7, .val (.bool (ilt a1 1)))] rfl ?_ ?_
  · simp <;> simp [ieq, ilt, ile]
  refine VW.cond rfl (fun hb2 => ?_) (fun hb2 => ?_)
  ·
    replace hb2 : a1 < 1 := by simpa [ieq, ilt, ile] using hb2
    rw [if_pos hb2] at h
    -- region 2
    refine VW.ws tau_ok Sound.none [some 4] [(0, .ref 0 [] false (.ptr [.list (a0_0.map (D.int .u8)), i64 a0_1, .int .u64 a0_2])), (4, .val (i64 0))] rfl ?_ ?_
    · simp <;> simp [ieq, ilt, ile]
    cases h
    refine VW.ret ?_
    simp [PostW, resW, PostWC, resWC, Nx, Bk]
  replace hb2 : ¬ (a1 < 1) := by simpa [ieq, ilt, ile] using hb2
  rw [if_neg hb2] at h
  refine VW.skip ?_
  refine hK1 _ ?_
  -- region 3
  refine VW.ws tau_ok Sound.none [some 8, some 9, some 10, some 11, some 12, some 13, some 14, some 15, some 16, none] [(0, .ref 0 [] false (.ptr [.list (a0_0.map (D.int .u8)), i64 a0_1, .int .u64 (IntKind.u64.wrap ((IntKind.u64.wrap (a0_2 * 6364136223846793005)) + 1442695040888963407))])), (1, .val (i64 a1))] rfl ?_ ?_
  · simp <;> simp [ieq, ilt, ile]
  -- region 4
  refine VW.ws tau_ok Sound.none [some 17, some 18, some 19, some 20, some 21, some 22, some 23, some 5] [(0, .ref 0 [] false (.ptr [.list (a0_0.map (D.int .u8)), i64 a0_1, .int .u64 (IntKind.u64.wrap ((IntKind.u64.wrap (a0_2 * 6364136223846793005)) + 1442695040888963407))])), (1, .val (i64 a1)), (5, .val (i64 (w64 (band .u64 (shr .u64 (IntKind.u64.wrap ((IntKind.u64.wrap (a0_2 * 6364136223846793005)) + 1442695040888963407)) 33) 16777215))))] rfl ?_ ?_
  · simp <;> simp [ieq, ilt, ile]
  refine VW.sqc fun K3 hK3 hCK3 => ?_
  -- region 5
  refine VW.wds tau_ok Sound.none try_mixed [some 24, some 25, some 26, some 27, some 28, some 29, some 30, some 31, some 32, some 33] [(0, .ref 0 [] false (.ptr [.list (a0_0.map (D.int .u8)), i64 a0_1, .int .u64 (IntKind.u64.wrap ((IntKind.u64.wrap (a0_2 * 6364136223846793005)) + 1442695040888963407))])), (1, .val (i64 a1)), (5, .val (i64 (w64 (band .u64 (shr .u64 (IntKind.u64.wrap ((IntKind.u64.wrap (a0_2 * 6364136223846793005)) + 1442695040888963407)) 33) 16777215)))), (33, .val (.bool (ilt a0_1 (a0_0.length : Int))))] 10 rfl (by kernel_rfl) (by rfl) ?_ ?_
  · simp <;> simp [ieq, ilt, ile]
  obtain ⟨x4, hx4, h⟩ := bind_some h
  refine VW.tlE [(0, .ref 0 [] false (.ptr [.list (x4.1.map (D.int .u8)), i64 x4.2.1, .int .u64 x4.2.2.1])), (1, .val (i64 a1)), (5, .val (i64 x4.2.2.2))] (hCK3) ?_ ?_
  · clear hx4
    refine hK3 _ ?_
    -- region 8
    obtain ⟨hc8, h⟩ := chk_some h
    have hc8s := hc8
    try simp at hc8s
    refine VW.ws tau_ok Sound.none [some 55, some 56, some 57, some 4] [(0, .ref 0 [] false (.ptr [.list (x4.1.map (D.int .u8)), i64 x4.2.1, .int .u64 x4.2.2.1])), (4, .val (i64 (x4.2.2.2.tmod a1)))] rfl ?_ ?_
    · simp [hc8, hc8s] <;> simp [ieq, ilt, ile]
    cases h
    refine VW.ret ?_
    simp [PostW, resW, PostWC, resWC, Nx, Bk]
  refine VW.cond rfl (fun hb6 => ?_) (fun hb6 => ?_)
  rotate_left
  ·
    replace hb6 : ¬ (a0_1 < (a0_0.length : Int)) := by simpa [ieq, ilt, ile] using hb6
    rw [if_neg hb6] at hx4
    refine VW.skip ?_
    cases hx4
    exact Fits.of rfl
  replace hb6 : a0_1 < (a0_0.length : Int) := by simpa [ieq, ilt, ile] using hb6
  rw [if_pos hb6] at hx4
  -- region 6
  obtain ⟨v7, hv7, hx4⟩ := bind_some hx4
  obtain ⟨hv7a, hv7b, hv7c, hv7d⟩ := idx_some hv7
  refine VW.wds tau_ok Sound.none try_mixed [some 34, some 35, some 36, some 37, some 38, some 39, some 40, some 41, some 42, some 43, some 44, some 45, some 46, some 5] [(0, .ref 0 [] false (.ptr [.list (a0_0.map (D.int .u8)), i64 a0_1, .int .u64 (IntKind.u64.wrap ((IntKind.u64.wrap (a0_2 * 6364136223846793005)) + 1442695040888963407))])), (1, .val (i64 a1)), (5, .val (i64 (w64 ((w64 (band .u64 (shr .u64 (IntKind.u64.wrap ((IntKind.u64.wrap (a0_2 * 6364136223846793005)) + 1442695040888963407)) 33) 16777215)) + (w64 (v7))))))] 14 rfl (by kernel_rfl) (by rfl) ?_ ?_
  · simp [hv7a, hv7b, hv7c, hv7d] <;> simp [ieq, ilt, ile]
  -- region 7
  refine VW.wr tau_ok Sound.none [some 47, some 48, some 49, some 50, some 51, some 52, some 53, some 54, none] [(0, .ref 0 [] false (.ptr [.list (a0_0.map (D.int .u8)), i64 (w64 (a0_1 + 1)), .int .u64 (IntKind.u64.wrap ((IntKind.u64.wrap (a0_2 * 6364136223846793005)) + 1442695040888963407))])), (1, .val (i64 a1)), (5, .val (i64 (w64 ((w64 (band .u64 (shr .u64 (IntKind.u64.wrap ((IntKind.u64.wrap (a0_2 * 6364136223846793005)) + 1442695040888963407)) 33) 16777215)) + (w64 (v7))))))] rfl ?_ ?_
  · simp <;> simp [ieq, ilt, ile]
  cases hx4
  exact Fits.of rfl

theorem l_element9_ok {a0_0 : List Int} {a0_1 : Int} {a0_2 : Int} {a1_0 : Int} {a1_1 : List Int} {r : (List Int) × ((List Int) × Int × Int)} (h : l_element9 a0_0 a0_1 a0_2 a1_0 a1_1 = some r) :
    VPtr Try.prog 76 [.list (a0_0.map (D.int .u8)), i64 a0_1, .int .u64 a0_2] [.agg [i64 a1_0, dI a1_1]] [.own true (dI r.1)] [.list (r.2.1.map (D.int .u8)), i64 r.2.2.1, .int .u64 r.2.2.2] := by
  unfold l_element9 at h
  refine VPtr.enter Try.call76 Try.func76 rfl 25 Try.ntmps76 (by simp) [.tmp 4] rfl ?_
  show VW _ _ _ (mk [(0, .ref 0 [] false (.ptr [.list (a0_0.map (D.int .u8)), i64 a0_1, .int .u64 a0_2])), (1, .val (.agg [i64 a1_0, dI a1_1]))]) _
  -- region 0
  refine VW.ws tau_ok Sound.none [some 3, some 4] [(0, .ref 0 [] false (.ptr [.list (a0_0.map (D.int .u8)), i64 a0_1, .int .u64 a0_2])), (3, .val (.ptr [i64 a1_0, dI a1_1]))] rfl ?_ ?_
  · simp <;> simp [ieq, ilt, ile]
  -- region 1
  refine VW.ws tau_ok Sound.none [some 7, some 5] [(0, .ref 0 [] false (.ptr [.list (a0_0.map (D.int .u8)), i64 a0_1, .int .u64 a0_2])), (3, .val (.ptr [i64 a1_0, dI a1_1])), (5, .ref 5 [] true (dI []))] rfl ?_ ?_
  · simp <;> simp [ieq, ilt, ile]
  refine VW.sqc fun K1 hK1 hCK1 => ?_
  -- region 2
  refine VW.ws tau_ok Sound.none [some 6] [(0, .ref 0 [] false (.ptr [.list (a0_0.map (D.int .u8)), i64 a0_1, .int .u64 a0_2])), (3, .val (.ptr [i64 a1_0, dI a1_1])), (5, .ref 5 [] true (dI [])), (6, .val (i64 0))] rfl ?_ ?_
  · simp <;> simp [ieq, ilt, ile]
  obtain ⟨x2, hx2, h⟩ := bind_some h
  refine VW.tlE [(0, .ref 0 [] false (.ptr [.list (x2.1.map (D.int .u8)), i64 x2.2.1, .int .u64 x2.2.2.1])), (5, .ref 5 [] true (dI x2.2.2.2))] (hCK1) ?_ ?_
  · clear hx2
    refine hK1 _ ?_
    -- region 6
    refine VW.ws tau_ok Sound.none [some 24, some 4] [(0, .ref 0 [] false (.ptr [.list (x2.1.map (D.int .u8)), i64 x2.2.1, .int .u64 x2.2.2.1])), (4, .ref 4 [] true (dI x2.2.2.2))] rfl ?_ ?_
    · simp <;> simp [ieq, ilt, ile]
    cases h
    refine VW.ret ?_
    simp [PostW, resW, PostWC, resWC, Nx, Bk]
  refine VW.block ?_
  refine VW.loopF (l_element9_L0 a1_0 a1_1) (fun s2 => [(0, .ref 0 [] false (.ptr [.list (s2.1.map (D.int .u8)), i64 s2.2.1, .int .u64 s2.2.2.1])), (3, .val (.ptr [i64 a1_0, dI a1_1])), (5, .ref 5 [] true (dI s2.2.2.2.1)), (6, .val (i64 s2.2.2.2.2))]) hx2 (Fits.of rfl) ?_
  clear hx2
  intro s2 ox2 hx2o hx2b
  unfold l_element9_L0 at hx2o
  refine VW.sqc fun K4 hK4 hCK4 => ?_
  -- region 3
  obtain ⟨hc5, hx2o⟩ := chk_some hx2o
  have hc5s := hc5
  try simp at hc5s
  refine VW.ws tau_ok Sound.none [some 8, some 9, some 10, some 11, some 12, some 13, some 14] [(0, .ref 0 [] false (.ptr [.list (s2.1.map (D.int .u8)), i64 s2.2.1, .int .u64 s2.2.2.1])), (3, .val (.ptr [i64 a1_0, dI a1_1])), (5, .ref 5 [] true (dI s2.2.2.2.1)), (6, .val (i64 s2.2.2.2.2)), (14, .val (.bool (ilt s2.2.2.2.2 (shl .i64 1 (IntKind.u64.wrap ((a1_1.length : Int)))))))] rfl ?_ ?_
  · simp [hc5, hc5s] <;> simp [ieq, ilt, ile]
  refine VW.cond rfl (fun hb6 => ?_) (fun hb6 => ?_)
  rotate_left
  ·
    replace hb6 : ¬ (s2.2.2.2.2 < (shl .i64 1 (IntKind.u64.wrap ((a1_1.length : Int))))) := by simpa [ieq, ilt, ile] using hb6
    rw [if_neg hb6] at hx2o
    refine VW.exit ?_
    cases hx2o
    have hq := hx2b _ rfl
    subst hq
    exact Fits.of rfl
  replace hb6 : s2.2.2.2.2 < (shl .i64 1 (IntKind.u64.wrap ((a1_1.length : Int)))) := by simpa [ieq, ilt, ile] using hb6
  rw [if_pos hb6] at hx2o
  refine VW.skip ?_
  refine hK4 _ ?_
  refine VW.sqc fun K7 hK7 hCK7 => ?_
  refine VW.block ?_
  -- region 5
  obtain ⟨v8, hv8, hx2o⟩ := bind_some hx2o
  obtain ⟨hc9, hx2o⟩ := chk_some hx2o
  have hc9s := hc9
  try simp at hc9s
  refine VW.wr tau_ok (Sound.none.ptrc 21 (g_p_laws_dice_below_ok hv8)) [some 17, some 18, some 19, some 20, some 21, some 22, some 23, some 5] [(0, .ref 0 [] false (.ptr [.list (v8.2.1.map (D.int .u8)), i64 v8.2.2.1, .int .u64 v8.2.2.2])), (3, .val (.ptr [i64 a1_0, dI a1_1])), (5, .ref 5 [] true (dI (s2.2.2.2.1 ++ [v8.1]))), (6, .val (i64 s2.2.2.2.2))] rfl ?_ ?_
  · simp [hc9, hc9s] <;> simp [ieq, ilt, ile]
  refine hK7 _ ?_
  -- region 4
  refine VW.wr tau_ok Sound.none [some 15, some 16, some 6] [(0, .ref 0 [] false (.ptr [.list (v8.2.1.map (D.int .u8)), i64 v8.2.2.1, .int .u64 v8.2.2.2])), (3, .val (.ptr [i64 a1_0, dI a1_1])), (5, .ref 5 [] true (dI (s2.2.2.2.1 ++ [v8.1]))), (6, .val (i64 (w64 (s2.2.2.2.2 + 1))))] rfl ?_ ?_
  · simp <;> simp [ieq, ilt, ile]
  cases hx2o
  exact ⟨_, rfl, Fits.of rfl⟩

theorem i_field_isTable_ok {a0 : Int} {a1 : List (List Int)} {r : Bool} (h : i_field_isTable a0 a1 = some r) :
    VCall Try.prog 141 [i64 a0, dM a1] [.sc (.bool r)] := by
  unfold i_field_isTable at h
  refine VCall.enter Try.call141 Try.func141 rfl 40 Try.ntmps141 (by simp) [.tmp 4] rfl ?_
  show VW _ _ _ (mk [(0, .val (i64 a0)), (1, .val (dM a1))]) _
  -- region 0
  refine VW.ws tau_ok Sound.none [some 4] [(0, .val (i64 a0)), (1, .val (dM a1))] rfl ?_ ?_
  · simp <;> simp [ieq, ilt, ile]
  refine VW.sqc fun K1 hK1 hCK1 => ?_
  -- region 1
  refine VW.ws tau_ok Sound.none [some 7, some 8, some 9] [(0, .val (i64 a0)), (1, .val (dM a1)), (9, .val (.bool (ilt 16 (a1.length : Int))))] rfl ?_ ?_
  · simp <;> simp [ieq, ilt, ile]
  refine VW.cond rfl (fun hb2 => ?_) (fun hb2 => ?_)
  ·
    replace hb2 : 16 < (a1.length : Int) := by simpa [ieq, ilt, ile] using hb2
    rw [if_pos hb2] at h
    -- region 2
    refine VW.ws tau_ok Sound.none [some 4] [(4, .val (.bool false))] rfl ?_ ?_
    · simp <;> simp [ieq, ilt, ile]
    cases h
    refine VW.ret ?_
    simp [Post, PostM, PostC, PostC2, Nx, Bk]
  replace hb2 : ¬ (16 < (a1.length : Int)) := by simpa [ieq, ilt, ile] using hb2
  rw [if_neg hb2] at h
  refine VW.skip ?_
  refine hK1 _ ?_
  refine VW.sqc fun K3 hK3 hCK3 => ?_
  -- region 3
  refine VW.ws tau_ok Sound.none [some 10, some 11, some 12] [(0, .val (i64 a0)), (1, .val (dM a1)), (10, .val (dM a1)), (11, .val (i64 (a1.length : Int))), (12, .val (i64 0))] rfl ?_ ?_
  · simp <;> simp [ieq, ilt, ile]
  obtain ⟨x4, hx4, h⟩ := bind_some h
  refine VW.tlO (fun y6 => []) x4 (hCK3) ?_ ?_
  · clear hx4
    rintro y6 rfl
    dsimp only at h
    refine hK3 _ ?_
    -- region 9
    refine VW.ws tau_ok Sound.none [some 4] [(4, .val (.bool true))] rfl ?_ ?_
    · simp <;> simp [ieq, ilt, ile]
    cases h
    refine VW.ret ?_
    simp [Post, PostM, PostC, PostC2, Nx, Bk]
  refine VW.block ?_
  refine VW.loopF (i_field_isTable_L0 a0 a1) (fun s4 => [(0, .val (i64 a0)), (1, .val (dM a1)), (10, .val (dM a1)), (11, .val (i64 (a1.length : Int))), (12, .val (i64 s4))]) hx4 (Fits.of rfl) ?_
  clear hx4
  intro s4 ox4 hx4o hx4b
  unfold i_field_isTable_L0 at hx4o
  -- region 4
  refine VW.ws tau_ok Sound.none [some 13] [(0, .val (i64 a0)), (1, .val (dM a1)), (10, .val (dM a1)), (11, .val (i64 (a1.length : Int))), (12, .val (i64 s4)), (13, .val (.bool (ilt s4 (a1.length : Int))))] rfl ?_ ?_
  · simp <;> simp [ieq, ilt, ile]
  refine VW.sqc fun K7 hK7 hCK7 => ?_
  refine VW.cond rfl (fun hb8 => ?_) (fun hb8 => ?_)
  rotate_left
  ·
    replace hb8 : ¬ (s4 < (a1.length : Int)) := by simpa [ieq, ilt, ile] using hb8
    rw [if_neg hb8] at hx4o
    refine VW.exit ?_
    cases hx4o
    have hq := hx4b _ rfl
    subst hq
    exact ⟨_, rfl, Fits.of rfl⟩
  replace hb8 : s4 < (a1.length : Int) := by simpa [ieq, ilt, ile] using hb8
  rw [if_pos hb8] at hx4o
  refine VW.skip ?_
  refine hK7 _ ?_
  refine VW.sqc fun K9 hK9 hCK9 => ?_
  refine VW.block ?_
  -- region 5
  obtain ⟨v10, hv10, hx4o⟩ := bind_some hx4o
  obtain ⟨hv10a, hv10b, hv10c, hv10d⟩ := idx_some hv10
  refine VW.ws tau_ok Sound.none [some 14, some 15, some 6] [(0, .val (i64 a0)), (1, .val (dM a1)), (6, .val (dI v10)), (10, .val (dM a1)), (11, .val (i64 (a1.length : Int))), (12, .val (i64 s4))] rfl ?_ ?_
  · simp [hv10a, hv10b, hv10c, hv10d] <;> simp [ieq, ilt, ile]
  -- region 6
  obtain ⟨x16, hx16, hx4o⟩ := bind_some hx4o
  refine VW.cut [(0, .val (i64 a0)), (1, .val (dM a1)), (10, .val (dM a1)), (11, .val (i64 (a1.length : Int))), (12, .val (i64 s4)), (38, .val (.bool x16))] ?_ fun hy => ?_
  rotate_left
  · clear hx4o
    obtain ⟨v11, hv11, hx16⟩ := bind_some hx16
    obtain ⟨hv11a, hv11b, hv11c, hv11d⟩ := idx_some hv11
    replace hv11b : 0 < a1.length := hv11b
    replace hv11c : a1[0]? = some v11 := hv11c
    replace hv11d : ∀ h, a1[0]'h = v11 := hv11d
    by_cases hp12 : ¬ (v10.length : Int) = (v11.length : Int)
    · rw [if_pos hp12] at hx16
      have hp12b : ieq (v10.length : Int) (v11.length : Int) = false := by simpa [ieq, ilt, ile] using hp12
      have hp12s := hp12b
      try simp at hp12s
      cases hx16
      refine VW.ws tau_ok Sound.none [some 16, some 17, some 18, some 19, some 20, some 21, some 22, some 23, some 24, some 25, some 26, some 27, some 28, some 29, some 30, some 31, some 32, some 33, some 34, some 35, some 36, some 37, some 38] _ rfl ?_ hy
      simp [hv11a, hv11b, hv11c, hv11d, hp12b, hp12s] <;> simp [ieq, ilt, ile]
    · rw [if_neg hp12] at hx16
      have hp12b : ieq (v10.length : Int) (v11.length : Int) = true := by simpa [ieq, ilt, ile] using hp12
      have hp12s := hp12b
      try simp at hp12s
      by_cases hp13 : (v10.length : Int) < 1
      · rw [if_pos hp13] at hx16
        have hp13b : ilt (v10.length : Int) 1 = true := by simpa [ieq, ilt, ile] using hp13
        have hp13s := hp13b
        try simp at hp13s
        cases hx16
        refine VW.ws tau_ok Sound.none [some 16, some 17, some 18, some 19, some 20, some 21, some 22, some 23, some 24, some 25, some 26, some 27, some 28, some 29, some 30, some 31, some 32, some 33, some 34, some 35, some 36, some 37, some 38] _ rfl ?_ hy
        simp [hv11a, hv11b, hv11c, hv11d, hp12b, hp12s, hp13b, hp13s] <;> simp [ieq, ilt, ile]
      · rw [if_neg hp13] at hx16
        have hp13b : ilt (v10.length : Int) 1 = false := by simpa [ieq, ilt, ile] using hp13
        have hp13s := hp13b
        try simp at hp13s
        by_cases hp14 : 16 < (v10.length : Int)
        · rw [if_pos hp14] at hx16
          have hp14b : ilt 16 (v10.length : Int) = true := by simpa [ieq, ilt, ile] using hp14
          have hp14s := hp14b
          try simp at hp14s
          cases hx16
          refine VW.ws tau_ok Sound.none [some 16, some 17, some 18, some 19, some 20, some 21, some 22, some 23, some 24, some 25, some 26, some 27, some 28, some 29, some 30, some 31, some 32, some 33, some 34, some 35, some 36, some 37, some 38] _ rfl ?_ hy
          simp [hv11a, hv11b, hv11c, hv11d, hp12b, hp12s, hp13b, hp13s, hp14b, hp14s] <;> simp [ieq, ilt, ile]
        · rw [if_neg hp14] at hx16
          have hp14b : ilt 16 (v10.length : Int) = false := by simpa [ieq, ilt, ile] using hp14
          have hp14s := hp14b
          try simp at hp14s
          obtain ⟨v15, hv15, hx16⟩ := bind_some hx16
          cases hx16
          refine VW.ws tau_ok (Sound.none.add 36 (i_field_is_ok hv15) rfl) [some 16, some 17, some 18, some 19, some 20, some 21, some 22, some 23, some 24, some 25, some 26, some 27, some 28, some 29, some 30, some 31, some 32, some 33, some 34, some 35, some 36, some 37, some 38] _ rfl ?_ hy
          simp [hv11a, hv11b, hv11c, hv11d, hp12b, hp12s, hp13b, hp13s, hp14b, hp14s] <;> simp [ieq, ilt, ile]
  refine VW.cond rfl (fun hb17 => ?_) (fun hb17 => ?_)
  rotate_left
  ·
    replace hb17 : ¬ (x16 = true) := by simpa [ieq, ilt, ile] using hb17
    rw [if_neg hb17] at hx4o
    refine VW.skip ?_
    refine hK9 _ ?_
    -- region 8
    refine VW.wr tau_ok Sound.none [some 39, some 12] [(0, .val (i64 a0)), (1, .val (dM a1)), (10, .val (dM a1)), (11, .val (i64 (a1.length : Int))), (12, .val (i64 (w64 (s4 + 1))))] rfl ?_ ?_
    · simp <;> simp [ieq, ilt, ile]
    cases hx4o
    exact ⟨_, rfl, Fits.of rfl⟩
  replace hb17 : x16 = true := by simpa [ieq, ilt, ile] using hb17
  rw [if_pos hb17] at hx4o
  -- region 7
  refine VW.ws tau_ok Sound.none [some 4] [(4, .val (.bool false))] rfl ?_ ?_
  · simp <;> simp [ieq, ilt, ile]
  cases hx4o
  have hq := hx4b _ rfl
  subst hq
  dsimp only at h
  cases h
  refine VW.ret ?_
  simp [Post, PostM, PostC, PostC2, Nx, Bk]

theorem i_field_isMatrix_ok {a0 : Int} {a1 : List (List Int)} {r : Bool} (h : i_field_isMatrix a0 a1 = some r) :
    VCall Try.prog 121 [i64 a0, dM a1] [.sc (.bool r)] := by
  unfold i_field_isMatrix at h
  refine VCall.enter Try.call121 Try.func121 rfl 13 Try.ntmps121 (by simp) [.tmp 4] rfl ?_
  show VW _ _ _ (mk [(0, .val (i64 a0)), (1, .val (dM a1))]) _
  -- region 0
  refine VW.ws tau_ok Sound.none [some 4] [(0, .val (i64 a0)), (1, .val (dM a1))] rfl ?_ ?_
  · simp <;> simp [ieq, ilt, ile]
  -- region 1
  obtain ⟨x3, hx3, h⟩ := bind_some h
  refine VW.cut [(4, .val (.bool x3))] ?_ fun hy => ?_
  rotate_left
  · clear h
    by_cases hp1 : 0 < (a1.length : Int)
    · rw [if_pos hp1] at hx3
      have hp1b : ilt 0 (a1.length : Int) = true := by simpa [ieq, ilt, ile] using hp1
      have hp1s := hp1b
      try simp at hp1s
      obtain ⟨v2, hv2, hx3⟩ := bind_some hx3
      cases hx3
      refine VW.ws tau_ok (Sound.none.add 11 (i_field_isTable_ok hv2) rfl) [some 5, some 6, some 7, some 8, some 9, some 10, some 11, some 12, some 4] _ rfl ?_ hy
      simp [hp1b, hp1s] <;> simp [ieq, ilt, ile]
    · rw [if_neg hp1] at hx3
      have hp1b : ilt 0 (a1.length : Int) = false := by simpa [ieq, ilt, ile] using hp1
      have hp1s := hp1b
      try simp at hp1s
      cases hx3
      refine VW.ws tau_ok Sound.none [some 5, some 6, some 7, some 8, some 9, some 10, some 11, some 12, some 4] _ rfl ?_ hy
      simp [hp1b, hp1s] <;> simp [ieq, ilt, ile]
  cases h
  refine VW.ret ?_
  simp [Post, PostM, PostC, PostC2, Nx, Bk]

theorem i_checkMatrices_c1_ok {a0 : List (List Int)} {a1_0 : Int} {r : Bool} (h : i_checkMatrices_c1 a0 a1_0 = some r) :
    VCall Try.prog 200 [dM a0, .ptr [i64 a1_0]] [.sc (.bool r)] := by
  unfold i_checkMatrices_c1 at h
  refine VCall.enter Try.call200 Try.func200 rfl 8 Try.ntmps200 (by simp) [.tmp 3] rfl ?_
  show VW _ _ _ (mk [(0, .val (dM a0)), (1, .val (.ptr [i64 a1_0]))]) _
  -- region 0
  refine VW.ws tau_ok Sound.none [some 3] [(0, .val (dM a0)), (1, .val (.ptr [i64 a1_0]))] rfl ?_ ?_
  · simp <;> simp [ieq, ilt, ile]
  -- region 1
  obtain ⟨v1, hv1, h⟩ := bind_some h
  refine VW.ws tau_ok (Sound.none.add 6 (i_field_isMatrix_ok hv1) rfl) [some 4, some 5, some 6, some 7, some 3] [(3, .val (.bool (!v1)))] rfl ?_ ?_
  · simp <;> simp [ieq, ilt, ile]
  cases h
  refine VW.ret ?_
  simp [Post, PostM, PostC, PostC2, Nx, Bk]

theorem g_slices_IndexFunc_LLLI_LLI_of_i_checkMatrices_c1_ok {a0 : List (List (List Int))} {a1_0_0 : Int} {r : Int} (h : g_slices_IndexFunc_LLLI_LLI_of_i_checkMatrices_c1 a0 a1_0_0 = some r) :
    VCall Try.prog 228 [dC a0, .fn 200 [.ptr [i64 a1_0_0]]] [.sc (i64 r)] := by
  unfold g_slices_IndexFunc_LLLI_LLI_of_i_checkMatrices_c1 at h
  refine VCall.enter Try.call228 Try.func228 rfl 19 Try.ntmps228 (by simp) [.tmp 4] rfl ?_
  show VW _ _ _ (mk [(0, .val (dC a0)), (1, .val (.fn 200 [.ptr [i64 a1_0_0]]))]) _
  -- region 0
  refine VW.ws tau_ok Sound.none [some 4] [(0, .val (dC a0)), (1, .val (.fn 200 [.ptr [i64 a1_0_0]]))] rfl ?_ ?_
  · simp <;> simp [ieq, ilt, ile]
  refine VW.sqc fun K1 hK1 hCK1 => ?_
  -- region 1
  refine VW.ws tau_ok Sound.none [some 6, some 7, some 8] [(0, .val (dC a0)), (1, .val (.fn 200 [.ptr [i64 a1_0_0]])), (7, .val (i64 (a0.length : Int))), (8, .val (i64 0))] rfl ?_ ?_
  · simp <;> simp [ieq, ilt, ile]
  obtain ⟨x2, hx2, h⟩ := bind_some h
  refine VW.tlO (fun y4 => []) x2 (hCK1) ?_ ?_
  · clear hx2
    rintro y4 rfl
    dsimp only at h
    refine hK1 _ ?_
    -- region 7
    refine VW.ws tau_ok Sound.none [some 4] [(4, .val (i64 (-1)))] rfl ?_ ?_
    · simp <;> simp [ieq, ilt, ile]
    cases h
    refine VW.ret ?_
    simp [Post, PostM, PostC, PostC2, Nx, Bk]
  refine VW.block ?_
  refine VW.loopF (g_slices_IndexFunc_LLLI_LLI_of_i_checkMatrices_c1_L0 a0 a1_0_0) (fun s2 => [(0, .val (dC a0)), (1, .val (.fn 200 [.ptr [i64 a1_0_0]])), (7, .val (i64 (a0.length : Int))), (8, .val (i64 s2))]) hx2 (Fits.of rfl) ?_
  clear hx2
  intro s2 ox2 hx2o hx2b
  unfold g_slices_IndexFunc_LLLI_LLI_of_i_checkMatrices_c1_L0 at hx2o
  -- region 2
  refine VW.ws tau_ok Sound.none [some 9] [(0, .val (dC a0)), (1, .val (.fn 200 [.ptr [i64 a1_0_0]])), (7, .val (i64 (a0.length : Int))), (8, .val (i64 s2)), (9, .val (.bool (ilt s2 (a0.length : Int))))] rfl ?_ ?_
  · simp <;> simp [ieq, ilt, ile]
  refine VW.sqc fun K5 hK5 hCK5 => ?_
  refine VW.cond rfl (fun hb6 => ?_) (fun hb6 => ?_)
  rotate_left
  ·
    replace hb6 : ¬ (s2 < (a0.length : Int)) := by simpa [ieq, ilt, ile] using hb6
    rw [if_neg hb6] at hx2o
    refine VW.exit ?_
    cases hx2o
    have hq := hx2b _ rfl
    subst hq
    exact ⟨_, rfl, Fits.of rfl⟩
  replace hb6 : s2 < (a0.length : Int) := by simpa [ieq, ilt, ile] using hb6
  rw [if_pos hb6] at hx2o
  refine VW.skip ?_
  refine hK5 _ ?_
  refine VW.sqc fun K7 hK7 hCK7 => ?_
  refine VW.block ?_
  -- region 3
  refine VW.ws tau_ok Sound.none [some 10, some 5] [(0, .val (dC a0)), (1, .val (.fn 200 [.ptr [i64 a1_0_0]])), (5, .val (i64 s2)), (7, .val (i64 (a0.length : Int))), (8, .val (i64 s2))] rfl ?_ ?_
  · simp <;> simp [ieq, ilt, ile]
  -- region 4
  obtain ⟨v8, hv8, hx2o⟩ := bind_some hx2o
  obtain ⟨hv8a, hv8b, hv8c, hv8d⟩ := idx_some hv8
  obtain ⟨v9, hv9, hx2o⟩ := bind_some hx2o
  refine VW.ws tau_ok (Sound.none.add 16 (i_checkMatrices_c1_ok hv9) rfl) [some 11, some 12, some 13, some 14, some 15, some 16] [(0, .val (dC a0)), (1, .val (.fn 200 [.ptr [i64 a1_0_0]])), (5, .val (i64 s2)), (7, .val (i64 (a0.length : Int))), (8, .val (i64 s2)), (16, .val (.bool v9))] rfl ?_ ?_
  · simp [hv8a, hv8b, hv8c, hv8d] <;> simp [ieq, ilt, ile]
  refine VW.cond rfl (fun hb10 => ?_) (fun hb10 => ?_)
  rotate_left
  ·
    replace hb10 : ¬ (v9 = true) := by simpa [ieq, ilt, ile] using hb10
    rw [if_neg hb10] at hx2o
    refine VW.skip ?_
    refine hK7 _ ?_
    -- region 6
    refine VW.wr tau_ok Sound.none [some 18, some 8] [(0, .val (dC a0)), (1, .val (.fn 200 [.ptr [i64 a1_0_0]])), (7, .val (i64 (a0.length : Int))), (8, .val (i64 (w64 (s2 + 1))))] rfl ?_ ?_
    · simp <;> simp [ieq, ilt, ile]
    cases hx2o
    exact ⟨_, rfl, Fits.of rfl⟩
  replace hb10 : v9 = true := by simpa [ieq, ilt, ile] using hb10
  rw [if_pos hb10] at hx2o
  -- region 5
  refine VW.ws tau_ok Sound.none [some 17, some 4] [(4, .val (i64 s2))] rfl ?_ ?_
  · simp <;> simp [ieq, ilt, ile]
  cases hx2o
  have hq := hx2b _ rfl
  subst hq
  dsimp only at h
  cases h
  refine VW.ret ?_
  simp [Post, PostM, PostC, PostC2, Nx, Bk]

theorem g_slices_ContainsFunc_LLLI_LLI_of_i_checkMatrices_c1_ok {a0 : List (List (List Int))} {a1_0_0 : Int} {r : Bool} (h : g_slices_ContainsFunc_LLLI_LLI_of_i_checkMatrices_c1 a0 a1_0_0 = some r) :
    VCall Try.prog 182 [dC a0, .fn 200 [.ptr [i64 a1_0_0]]] [.sc (.bool r)] := by
  unfold g_slices_ContainsFunc_LLLI_LLI_of_i_checkMatrices_c1 at h
  refine VCall.enter Try.call182 Try.func182 rfl 9 Try.ntmps182 (by simp) [.tmp 4] rfl ?_
  show VW _ _ _ (mk [(0, .val (dC a0)), (1, .val (.fn 200 [.ptr [i64 a1_0_0]]))]) _
  -- region 0
  refine VW.ws tau_ok Sound.none [some 4] [(0, .val (dC a0)), (1, .val (.fn 200 [.ptr [i64 a1_0_0]]))] rfl ?_ ?_
  · simp <;> simp [ieq, ilt, ile]
  -- region 1
  obtain ⟨v1, hv1, h⟩ := bind_some h
  refine VW.ws tau_ok (Sound.none.add 7 (g_slices_IndexFunc_LLLI_LLI_of_i_checkMatrices_c1_ok hv1) rfl) [some 5, some 6, some 7, some 8, some 4] [(4, .val (.bool (ile 0 v1)))] rfl ?_ ?_
  · simp <;> simp [ieq, ilt, ile]
  cases h
  refine VW.ret ?_
  simp [Post, PostM, PostC, PostC2, Nx, Bk]

theorem i_checkMatrices_ok {a0 : Int} {a1 : List (List (List Int))} {r : Int} (h : i_checkMatrices a0 a1 = some r) :
    VCall Try.prog 117 [i64 a0, dC a1] [.sc (i64 r)] := by
  unfold i_checkMatrices at h
  refine VCall.enter Try.call117 Try.func117 rfl 13 Try.ntmps117 (by simp) [.tmp 4] rfl ?_
  show VW _ _ _ (mk [(0, .val (i64 a0)), (1, .val (dC a1))]) _
  -- region 0
  refine VW.ws tau_ok Sound.none [some 2, some 4] [(1, .val (dC a1)), (2, .val (.ptr [i64 a0]))] rfl ?_ ?_
  · simp <;> simp [ieq, ilt, ile]
  refine VW.sqc fun K1 hK1 hCK1 => ?_
  -- region 1
  obtain ⟨x5, hx5, h⟩ := bind_some h
  refine VW.cut [(12, .val (.bool x5))] ?_ fun hy => ?_
  rotate_left
  · clear h
    obtain ⟨v2, hv2, hx5⟩ := bind_some hx5
    by_cases hp3 : v2 = false
    · rw [if_pos hp3] at hx5
      have hp3b : v2 = false := by simpa [ieq, ilt, ile] using hp3
      have hp3s := hp3b
      try simp at hp3s
      cases hx5
      refine VW.ws tau_ok (Sound.none.add 6 (i_IsPrime_ok hv2) rfl) [some 5, some 6, some 7, some 8, some 9, some 10, some 11, some 12] _ rfl ?_ hy
      simp [hp3b, hp3s] <;> simp [ieq, ilt, ile]
    · rw [if_neg hp3] at hx5
      have hp3b : v2 = true := by simpa [ieq, ilt, ile] using hp3
      have hp3s := hp3b
      try simp at hp3s
      obtain ⟨v4, hv4, hx5⟩ := bind_some hx5
      cases hx5
      refine VW.ws tau_ok ((Sound.none.add 6 (i_IsPrime_ok hv2) rfl).add 11 (g_slices_ContainsFunc_LLLI_LLI_of_i_checkMatrices_c1_ok hv4) rfl) [some 5, some 6, some 7, some 8, some 9, some 10, some 11, some 12] _ rfl ?_ hy
      simp [hp3b, hp3s] <;> simp [ieq, ilt, ile]
  refine VW.cond rfl (fun hb6 => ?_) (fun hb6 => ?_)
  ·
    replace hb6 : x5 = true := by simpa [ieq, ilt, ile] using hb6
    rw [if_pos hb6] at h
    -- region 2
    refine VW.ws tau_ok Sound.none [some 4] [(4, .val (i64 1))] rfl ?_ ?_
    · simp <;> simp [ieq, ilt, ile]
    cases h
    refine VW.ret ?_
    simp [Post, PostM, PostC, PostC2, Nx, Bk]
  replace hb6 : ¬ (x5 = true) := by simpa [ieq, ilt, ile] using hb6
  rw [if_neg hb6] at h
  refine VW.skip ?_
  refine hK1 _ ?_
  -- region 3
  refine VW.ws tau_ok Sound.none [some 4] [(4, .val (i64 0))] rfl ?_ ?_
  · simp <;> simp [ieq, ilt, ile]
  cases h
  refine VW.ret ?_
  simp [Post, PostM, PostC, PostC2, Nx, Bk]

theorem i_field_dot_ok {a0 : Int} {a1 : List Int} {a2 : List Int} {r : Int} (h : i_field_dot a0 a1 a2 = some r) :
    VCall Try.prog 215 [i64 a0, dI a1, dI a2] [.sc (i64 r)] := by
  unfold i_field_dot at h
  refine VCall.enter Try.call215 Try.func215 rfl 29 Try.ntmps215 (by simp) [.tmp 6] rfl ?_
  show VW _ _ _ (mk [(0, .val (i64 a0)), (1, .val (dI a1)), (2, .val (dI a2))]) _
  -- region 0
  refine VW.ws tau_ok Sound.none [some 6] [(0, .val (i64 a0)), (1, .val (dI a1)), (2, .val (dI a2))] rfl ?_ ?_
  · simp <;> simp [ieq, ilt, ile]
  -- region 1
  refine VW.ws tau_ok Sound.none [some 7] [(0, .val (i64 a0)), (1, .val (dI a1)), (2, .val (dI a2)), (7, .val (i64 0))] rfl ?_ ?_
  · simp <;> simp [ieq, ilt, ile]
  refine VW.sqc fun K1 hK1 hCK1 => ?_
  -- region 2
  refine VW.ws tau_ok Sound.none [some 10, some 11, some 12] [(0, .val (i64 a0)), (2, .val (dI a2)), (7, .val (i64 0)), (10, .val (dI a1)), (11, .val (i64 (a1.length : Int))), (12, .val (i64 0))] rfl ?_ ?_
  · simp <;> simp [ieq, ilt, ile]
  obtain ⟨x2, hx2, h⟩ := bind_some h
  refine VW.tlE [(0, .val (i64 a0)), (7, .val (i64 x2))] (hCK1) ?_ ?_
  · clear hx2
    refine hK1 _ ?_
    -- region 7
    obtain ⟨v9, hv9, h⟩ := bind_some h
    refine VW.ws tau_ok (Sound.none.add 28 (i_field_num_ok hv9) rfl) [some 26, some 27, some 28, some 6] [(6, .val (i64 v9))] rfl ?_ ?_
    · simp <;> simp [ieq, ilt, ile]
    cases h
    refine VW.ret ?_
    simp [Post, PostM, PostC, PostC2, Nx, Bk]
  refine VW.block ?_
  refine VW.loopF (i_field_dot_L0 a1 a2) (fun s2 => [(0, .val (i64 a0)), (2, .val (dI a2)), (7, .val (i64 s2.1)), (10, .val (dI a1)), (11, .val (i64 (a1.length : Int))), (12, .val (i64 s2.2))]) hx2 (Fits.of rfl) ?_
  clear hx2
  intro s2 ox2 hx2o hx2b
  unfold i_field_dot_L0 at hx2o
  -- region 3
  refine VW.ws tau_ok Sound.none [some 13] [(0, .val (i64 a0)), (2, .val (dI a2)), (7, .val (i64 s2.1)), (10, .val (dI a1)), (11, .val (i64 (a1.length : Int))), (12, .val (i64 s2.2)), (13, .val (.bool (ilt s2.2 (a1.length : Int))))] rfl ?_ ?_
  · simp <;> simp [ieq, ilt, ile]
  refine VW.sqc fun K4 hK4 hCK4 => ?_
  refine VW.cond rfl (fun hb5 => ?_) (fun hb5 => ?_)
  rotate_left
  ·
    replace hb5 : ¬ (s2.2 < (a1.length : Int)) := by simpa [ieq, ilt, ile] using hb5
    rw [if_neg hb5] at hx2o
    refine VW.exit ?_
    cases hx2o
    have hq := hx2b _ rfl
    subst hq
    exact Fits.of rfl
  replace hb5 : s2.2 < (a1.length : Int) := by simpa [ieq, ilt, ile] using hb5
  rw [if_pos hb5] at hx2o
  refine VW.skip ?_
  refine hK4 _ ?_
  refine VW.sqc fun K6 hK6 hCK6 => ?_
  refine VW.block ?_
  -- region 4
  obtain ⟨v7, hv7, hx2o⟩ := bind_some hx2o
  obtain ⟨hv7a, hv7b, hv7c, hv7d⟩ := idx_some hv7
  refine VW.ws tau_ok Sound.none [some 14, some 15, some 16, some 8, some 9] [(0, .val (i64 a0)), (2, .val (dI a2)), (7, .val (i64 s2.1)), (8, .val (i64 s2.2)), (9, .val (i64 v7)), (10, .val (dI a1)), (11, .val (i64 (a1.length : Int))), (12, .val (i64 s2.2))] rfl ?_ ?_
  · simp [hv7a, hv7b, hv7c, hv7d] <;> simp [ieq, ilt, ile]
  -- region 5
  obtain ⟨v8, hv8, hx2o⟩ := bind_some hx2o
  obtain ⟨hv8a, hv8b, hv8c, hv8d⟩ := idx_some hv8
  refine VW.wr tau_ok Sound.none [some 17, some 18, some 19, some 20, some 21, some 22, some 23, some 24, some 7] [(0, .val (i64 a0)), (2, .val (dI a2)), (7, .val (i64 (w64 (s2.1 + (w64 (v7 * v8)))))), (10, .val (dI a1)), (11, .val (i64 (a1.length : Int))), (12, .val (i64 s2.2))] rfl ?_ ?_
  · simp [hv8a, hv8b, hv8c, hv8d] <;> simp [ieq, ilt, ile]
  refine hK6 _ ?_
  -- region 6
  refine VW.wr tau_ok Sound.none [some 25, some 12] [(0, .val (i64 a0)), (2, .val (dI a2)), (7, .val (i64 (w64 (s2.1 + (w64 (v7 * v8)))))), (10, .val (dI a1)), (11, .val (i64 (a1.length : Int))), (12, .val (i64 (w64 (s2.2 + 1))))] rfl ?_ ?_
  · simp <;> simp [ieq, ilt, ile]
  cases hx2o
  exact ⟨_, rfl, Fits.of rfl⟩

theorem i_field_apply_ok {a0 : Int} {a1 : List (List Int)} {a2 : List Int} {r : List Int} (h : i_field_apply a0 a1 a2 = some r) :
    VCall Try.prog 146 [i64 a0, dM a1, dI a2] [.own true (dI r)] := by
  unfold i_field_apply at h
  refine VCall.enter Try.call146 Try.func146 rfl 26 Try.ntmps146 (by simp) [.tmp 6] rfl ?_
  show VW _ _ _ (mk [(0, .val (i64 a0)), (1, .val (dM a1)), (2, .val (dI a2))]) _
  -- region 0
  refine VW.ws tau_ok Sound.none [some 6] [(0, .val (i64 a0)), (1, .val (dM a1)), (2, .val (dI a2))] rfl ?_ ?_
  · simp <;> simp [ieq, ilt, ile]
  -- region 1
  refine VW.ws tau_ok Sound.none [some 10, some 7] [(0, .val (i64 a0)), (1, .val (dM a1)), (2, .val (dI a2)), (7, .ref 7 [] true (dI []))] rfl ?_ ?_
  · simp <;> simp [ieq, ilt, ile]
  refine VW.sqc fun K1 hK1 hCK1 => ?_
  -- region 2
  refine VW.ws tau_ok Sound.none [some 11, some 12, some 13] [(0, .val (i64 a0)), (2, .val (dI a2)), (7, .ref 7 [] true (dI [])), (11, .val (dM a1)), (12, .val (i64 (a1.length : Int))), (13, .val (i64 0))] rfl ?_ ?_
  · simp <;> simp [ieq, ilt, ile]
  obtain ⟨x2, hx2, h⟩ := bind_some h
  refine VW.tlE [(7, .ref 7 [] true (dI x2))] (hCK1) ?_ ?_
  · clear hx2
    refine hK1 _ ?_
    -- region 7
    refine VW.ws tau_ok Sound.none [some 25, some 6] [(6, .ref 6 [] true (dI x2))] rfl ?_ ?_
    · simp <;> simp [ieq, ilt, ile]
    cases h
    refine VW.ret ?_
    simp [Post, PostM, PostC, PostC2, Nx, Bk]
  refine VW.block ?_
  refine VW.loopF (i_field_apply_L0 a0 a1 a2) (fun s2 => [(0, .val (i64 a0)), (2, .val (dI a2)), (7, .ref 7 [] true (dI s2.1)), (11, .val (dM a1)), (12, .val (i64 (a1.length : Int))), (13, .val (i64 s2.2))]) hx2 (Fits.of rfl) ?_
  clear hx2
  intro s2 ox2 hx2o hx2b
  unfold i_field_apply_L0 at hx2o
  -- region 3
  refine VW.ws tau_ok Sound.none [some 14] [(0, .val (i64 a0)), (2, .val (dI a2)), (7, .ref 7 [] true (dI s2.1)), (11, .val (dM a1)), (12, .val (i64 (a1.length : Int))), (13, .val (i64 s2.2)), (14, .val (.bool (ilt s2.2 (a1.length : Int))))] rfl ?_ ?_
  · simp <;> simp [ieq, ilt, ile]
  refine VW.sqc fun K4 hK4 hCK4 => ?_
  refine VW.cond rfl (fun hb5 => ?_) (fun hb5 => ?_)
  rotate_left
  ·
    replace hb5 : ¬ (s2.2 < (a1.length : Int)) := by simpa [ieq, ilt, ile] using hb5
    rw [if_neg hb5] at hx2o
    refine VW.exit ?_
    cases hx2o
    have hq := hx2b _ rfl
    subst hq
    exact Fits.of rfl
  replace hb5 : s2.2 < (a1.length : Int) := by simpa [ieq, ilt, ile] using hb5
  rw [if_pos hb5] at hx2o
  refine VW.skip ?_
  refine hK4 _ ?_
  refine VW.sqc fun K6 hK6 hCK6 => ?_
  refine VW.block ?_
  -- region 4
  obtain ⟨v7, hv7, hx2o⟩ := bind_some hx2o
  obtain ⟨hv7a, hv7b, hv7c, hv7d⟩ := idx_some hv7
  refine VW.ws tau_ok Sound.none [some 15, some 16, some 9] [(0, .val (i64 a0)), (2, .val (dI a2)), (7, .ref 7 [] true (dI s2.1)), (9, .val (dI v7)), (11, .val (dM a1)), (12, .val (i64 (a1.length : Int))), (13, .val (i64 s2.2))] rfl ?_ ?_
  · simp [hv7a, hv7b, hv7c, hv7d] <;> simp [ieq, ilt, ile]
  -- region 5
  obtain ⟨v8, hv8, hx2o⟩ := bind_some hx2o
  obtain ⟨hc9, hx2o⟩ := chk_some hx2o
  have hc9s := hc9
  try simp at hc9s
  refine VW.wr tau_ok (Sound.none.add 21 (i_field_dot_ok hv8) rfl) [some 17, some 18, some 19, some 20, some 21, some 22, some 23, some 7] [(0, .val (i64 a0)), (2, .val (dI a2)), (7, .ref 7 [] true (dI (s2.1 ++ [v8]))), (11, .val (dM a1)), (12, .val (i64 (a1.length : Int))), (13, .val (i64 s2.2))] rfl ?_ ?_
  · simp [hc9, hc9s] <;> simp [ieq, ilt, ile]
  refine hK6 _ ?_
  -- region 6
  refine VW.wr tau_ok Sound.none [some 24, some 13] [(0, .val (i64 a0)), (2, .val (dI a2)), (7, .ref 7 [] true (dI (s2.1 ++ [v8]))), (11, .val (dM a1)), (12, .val (i64 (a1.length : Int))), (13, .val (i64 (w64 (s2.2 + 1))))] rfl ?_ ?_
  · simp <;> simp [ieq, ilt, ile]
  cases hx2o
  exact ⟨_, rfl, Fits.of rfl⟩

theorem i_ApplyMatrix_ok {a0 : Int} {a1 : List (List Int)} {a2 : List Int} {r : (List Int) × Int} (h : i_ApplyMatrix a0 a1 a2 = some r) :
    VCall Try.prog 61 [i64 a0, dM a1, dI a2] [.own true (dI r.1), .sc (i64 r.2)] := by
  unfold i_ApplyMatrix at h
  refine VCall.enter Try.call61 Try.func61 rfl 33 Try.ntmps61 (by simp) [.tmp 6, .tmp 7] rfl ?_
  show VW _ _ _ (mk [(0, .val (i64 a0)), (1, .val (dM a1)), (2, .val (dI a2))]) _
  -- region 0
  refine VW.ws tau_ok Sound.none [some 6, some 7] [(0, .val (i64 a0)), (1, .val (dM a1)), (2, .val (dI a2))] rfl ?_ ?_
  · simp <;> simp [ieq, ilt, ile]
  refine VW.sqc fun K1 hK1 hCK1 => ?_
  -- region 1
  obtain ⟨v2, hv2, h⟩ := bind_some h
  refine VW.ws tau_ok (Sound.none.add 12 (i_checkMatrices_ok hv2) rfl) [some 9, some 10, some 11, some 12, some 8] [(0, .val (i64 a0)), (1, .val (dM a1)), (2, .val (dI a2)), (8, .val (i64 v2))] rfl ?_ ?_
  · simp <;> simp [ieq, ilt, ile]
  -- region 2
  refine VW.ws tau_ok Sound.none [some 13, some 14] [(0, .val (i64 a0)), (1, .val (dM a1)), (2, .val (dI a2)), (8, .val (i64 v2)), (14, .val (.bool (!(ieq v2 0))))] rfl ?_ ?_
  · simp <;> simp [ieq, ilt, ile]
  refine VW.cond rfl (fun hb3 => ?_) (fun hb3 => ?_)
  ·
    replace hb3 : ¬ v2 = 0 := by simpa [ieq, ilt, ile] using hb3
    rw [if_pos hb3] at h
    -- region 3
    refine VW.ws tau_ok Sound.none [some 15, some 6, some 7] [(6, .ref 6 [] true (.list [])), (7, .val (i64 v2))] rfl ?_ ?_
    · simp <;> simp [ieq, ilt, ile]
    cases h
    refine VW.ret ?_
    simp [Post, PostM, PostC, PostC2, Nx, Bk]
  replace hb3 : ¬ (¬ v2 = 0) := by simpa [ieq, ilt, ile] using hb3
  rw [if_neg hb3] at h
  refine VW.skip ?_
  refine hK1 _ ?_
  refine VW.sqc fun K4 hK4 hCK4 => ?_
  -- region 4
  obtain ⟨x8, hx8, h⟩ := bind_some h
  refine VW.cut [(0, .val (i64 a0)), (1, .val (dM a1)), (2, .val (dI a2)), (28, .val (.bool x8))] ?_ fun hy => ?_
  rotate_left
  · clear h
    obtain ⟨v5, hv5, hx8⟩ := bind_some hx8
    obtain ⟨hv5a, hv5b, hv5c, hv5d⟩ := idx_some hv5
    replace hv5b : 0 < a1.length := hv5b
    replace hv5c : a1[0]? = some v5 := hv5c
    replace hv5d : ∀ h, a1[0]'h = v5 := hv5d
    by_cases hp6 : ¬ (a2.length : Int) = (v5.length : Int)
    · rw [if_pos hp6] at hx8
      have hp6b : ieq (a2.length : Int) (v5.length : Int) = false := by simpa [ieq, ilt, ile] using hp6
      have hp6s := hp6b
      try simp at hp6s
      cases hx8
      refine VW.ws tau_ok Sound.none [some 16, some 17, some 18, some 19, some 20, some 21, some 22, some 23, some 24, some 25, some 26, some 27, some 28] _ rfl ?_ hy
      simp [hv5a, hv5b, hv5c, hv5d, hp6b, hp6s] <;> simp [ieq, ilt, ile]
    · rw [if_neg hp6] at hx8
      have hp6b : ieq (a2.length : Int) (v5.length : Int) = true := by simpa [ieq, ilt, ile] using hp6
      have hp6s := hp6b
      try simp at hp6s
      obtain ⟨v7, hv7, hx8⟩ := bind_some hx8
      cases hx8
      refine VW.ws tau_ok (Sound.none.add 26 (i_field_is_ok hv7) rfl) [some 16, some 17, some 18, some 19, some 20, some 21, some 22, some 23, some 24, some 25, some 26, some 27, some 28] _ rfl ?_ hy
      simp [hv5a, hv5b, hv5c, hv5d, hp6b, hp6s] <;> simp [ieq, ilt, ile]
  refine VW.cond rfl (fun hb9 => ?_) (fun hb9 => ?_)
  ·
    replace hb9 : x8 = true := by simpa [ieq, ilt, ile] using hb9
    rw [if_pos hb9] at h
    -- region 5
    refine VW.ws tau_ok Sound.none [some 6, some 7] [(6, .ref 6 [] true (.list [])), (7, .val (i64 2))] rfl ?_ ?_
    · simp <;> simp [ieq, ilt, ile]
    cases h
    refine VW.ret ?_
    simp [Post, PostM, PostC, PostC2, Nx, Bk]
  replace hb9 : ¬ (x8 = true) := by simpa [ieq, ilt, ile] using hb9
  rw [if_neg hb9] at h
  refine VW.skip ?_
  refine hK4 _ ?_
  -- region 6
  obtain ⟨v10, hv10, h⟩ := bind_some h
  refine VW.ws tau_ok (Sound.none.add 32 (i_field_apply_ok hv10) rfl) [some 29, some 30, some 31, some 32, some 6, some 7] [(6, .ref 6 [] true (dI v10)), (7, .val (i64 0))] rfl ?_ ?_
  · simp <;> simp [ieq, ilt, ile]
  cases h
  refine VW.ret ?_
  simp [Post, PostM, PostC, PostC2, Nx, Bk]

theorem i_DoubleTimes_ok {a0_0 : Int} {a0_1 : List Int} {a1 : List Int} {a2 : List Int} {r : (List Int) × Int} (h : i_DoubleTimes a0_0 a0_1 a1 a2 = some r) :
    VCall Try.prog 165 [.agg [i64 a0_0, dI a0_1], dI a1, dI a2] [.own true (dI r.1), .sc (i64 r.2)] := by
  unfold i_DoubleTimes at h
  refine VCall.enter Try.call165 Try.func165 rfl 21 Try.ntmps165 (by simp) [.tmp 6, .tmp 7] rfl ?_
  show VW _ _ _ (mk [(0, .val (.agg [i64 a0_0, dI a0_1])), (1, .val (dI a1)), (2, .val (dI a2))]) _
  -- region 0
  refine VW.ws tau_ok Sound.none [some 3, some 6, some 7] [(1, .val (dI a1)), (2, .val (dI a2)), (3, .val (.ptr [i64 a0_0, dI a0_1]))] rfl ?_ ?_
  · simp <;> simp [ieq, ilt, ile]
  refine VW.sqc fun K1 hK1 hCK1 => ?_
  -- region 1
  obtain ⟨v2, hv2, h⟩ := bind_some h
  refine VW.ws tau_ok (Sound.none.add 13 (i_checkElements_ok hv2) rfl) [some 9, some 10, some 11, some 12, some 13, some 8] [(1, .val (dI a1)), (2, .val (dI a2)), (3, .val (.ptr [i64 a0_0, dI a0_1])), (8, .val (i64 v2))] rfl ?_ ?_
  · simp <;> simp [ieq, ilt, ile]
  -- region 2
  refine VW.ws tau_ok Sound.none [some 14, some 15] [(1, .val (dI a1)), (2, .val (dI a2)), (3, .val (.ptr [i64 a0_0, dI a0_1])), (8, .val (i64 v2)), (15, .val (.bool (!(ieq v2 0))))] rfl ?_ ?_
  · simp <;> simp [ieq, ilt, ile]
  refine VW.cond rfl (fun hb3 => ?_) (fun hb3 => ?_)
  ·
    replace hb3 : ¬ v2 = 0 := by simpa [ieq, ilt, ile] using hb3
    rw [if_pos hb3] at h
    -- region 3
    refine VW.ws tau_ok Sound.none [some 16, some 6, some 7] [(6, .ref 6 [] true (.list [])), (7, .val (i64 v2))] rfl ?_ ?_
    · simp <;> simp [ieq, ilt, ile]
    cases h
    refine VW.ret ?_
    simp [Post, PostM, PostC, PostC2, Nx, Bk]
  replace hb3 : ¬ (¬ v2 = 0) := by simpa [ieq, ilt, ile] using hb3
  rw [if_neg hb3] at h
  refine VW.skip ?_
  refine hK1 _ ?_
  -- region 4
  obtain ⟨v4, hv4, h⟩ := bind_some h
  refine VW.ws tau_ok (Sound.none.add 20 (i_Doubling_times_ok hv4) rfl) [some 17, some 18, some 19, some 20, some 6, some 7] [(6, .ref 6 [] true (dI v4)), (7, .val (i64 0))] rfl ?_ ?_
  · simp <;> simp [ieq, ilt, ile]
  cases h
  refine VW.ret ?_
  simp [Post, PostM, PostC, PostC2, Nx, Bk]

theorem l_times9_ok {a0_0 : Int} {a0_1 : List Int} {a1 : List Int} {a2 : List Int} {r : List Int} (h : l_times9 a0_0 a0_1 a1 a2 = some r) :
    VCall Try.prog 77 [.agg [i64 a0_0, dI a0_1], dI a1, dI a2] [.own true (dI r)] := by
  unfold l_times9 at h
  refine VCall.enter Try.call77 Try.func77 rfl 19 Try.ntmps77 (by simp) [.tmp 6] rfl ?_
  show VW _ _ _ (mk [(0, .val (.agg [i64 a0_0, dI a0_1])), (1, .val (dI a1)), (2, .val (dI a2))]) _
  -- region 0
  refine VW.ws tau_ok Sound.none [some 3, some 6] [(1, .val (dI a1)), (2, .val (dI a2)), (3, .val (.ptr [i64 a0_0, dI a0_1]))] rfl ?_ ?_
  · simp <;> simp [ieq, ilt, ile]
  -- region 1
  obtain ⟨v1, hv1, h⟩ := bind_some h
  refine VW.ws tau_ok (Sound.none.add 13 (i_DoubleTimes_ok hv1) rfl) [some 10, some 11, some 12, some 13, some 9, some 14, some 15, some 7, some 8] [(7, .ref 7 [] true (dI v1.1)), (8, .val (i64 v1.2))] rfl ?_ ?_
  · simp <;> simp [ieq, ilt, ile]
  refine VW.sqc fun K2 hK2 hCK2 => ?_
  -- region 2
  refine VW.ws tau_ok Sound.none [some 16, some 17] [(7, .ref 7 [] true (dI v1.1)), (17, .val (.bool (!(ieq v1.2 0))))] rfl ?_ ?_
  · simp <;> simp [ieq, ilt, ile]
  refine VW.cond rfl (fun hb3 => ?_) (fun hb3 => ?_)
  ·
    replace hb3 : ¬ v1.2 = 0 := by simpa [ieq, ilt, ile] using hb3
    rw [if_pos hb3] at h
    -- region 3
    refine VW.ws tau_ok Sound.none [some 6] [(6, .ref 6 [] true (.list []))] rfl ?_ ?_
    · simp <;> simp [ieq, ilt, ile]
    cases h
    refine VW.ret ?_
    simp [Post, PostM, PostC, PostC2, Nx, Bk]
  replace hb3 : ¬ (¬ v1.2 = 0) := by simpa [ieq, ilt, ile] using hb3
  rw [if_neg hb3] at h
  refine VW.skip ?_
  refine hK2 _ ?_
  -- region 4
  refine VW.ws tau_ok Sound.none [some 18, some 6] [(6, .ref 6 [] true (dI v1.1))] rfl ?_ ?_
  · simp <;> simp [ieq, ilt, ile]
  cases h
  refine VW.ret ?_
  simp [Post, PostM, PostC, PostC2, Nx, Bk]

theorem i_field_times_ok {a0 : Int} {a1 : List (List Int)} {a2 : List (List Int)} {r : List (List Int)} (h : i_field_times a0 a1 a2 = some r) :
    VCall Try.prog 96 [i64 a0, dM a1, dM a2] [.own true (dM r)] := by
  unfold i_field_times at h
  refine VCall.enter Try.call96 Try.func96 rfl 29 Try.ntmps96 (by simp) [.tmp 6] rfl ?_
  show VW _ _ _ (mk [(0, .val (i64 a0)), (1, .val (dM a1)), (2, .val (dM a2))]) _
  -- region 0
  refine VW.ws tau_ok Sound.none [some 6] [(0, .val (i64 a0)), (1, .val (dM a1)), (2, .val (dM a2))] rfl ?_ ?_
  · simp <;> simp [ieq, ilt, ile]
  -- region 1
  obtain ⟨v1, hv1, h⟩ := bind_some h
  refine VW.ws tau_ok (Sound.none.add 12 (i_transpose_ok hv1) rfl) [some 11, some 12, some 13, some 7, some 8] [(0, .val (i64 a0)), (1, .val (dM a1)), (7, .ref 7 [] true (dM v1)), (8, .ref 8 [] true (dM []))] rfl ?_ ?_
  · simp <;> simp [ieq, ilt, ile]
  refine VW.sqc fun K2 hK2 hCK2 => ?_
  -- region 2
  refine VW.ws tau_ok Sound.none [some 14, some 15, some 16] [(0, .val (i64 a0)), (7, .ref 7 [] true (dM v1)), (8, .ref 8 [] true (dM [])), (14, .val (dM a1)), (15, .val (i64 (a1.length : Int))), (16, .val (i64 0))] rfl ?_ ?_
  · simp <;> simp [ieq, ilt, ile]
  obtain ⟨x3, hx3, h⟩ := bind_some h
  refine VW.tlE [(8, .ref 8 [] true (dM x3))] (hCK2) ?_ ?_
  · clear hx3
    refine hK2 _ ?_
    -- region 7
    refine VW.ws tau_ok Sound.none [some 28, some 6] [(6, .ref 6 [] true (dM x3))] rfl ?_ ?_
    · simp <;> simp [ieq, ilt, ile]
    cases h
    refine VW.ret ?_
    simp [Post, PostM, PostC, PostC2, Nx, Bk]
  refine VW.block ?_
  refine VW.loopF (i_field_times_L0 a0 a1 v1) (fun s3 => [(0, .val (i64 a0)), (7, .ref 7 [] true (dM v1)), (8, .ref 8 [] true (dM s3.1)), (14, .val (dM a1)), (15, .val (i64 (a1.length : Int))), (16, .val (i64 s3.2))]) hx3 (Fits.of rfl) ?_
  clear hx3
  intro s3 ox3 hx3o hx3b
  unfold i_field_times_L0 at hx3o
  -- region 3
  refine VW.ws tau_ok Sound.none [some 17] [(0, .val (i64 a0)), (7, .ref 7 [] true (dM v1)), (8, .ref 8 [] true (dM s3.1)), (14, .val (dM a1)), (15, .val (i64 (a1.length : Int))), (16, .val (i64 s3.2)), (17, .val (.bool (ilt s3.2 (a1.length : Int))))] rfl ?_ ?_
  · simp <;> simp [ieq, ilt, ile]
  refine VW.sqc fun K5 hK5 hCK5 => ?_
  refine VW.cond rfl (fun hb6 => ?_) (fun hb6 => ?_)
  rotate_left
  ·
    replace hb6 : ¬ (s3.2 < (a1.length : Int)) := by simpa [ieq, ilt, ile] using hb6
    rw [if_neg hb6] at hx3o
    refine VW.exit ?_
    cases hx3o
    have hq := hx3b _ rfl
    subst hq
    exact Fits.of rfl
  replace hb6 : s3.2 < (a1.length : Int) := by simpa [ieq, ilt, ile] using hb6
  rw [if_pos hb6] at hx3o
  refine VW.skip ?_
  refine hK5 _ ?_
  refine VW.sqc fun K7 hK7 hCK7 => ?_
  refine VW.block ?_
  -- region 4
  obtain ⟨v8, hv8, hx3o⟩ := bind_some hx3o
  obtain ⟨hv8a, hv8b, hv8c, hv8d⟩ := idx_some hv8
  refine VW.ws tau_ok Sound.none [some 18, some 19, some 10] [(0, .val (i64 a0)), (7, .ref 7 [] true (dM v1)), (8, .ref 8 [] true (dM s3.1)), (10, .val (dI v8)), (14, .val (dM a1)), (15, .val (i64 (a1.length : Int))), (16, .val (i64 s3.2))] rfl ?_ ?_
  · simp [hv8a, hv8b, hv8c, hv8d] <;> simp [ieq, ilt, ile]
  -- region 5
  obtain ⟨v9, hv9, hx3o⟩ := bind_some hx3o
  obtain ⟨hc10, hx3o⟩ := chk_some hx3o
  have hc10s := hc10
  try simp at hc10s
  refine VW.wr tau_ok (Sound.none.add 24 (i_field_apply_ok hv9) rfl) [some 20, some 21, some 22, some 23, some 24, some 25, some 26, some 8] [(0, .val (i64 a0)), (7, .ref 7 [] true (dM v1)), (8, .ref 8 [] true (dM (s3.1 ++ [v9]))), (14, .val (dM a1)), (15, .val (i64 (a1.length : Int))), (16, .val (i64 s3.2))] rfl ?_ ?_
  · simp [hc10, hc10s] <;> simp [ieq, ilt, ile]
  refine hK7 _ ?_
  -- region 6
  refine VW.wr tau_ok Sound.none [some 27, some 16] [(0, .val (i64 a0)), (7, .ref 7 [] true (dM v1)), (8, .ref 8 [] true (dM (s3.1 ++ [v9]))), (14, .val (dM a1)), (15, .val (i64 (a1.length : Int))), (16, .val (i64 (w64 (s3.2 + 1))))] rfl ?_ ?_
  · simp <;> simp [ieq, ilt, ile]
  cases hx3o
  exact ⟨_, rfl, Fits.of rfl⟩

theorem i_MultiplyMatrices_ok {a0 : Int} {a1 : List (List Int)} {a2 : List (List Int)} {r : (List (List Int)) × Int} (h : i_MultiplyMatrices a0 a1 a2 = some r) :
    VCall Try.prog 40 [i64 a0, dM a1, dM a2] [.own true (dM r.1), .sc (i64 r.2)] := by
  unfold i_MultiplyMatrices at h
  refine VCall.enter Try.call40 Try.func40 rfl 28 Try.ntmps40 (by simp) [.tmp 6, .tmp 7] rfl ?_
  show VW _ _ _ (mk [(0, .val (i64 a0)), (1, .val (dM a1)), (2, .val (dM a2))]) _
  -- region 0
  refine VW.ws tau_ok Sound.none [some 6, some 7] [(0, .val (i64 a0)), (1, .val (dM a1)), (2, .val (dM a2))] rfl ?_ ?_
  · simp <;> simp [ieq, ilt, ile]
  refine VW.sqc fun K1 hK1 hCK1 => ?_
  -- region 1
  obtain ⟨v2, hv2, h⟩ := bind_some h
  refine VW.ws tau_ok (Sound.none.add 13 (i_checkMatrices_ok hv2) rfl) [some 9, some 10, some 11, some 12, some 13, some 8] [(0, .val (i64 a0)), (1, .val (dM a1)), (2, .val (dM a2)), (8, .val (i64 v2))] rfl ?_ ?_
  · simp <;> simp [ieq, ilt, ile]
  -- region 2
  refine VW.ws tau_ok Sound.none [some 14, some 15] [(0, .val (i64 a0)), (1, .val (dM a1)), (2, .val (dM a2)), (8, .val (i64 v2)), (15, .val (.bool (!(ieq v2 0))))] rfl ?_ ?_
  · simp <;> simp [ieq, ilt, ile]
  refine VW.cond rfl (fun hb3 => ?_) (fun hb3 => ?_)
  ·
    replace hb3 : ¬ v2 = 0 := by simpa [ieq, ilt, ile] using hb3
    rw [if_pos hb3] at h
    -- region 3
    refine VW.ws tau_ok Sound.none [some 16, some 6, some 7] [(6, .ref 6 [] true (.list [])), (7, .val (i64 v2))] rfl ?_ ?_
    · simp <;> simp [ieq, ilt, ile]
    cases h
    refine VW.ret ?_
    simp [Post, PostM, PostC, PostC2, Nx, Bk]
  replace hb3 : ¬ (¬ v2 = 0) := by simpa [ieq, ilt, ile] using hb3
  rw [if_neg hb3] at h
  refine VW.skip ?_
  refine hK1 _ ?_
  refine VW.sqc fun K4 hK4 hCK4 => ?_
  -- region 4
  obtain ⟨v5, hv5, h⟩ := bind_some h
  obtain ⟨hv5a, hv5b, hv5c, hv5d⟩ := idx_some hv5
  replace hv5b : 0 < a1.length := hv5b
  replace hv5c : a1[0]? = some v5 := hv5c
  replace hv5d : ∀ h, a1[0]'h = v5 := hv5d
  refine VW.ws tau_ok Sound.none [some 17, some 18, some 19, some 20, some 21, some 22, some 23] [(0, .val (i64 a0)), (1, .val (dM a1)), (2, .val (dM a2)), (23, .val (.bool (!(ieq (v5.length : Int) (a2.length : Int)))))] rfl ?_ ?_
  · simp [hv5a, hv5b, hv5c, hv5d] <;> simp [ieq, ilt, ile]
  refine VW.cond rfl (fun hb6 => ?_) (fun hb6 => ?_)
  ·
    replace hb6 : ¬ (v5.length : Int) = (a2.length : Int) := by simpa [ieq, ilt, ile] using hb6
    rw [if_pos hb6] at h
    -- region 5
    refine VW.ws tau_ok Sound.none [some 6, some 7] [(6, .ref 6 [] true (.list [])), (7, .val (i64 2))] rfl ?_ ?_
    · simp <;> simp [ieq, ilt, ile]
    cases h
    refine VW.ret ?_
    simp [Post, PostM, PostC, PostC2, Nx, Bk]
  replace hb6 : ¬ (¬ (v5.length : Int) = (a2.length : Int)) := by simpa [ieq, ilt, ile] using hb6
  rw [if_neg hb6] at h
  refine VW.skip ?_
  refine hK4 _ ?_
  -- region 6
  obtain ⟨v7, hv7, h⟩ := bind_some h
  refine VW.ws tau_ok (Sound.none.add 27 (i_field_times_ok hv7) rfl) [some 24, some 25, some 26, some 27, some 6, some 7] [(6, .ref 6 [] true (dM v7)), (7, .val (i64 0))] rfl ?_ ?_
  · simp <;> simp [ieq, ilt, ile]
  cases h
  refine VW.ret ?_
  simp [Post, PostM, PostC, PostC2, Nx, Bk]

theorem i_Doubling_norm_ok {a0_0 : Int} {a0_1 : List Int} {a1 : List Int} {r : Int} (h : i_Doubling_norm a0_0 a0_1 a1 = some r) :
    VCall Try.prog 155 [.agg [i64 a0_0, dI a0_1], dI a1] [.sc (i64 r)] := by
  unfold i_Doubling_norm at h
  refine VCall.enter Try.call155 Try.func155 rfl 14 Try.ntmps155 (by simp) [.tmp 4] rfl ?_
  show VW _ _ _ (mk [(0, .val (.agg [i64 a0_0, dI a0_1])), (1, .val (dI a1))]) _
  -- region 0
  refine VW.ws tau_ok Sound.none [some 2, some 4] [(1, .val (dI a1)), (2, .val (.ptr [i64 a0_0, dI a0_1]))] rfl ?_ ?_
  · simp <;> simp [ieq, ilt, ile]
  -- region 1
  obtain ⟨v1, hv1, h⟩ := bind_some h
  obtain ⟨v2, hv2, h⟩ := bind_some h
  obtain ⟨v3, hv3, h⟩ := bind_some h
  obtain ⟨v4, hv4, h⟩ := bind_some h
  obtain ⟨hv4a, hv4b, hv4c, hv4d⟩ := idx_some hv4
  replace hv4b : 0 < v3.length := hv4b
  replace hv4c : v3[0]? = some v4 := hv4c
  replace hv4d : ∀ h, v3[0]'h = v4 := hv4d
  refine VW.wds tau_ok (((Sound.none.add 8 (i_Doubling_field_ok hv1) rfl).add 10 (i_field_conjugate_ok hv2) rfl).add 11 (i_Doubling_times_ok hv3) rfl) try_mixed [some 5, some 6, some 7, some 8, some 9, some 10, some 11, some 12, some 13, some 4] [(4, .val (i64 v4))] 10 rfl (by kernel_rfl) (by rfl) ?_ ?_
  · simp [hv4a, hv4b, hv4c, hv4d] <;> simp [ieq, ilt, ile]
  cases h
  refine VW.ret ?_
  simp [Post, PostM, PostC, PostC2, Nx, Bk]

theorem i_Doubling_diagonal_ok {a0_0 : Int} {a0_1 : List Int} {r : List Int} (h : i_Doubling_diagonal a0_0 a0_1 = some r) :
    VCall Try.prog 167 [.agg [i64 a0_0, dI a0_1]] [.own true (dI r)] := by
  unfold i_Doubling_diagonal at h
  refine VCall.enter Try.call167 Try.func167 rfl 23 Try.ntmps167 (by simp) [.tmp 2] rfl ?_
  show VW _ _ _ (mk [(0, .val (.agg [i64 a0_0, dI a0_1]))]) _
  -- region 0
  refine VW.ws tau_ok Sound.none [some 1, some 2] [(1, .val (.ptr [i64 a0_0, dI a0_1]))] rfl ?_ ?_
  · simp <;> simp [ieq, ilt, ile]
  -- region 1
  refine VW.ws tau_ok Sound.none [some 6, some 3] [(1, .val (.ptr [i64 a0_0, dI a0_1])), (3, .ref 3 [] true (dI []))] rfl ?_ ?_
  · simp <;> simp [ieq, ilt, ile]
  refine VW.sqc fun K1 hK1 hCK1 => ?_
  -- region 2
  obtain ⟨v2, hv2, h⟩ := bind_some h
  obtain ⟨v3, hv3, h⟩ := bind_some h
  refine VW.ws tau_ok ((Sound.none.add 8 (i_Doubling_size_ok hv2) rfl).add 9 (i_unit_ok hv3) rfl) [some 7, some 8, some 9, some 10, some 11] [(1, .val (.ptr [i64 a0_0, dI a0_1])), (3, .ref 3 [] true (dI [])), (9, .ref 9 [] true (dM v3)), (10, .val (i64 (v3.length : Int))), (11, .val (i64 0))] rfl ?_ ?_
  · simp <;> simp [ieq, ilt, ile]
  obtain ⟨x4, hx4, h⟩ := bind_some h
  refine VW.tlE [(3, .ref 3 [] true (dI x4))] (hCK1) ?_ ?_
  · clear hx4
    refine hK1 _ ?_
    -- region 7
    refine VW.ws tau_ok Sound.none [some 22, some 2] [(2, .ref 2 [] true (dI x4))] rfl ?_ ?_
    · simp <;> simp [ieq, ilt, ile]
    cases h
    refine VW.ret ?_
    simp [Post, PostM, PostC, PostC2, Nx, Bk]
  refine VW.block ?_
  refine VW.loopF (i_Doubling_diagonal_L0 a0_0 a0_1 v3) (fun s4 => [(1, .val (.ptr [i64 a0_0, dI a0_1])), (3, .ref 3 [] true (dI s4.1)), (9, .ref 9 [] true (dM v3)), (10, .val (i64 (v3.length : Int))), (11, .val (i64 s4.2))]) hx4 (Fits.of rfl) ?_
  clear hx4
  intro s4 ox4 hx4o hx4b
  unfold i_Doubling_diagonal_L0 at hx4o
  -- region 3
  refine VW.ws tau_ok Sound.none [some 12] [(1, .val (.ptr [i64 a0_0, dI a0_1])), (3, .ref 3 [] true (dI s4.1)), (9, .ref 9 [] true (dM v3)), (10, .val (i64 (v3.length : Int))), (11, .val (i64 s4.2)), (12, .val (.bool (ilt s4.2 (v3.length : Int))))] rfl ?_ ?_
  · simp <;> simp [ieq, ilt, ile]
  refine VW.sqc fun K6 hK6 hCK6 => ?_
  refine VW.cond rfl (fun hb7 => ?_) (fun hb7 => ?_)
  rotate_left
  ·
    replace hb7 : ¬ (s4.2 < (v3.length : Int)) := by simpa [ieq, ilt, ile] using hb7
    rw [if_neg hb7] at hx4o
    refine VW.exit ?_
    cases hx4o
    have hq := hx4b _ rfl
    subst hq
    exact Fits.of rfl
  replace hb7 : s4.2 < (v3.length : Int) := by simpa [ieq, ilt, ile] using hb7
  rw [if_pos hb7] at hx4o
  refine VW.skip ?_
  refine hK6 _ ?_
  refine VW.sqc fun K8 hK8 hCK8 => ?_
  refine VW.block ?_
  -- region 4
  obtain ⟨v9, hv9, hx4o⟩ := bind_some hx4o
  obtain ⟨hv9a, hv9b, hv9c, hv9d⟩ := idx_some hv9
  refine VW.ws tau_ok Sound.none [some 13, some 14, some 5] [(1, .val (.ptr [i64 a0_0, dI a0_1])), (3, .ref 3 [] true (dI s4.1)), (5, .ref 9 [s4.2.toNat] true (dI v9)), (9, .ref 9 [] true (dM v3)), (10, .val (i64 (v3.length : Int))), (11, .val (i64 s4.2))] rfl ?_ ?_
  · simp [hv9a, hv9b, hv9c, hv9d] <;> simp [ieq, ilt, ile]
  -- region 5
  obtain ⟨v10, hv10, hx4o⟩ := bind_some hx4o
  obtain ⟨hc11, hx4o⟩ := chk_some hx4o
  have hc11s := hc11
  try simp at hc11s
  refine VW.wr tau_ok (Sound.none.add 18 (i_Doubling_norm_ok hv10) rfl) [some 15, some 16, some 17, some 18, some 19, some 20, some 3] [(1, .val (.ptr [i64 a0_0, dI a0_1])), (3, .ref 3 [] true (dI (s4.1 ++ [v10]))), (9, .ref 9 [] true (dM v3)), (10, .val (i64 (v3.length : Int))), (11, .val (i64 s4.2))] rfl ?_ ?_
  · simp [hc11, hc11s] <;> simp [ieq, ilt, ile]
  refine hK8 _ ?_
  -- region 6
  refine VW.wr tau_ok Sound.none [some 21, some 11] [(1, .val (.ptr [i64 a0_0, dI a0_1])), (3, .ref 3 [] true (dI (s4.1 ++ [v10]))), (9, .ref 9 [] true (dM v3)), (10, .val (i64 (v3.length : Int))), (11, .val (i64 (w64 (s4.2 + 1))))] rfl ?_ ?_
  · simp <;> simp [ieq, ilt, ile]
  cases hx4o
  exact ⟨_, rfl, Fits.of rfl⟩

theorem i_NormDiagonal_ok {a0_0 : Int} {a0_1 : List Int} {r : (List Int) × Int} (h : i_NormDiagonal a0_0 a0_1 = some r) :
    VCall Try.prog 78 [.agg [i64 a0_0, dI a0_1]] [.own true (dI r.1), .sc (i64 r.2)] := by
  unfold i_NormDiagonal at h
  refine VCall.enter Try.call78 Try.func78 rfl 9 Try.ntmps78 (by simp) [.tmp 2, .tmp 3] rfl ?_
  show VW _ _ _ (mk [(0, .val (.agg [i64 a0_0, dI a0_1]))]) _
  -- region 0
  refine VW.ws tau_ok Sound.none [some 1, some 2, some 3] [(1, .val (.ptr [i64 a0_0, dI a0_1]))] rfl ?_ ?_
  · simp <;> simp [ieq, ilt, ile]
  refine VW.sqc fun K1 hK1 hCK1 => ?_
  -- region 1
  obtain ⟨v2, hv2, h⟩ := bind_some h
  refine VW.ws tau_ok (Sound.none.add 5 (i_IsDoubling_ok hv2) rfl) [some 4, some 5, some 6] [(1, .val (.ptr [i64 a0_0, dI a0_1])), (6, .val (.bool (!v2)))] rfl ?_ ?_
  · simp <;> simp [ieq, ilt, ile]
  refine VW.cond rfl (fun hb3 => ?_) (fun hb3 => ?_)
  ·
    replace hb3 : v2 = false := by simpa [ieq, ilt, ile] using hb3
    rw [if_pos hb3] at h
    -- region 2
    refine VW.ws tau_ok Sound.none [some 2, some 3] [(2, .ref 2 [] true (.list [])), (3, .val (i64 1))] rfl ?_ ?_
    · simp <;> simp [ieq, ilt, ile]
    cases h
    refine VW.ret ?_
    simp [Post, PostM, PostC, PostC2, Nx, Bk]
  replace hb3 : ¬ (v2 = false) := by simpa [ieq, ilt, ile] using hb3
  rw [if_neg hb3] at h
  refine VW.skip ?_
  refine hK1 _ ?_
  -- region 3
  obtain ⟨v4, hv4, h⟩ := bind_some h
  refine VW.ws tau_ok (Sound.none.add 8 (i_Doubling_diagonal_ok hv4) rfl) [some 7, some 8, some 2, some 3] [(2, .ref 2 [] true (dI v4)), (3, .val (i64 0))] rfl ?_ ?_
  · simp <;> simp [ieq, ilt, ile]
  cases h
  refine VW.ret ?_
  simp [Post, PostM, PostC, PostC2, Nx, Bk]

set_option maxHeartbeats 4000000 in
theorem l_FnMultiplicationMatrices_ok {a0 : List Int} {r : Bool} (h : l_FnMultiplicationMatrices a0 = some r) :
    VCall Try.prog 12 [.list (a0.map (D.int .u8))] [.sc (.bool r)] := by
  unfold l_FnMultiplicationMatrices at h
  refine VCall.enter Try.call12 Try.func12 rfl 299 Try.ntmps12 (by simp) [.tmp 2] rfl ?_
  show VW _ _ _ (mk [(0, .val (.list (a0.map (D.int .u8))))]) _
  -- region 0
  refine VW.ws tau_ok Sound.none [some 2] [(0, .val (.list (a0.map (D.int .u8))))] rfl ?_ ?_
  · simp <;> simp [ieq, ilt, ile]
  refine VW.sqc fun K1 hK1 hCK1 => ?_
  -- region 1
  obtain ⟨v2, hv2, h⟩ := bind_some h
  refine VW.ws tau_ok (Sound.none.add 37 (l_big_ok hv2) rfl) [some 36, some 37] [(0, .val (.list (a0.map (D.int .u8)))), (37, .val (.bool v2))] rfl ?_ ?_
  · simp <;> simp [ieq, ilt, ile]
  refine VW.cond rfl (fun hb3 => ?_) (fun hb3 => ?_)
  ·
    replace hb3 : v2 = true := by simpa [ieq, ilt, ile] using hb3
    rw [if_pos hb3] at h
    -- region 2
    refine VW.ws tau_ok Sound.none [some 2] [(2, .val (.bool true))] rfl ?_ ?_
    · simp <;> simp [ieq, ilt, ile]
    cases h
    refine VW.ret ?_
    simp [Post, PostM, PostC, PostC2, Nx, Bk]
  replace hb3 : ¬ (v2 = true) := by simpa [ieq, ilt, ile] using hb3
  rw [if_neg hb3] at h
  refine VW.skip ?_
  refine hK1 _ ?_
  -- region 3
  obtain ⟨v4, hv4, h⟩ := bind_some h
  refine VW.ws tau_ok (Sound.none.add 40 (s_DrawLeftMatrixOf_ok hv4) rfl) [some 39, some 40, some 38, some 41, some 42, some 3, none, some 4] [(0, .val (.list (a0.map (D.int .u8)))), (3, .val (.ptr [i64 v4.1.1, dI v4.1.2])), (4, .val (dI v4.2))] rfl ?_ ?_
  · simp <;> simp [ieq, ilt, ile]
  -- region 4
  obtain ⟨v5, hv5, h⟩ := bind_some h
  refine VW.ws tau_ok (Sound.none.add 46 (i_LeftMatrixOf_ok hv5) rfl) [some 44, some 45, some 46, some 43, some 47, some 48, some 5, some 6] [(0, .val (.list (a0.map (D.int .u8)))), (3, .val (.ptr [i64 v4.1.1, dI v4.1.2])), (4, .val (dI v4.2)), (5, .ref 5 [] true (dM v5.1)), (6, .val (i64 v5.2))] rfl ?_ ?_
  · simp <;> simp [ieq, ilt, ile]
  refine VW.sqc fun K6 hK6 hCK6 => ?_
  -- region 5
  obtain ⟨v7, hv7, h⟩ := bind_some h
  refine VW.ws tau_ok (Sound.none.add 52 (s_LeftMatrixOf_ok hv7) rfl) [some 50, some 51, some 52, some 49, some 53, some 54, some 7, some 8] [(0, .val (.list (a0.map (D.int .u8)))), (3, .val (.ptr [i64 v4.1.1, dI v4.1.2])), (4, .val (dI v4.2)), (5, .ref 5 [] true (dM v5.1)), (6, .val (i64 v5.2)), (7, .ref 7 [] true (dM v7.1)), (8, .val (i64 v7.2))] rfl ?_ ?_
  · simp <;> simp [ieq, ilt, ile]
  -- region 6
  obtain ⟨x10, hx10, h⟩ := bind_some h
  refine VW.cut [(0, .val (.list (a0.map (D.int .u8)))), (3, .val (.ptr [i64 v4.1.1, dI v4.1.2])), (4, .val (dI v4.2)), (5, .ref 5 [] true (dM v5.1)), (6, .val (i64 v5.2)), (63, .val (.bool x10))] ?_ fun hy => ?_
  rotate_left
  · clear h
    by_cases hp8 : ¬ v5.2 = v7.2
    · rw [if_pos hp8] at hx10
      have hp8b : ieq v5.2 v7.2 = false := by simpa [ieq, ilt, ile] using hp8
      have hp8s := hp8b
      try simp at hp8s
      cases hx10
      refine VW.ws tau_ok Sound.none [some 55, some 56, some 57, some 58, some 59, some 60, some 61, some 62, some 63] _ rfl ?_ hy
      simp [hp8b, hp8s] <;> simp [ieq, ilt, ile]
    · rw [if_neg hp8] at hx10
      have hp8b : ieq v5.2 v7.2 = true := by simpa [ieq, ilt, ile] using hp8
      have hp8s := hp8b
      try simp at hp8s
      obtain ⟨v9, hv9, hx10⟩ := bind_some hx10
      cases hx10
      refine VW.ws tau_ok (Sound.none.add 61 (l_same9_ok hv9) rfl) [some 55, some 56, some 57, some 58, some 59, some 60, some 61, some 62, some 63] _ rfl ?_ hy
      simp [hp8b, hp8s] <;> simp [ieq, ilt, ile]
  refine VW.cond rfl (fun hb11 => ?_) (fun hb11 => ?_)
  ·
    replace hb11 : x10 = true := by simpa [ieq, ilt, ile] using hb11
    rw [if_pos hb11] at h
    -- region 7
    refine VW.ws tau_ok Sound.none [some 2] [(2, .val (.bool false))] rfl ?_ ?_
    · simp <;> simp [ieq, ilt, ile]
    cases h
    refine VW.ret ?_
    simp [Post, PostM, PostC, PostC2, Nx, Bk]
  replace hb11 : ¬ (x10 = true) := by simpa [ieq, ilt, ile] using hb11
  rw [if_neg hb11] at h
  refine VW.skip ?_
  refine hK6 _ ?_
  -- region 8
  obtain ⟨v12, hv12, h⟩ := bind_some h
  refine VW.ws tau_ok (Sound.none.add 67 (i_RightMatrixOf_ok hv12) rfl) [some 65, some 66, some 67, some 64, some 68, some 69, some 9, some 10] [(0, .val (.list (a0.map (D.int .u8)))), (3, .val (.ptr [i64 v4.1.1, dI v4.1.2])), (4, .val (dI v4.2)), (5, .ref 5 [] true (dM v5.1)), (6, .val (i64 v5.2)), (9, .ref 9 [] true (dM v12.1)), (10, .val (i64 v12.2))] rfl ?_ ?_
  · simp <;> simp [ieq, ilt, ile]
  refine VW.sqc fun K13 hK13 hCK13 => ?_
  -- region 9
  obtain ⟨v14, hv14, h⟩ := bind_some h
  refine VW.ws tau_ok (Sound.none.add 73 (s_RightMatrixOf_ok hv14) rfl) [some 71, some 72, some 73, some 70, some 74, some 75, some 11, some 12] [(0, .val (.list (a0.map (D.int .u8)))), (3, .val (.ptr [i64 v4.1.1, dI v4.1.2])), (4, .val (dI v4.2)), (5, .ref 5 [] true (dM v5.1)), (6, .val (i64 v5.2)), (9, .ref 9 [] true (dM v12.1)), (10, .val (i64 v12.2)), (11, .ref 11 [] true (dM v14.1)), (12, .val (i64 v14.2))] rfl ?_ ?_
  · simp <;> simp [ieq, ilt, ile]
  -- region 10
  obtain ⟨x17, hx17, h⟩ := bind_some h
  refine VW.cut [(0, .val (.list (a0.map (D.int .u8)))), (3, .val (.ptr [i64 v4.1.1, dI v4.1.2])), (4, .val (dI v4.2)), (5, .ref 5 [] true (dM v5.1)), (6, .val (i64 v5.2)), (9, .ref 9 [] true (dM v12.1)), (84, .val (.bool x17))] ?_ fun hy => ?_
  rotate_left
  · clear h
    by_cases hp15 : ¬ v12.2 = v14.2
    · rw [if_pos hp15] at hx17
      have hp15b : ieq v12.2 v14.2 = false := by simpa [ieq, ilt, ile] using hp15
      have hp15s := hp15b
      try simp at hp15s
      cases hx17
      refine VW.ws tau_ok Sound.none [some 76, some 77, some 78, some 79, some 80, some 81, some 82, some 83, some 84] _ rfl ?_ hy
      simp [hp15b, hp15s] <;> simp [ieq, ilt, ile]
    · rw [if_neg hp15] at hx17
      have hp15b : ieq v12.2 v14.2 = true := by simpa [ieq, ilt, ile] using hp15
      have hp15s := hp15b
      try simp at hp15s
      obtain ⟨v16, hv16, hx17⟩ := bind_some hx17
      cases hx17
      refine VW.ws tau_ok (Sound.none.add 82 (l_same9_ok hv16) rfl) [some 76, some 77, some 78, some 79, some 80, some 81, some 82, some 83, some 84] _ rfl ?_ hy
      simp [hp15b, hp15s] <;> simp [ieq, ilt, ile]
  refine VW.cond rfl (fun hb18 => ?_) (fun hb18 => ?_)
  ·
    replace hb18 : x17 = true := by simpa [ieq, ilt, ile] using hb18
    rw [if_pos hb18] at h
    -- region 11
    refine VW.ws tau_ok Sound.none [some 2] [(2, .val (.bool false))] rfl ?_ ?_
    · simp <;> simp [ieq, ilt, ile]
    cases h
    refine VW.ret ?_
    simp [Post, PostM, PostC, PostC2, Nx, Bk]
  replace hb18 : ¬ (x17 = true) := by simpa [ieq, ilt, ile] using hb18
  rw [if_neg hb18] at h
  refine VW.skip ?_
  refine hK13 _ ?_
  refine VW.sqc fun K19 hK19 hCK19 => ?_
  -- region 12
  refine VW.ws tau_ok Sound.none [some 85, some 86] [(0, .val (.list (a0.map (D.int .u8)))), (3, .val (.ptr [i64 v4.1.1, dI v4.1.2])), (4, .val (dI v4.2)), (5, .ref 5 [] true (dM v5.1)), (9, .ref 9 [] true (dM v12.1)), (86, .val (.bool (!(ieq v5.2 0))))] rfl ?_ ?_
  · simp <;> simp [ieq, ilt, ile]
  refine VW.cond rfl (fun hb20 => ?_) (fun hb20 => ?_)
  ·
    replace hb20 : ¬ v5.2 = 0 := by simpa [ieq, ilt, ile] using hb20
    rw [if_pos hb20] at h
    -- region 13
    refine VW.ws tau_ok Sound.none [some 87, some 88, some 89, some 2] [(2, .val (.bool (ieq (v5.1.length : Int) 0)))] rfl ?_ ?_
    · simp <;> simp [ieq, ilt, ile]
    cases h
    refine VW.ret ?_
    simp [Post, PostM, PostC, PostC2, Nx, Bk]
  replace hb20 : ¬ (¬ v5.2 = 0) := by simpa [ieq, ilt, ile] using hb20
  rw [if_neg hb20] at h
  refine VW.skip ?_
  refine hK19 _ ?_
  -- region 14
  obtain ⟨v21, hv21, h⟩ := bind_some h
  refine VW.ws tau_ok (Sound.none.add 91 (l_roll_ok hv21) rfl) [some 90, some 91, some 13] [(3, .val (.ptr [i64 v4.1.1, dI v4.1.2])), (4, .val (dI v4.2)), (5, .ref 5 [] true (dM v5.1)), (9, .ref 9 [] true (dM v12.1)), (13, .ref 13 [] false (.ptr [.list (v21.1.map (D.int .u8)), i64 v21.2.1, .int .u64 v21.2.2]))] rfl ?_ ?_
  · simp <;> simp [ieq, ilt, ile]
  -- region 15
  obtain ⟨v22, hv22, h⟩ := bind_some h
  refine VW.ws tau_ok (Sound.none.ptrc 94 (l_element9_ok hv22)) [some 92, some 93, some 94, some 14] [(3, .val (.ptr [i64 v4.1.1, dI v4.1.2])), (4, .val (dI v4.2)), (5, .ref 5 [] true (dM v5.1)), (9, .ref 9 [] true (dM v12.1)), (14, .ref 14 [] true (dI v22.1))] rfl ?_ ?_
  · simp <;> simp [ieq, ilt, ile]
  -- region 16
  obtain ⟨v23, hv23, h⟩ := bind_some h
  refine VW.ws tau_ok (Sound.none.add 100 (i_ApplyMatrix_ok hv23) rfl) [some 96, some 97, some 98, some 99, some 100, some 95, some 101, some 102, some 15, some 16] [(3, .val (.ptr [i64 v4.1.1, dI v4.1.2])), (4, .val (dI v4.2)), (9, .ref 9 [] true (dM v12.1)), (14, .ref 14 [] true (dI v22.1)), (15, .ref 15 [] true (dI v23.1)), (16, .val (i64 v23.2))] rfl ?_ ?_
  · simp <;> simp [ieq, ilt, ile]
  -- region 17
  obtain ⟨v24, hv24, h⟩ := bind_some h
  refine VW.ws tau_ok (Sound.none.add 108 (i_ApplyMatrix_ok hv24) rfl) [some 104, some 105, some 106, some 107, some 108, some 103, some 109, some 110, some 17, some 18] [(3, .val (.ptr [i64 v4.1.1, dI v4.1.2])), (4, .val (dI v4.2)), (14, .ref 14 [] true (dI v22.1)), (15, .ref 15 [] true (dI v23.1)), (16, .val (i64 v23.2)), (17, .ref 17 [] true (dI v24.1)), (18, .val (i64 v24.2))] rfl ?_ ?_
  · simp <;> simp [ieq, ilt, ile]
  refine VW.sqc fun K25 hK25 hCK25 => ?_
  -- region 18
  obtain ⟨x33, hx33, h⟩ := bind_some h
  refine VW.cut [(3, .val (.ptr [i64 v4.1.1, dI v4.1.2])), (4, .val (dI v4.2)), (14, .ref 14 [] true (dI v22.1)), (134, .val (.bool x33))] ?_ fun hy => ?_
  rotate_left
  · clear h
    by_cases hp26 : ¬ v23.2 = 0
    · rw [if_pos hp26] at hx33
      have hp26b : ieq v23.2 0 = false := by simpa [ieq, ilt, ile] using hp26
      have hp26s := hp26b
      try simp at hp26s
      cases hx33
      refine VW.ws tau_ok Sound.none [some 111, some 112, some 113, some 114, some 115, some 116, some 117, some 118, some 119, some 120, some 121, some 122, some 123, some 124, some 125, some 126, some 127, some 128, some 129, some 130, some 131, some 132, some 133, some 134] _ rfl ?_ hy
      simp [hp26b, hp26s] <;> simp [ieq, ilt, ile]
    · rw [if_neg hp26] at hx33
      have hp26b : ieq v23.2 0 = true := by simpa [ieq, ilt, ile] using hp26
      have hp26s := hp26b
      try simp at hp26s
      by_cases hp27 : ¬ v24.2 = 0
      · rw [if_pos hp27] at hx33
        have hp27b : ieq v24.2 0 = false := by simpa [ieq, ilt, ile] using hp27
        have hp27s := hp27b
        try simp at hp27s
        cases hx33
        refine VW.ws tau_ok Sound.none [some 111, some 112, some 113, some 114, some 115, some 116, some 117, some 118, some 119, some 120, some 121, some 122, some 123, some 124, some 125, some 126, some 127, some 128, some 129, some 130, some 131, some 132, some 133, some 134] _ rfl ?_ hy
        simp [hp26b, hp26s, hp27b, hp27s] <;> simp [ieq, ilt, ile]
      · rw [if_neg hp27] at hx33
        have hp27b : ieq v24.2 0 = true := by simpa [ieq, ilt, ile] using hp27
        have hp27s := hp27b
        try simp at hp27s
        obtain ⟨v28, hv28, hx33⟩ := bind_some hx33
        obtain ⟨v29, hv29, hx33⟩ := bind_some hx33
        by_cases hp30 : v29 = false
        · rw [if_pos hp30] at hx33
          have hp30b : v29 = false := by simpa [ieq, ilt, ile] using hp30
          have hp30s := hp30b
          try simp at hp30s
          cases hx33
          refine VW.ws tau_ok ((Sound.none.add 122 (l_times9_ok hv28) rfl).add 123 (l_likeInts_ok hv29) rfl) [some 111, some 112, some 113, some 114, some 115, some 116, some 117, some 118, some 119, some 120, some 121, some 122, some 123, some 124, some 125, some 126, some 127, some 128, some 129, some 130, some 131, some 132, some 133, some 134] _ rfl ?_ hy
          simp [hp26b, hp26s, hp27b, hp27s, hp30b, hp30s] <;> simp [ieq, ilt, ile]
        · rw [if_neg hp30] at hx33
          have hp30b : v29 = true := by simpa [ieq, ilt, ile] using hp30
          have hp30s := hp30b
          try simp at hp30s
          obtain ⟨v31, hv31, hx33⟩ := bind_some hx33
          obtain ⟨v32, hv32, hx33⟩ := bind_some hx33
          cases hx33
          refine VW.ws tau_ok ((((Sound.none.add 122 (l_times9_ok hv28) rfl).add 123 (l_likeInts_ok hv29) rfl).add 131 (l_times9_ok hv31) rfl).add 132 (l_likeInts_ok hv32) rfl) [some 111, some 112, some 113, some 114, some 115, some 116, some 117, some 118, some 119, some 120, some 121, some 122, some 123, some 124, some 125, some 126, some 127, some 128, some 129, some 130, some 131, some 132, some 133, some 134] _ rfl ?_ hy
          simp [hp26b, hp26s, hp27b, hp27s, hp30b, hp30s] <;> simp [ieq, ilt, ile]
  refine VW.cond rfl (fun hb34 => ?_) (fun hb34 => ?_)
  ·
    replace hb34 : x33 = true := by simpa [ieq, ilt, ile] using hb34
    rw [if_pos hb34] at h
    -- region 19
    refine VW.ws tau_ok Sound.none [some 2] [(2, .val (.bool false))] rfl ?_ ?_
    · simp <;> simp [ieq, ilt, ile]
    cases h
    refine VW.ret ?_
    simp [Post, PostM, PostC, PostC2, Nx, Bk]
  replace hb34 : ¬ (x33 = true) := by simpa [ieq, ilt, ile] using hb34
  rw [if_neg hb34] at h
  refine VW.skip ?_
  refine hK25 _ ?_
  refine VW.sqc fun K35 hK35 hCK35 => ?_
  -- region 20
  refine VW.ws tau_ok Sound.none [some 135, some 136, some 137, some 138] [(3, .val (.ptr [i64 v4.1.1, dI v4.1.2])), (4, .val (dI v4.2)), (14, .ref 14 [] true (dI v22.1)), (138, .val (.bool (ilt 3 (v4.1.2.length : Int))))] rfl ?_ ?_
  · simp <;> simp [ieq, ilt, ile]
  refine VW.cond rfl (fun hb36 => ?_) (fun hb36 => ?_)
  ·
    replace hb36 : 3 < (v4.1.2.length : Int) := by simpa [ieq, ilt, ile] using hb36
    rw [if_pos hb36] at h
    -- region 21
    refine VW.ws tau_ok Sound.none [some 2] [(2, .val (.bool true))] rfl ?_ ?_
    · simp <;> simp [ieq, ilt, ile]
    cases h
    refine VW.ret ?_
    simp [Post, PostM, PostC, PostC2, Nx, Bk]
  replace hb36 : ¬ (3 < (v4.1.2.length : Int)) := by simpa [ieq, ilt, ile] using hb36
  rw [if_neg hb36] at h
  refine VW.skip ?_
  refine hK35 _ ?_
  -- region 22
  obtain ⟨hc37, h⟩ := chk_some h
  have hc37s := hc37
  try simp at hc37s
  obtain ⟨hc38, h⟩ := chk_some h
  have hc38s := hc38
  try simp at hc38s
  refine VW.ws tau_ok Sound.none [some 139, some 140, some 141, some 142, some 19] [(3, .val (.ptr [i64 v4.1.1, dI v4.1.2])), (4, .val (dI v4.2)), (14, .ref 14 [] true (dI v22.1)), (19, .ref 19 [] true (dI ([0] ++ (v4.2.drop 1))))] rfl ?_ ?_
  · simp [hc37, hc37s, hc38, hc38s] <;> simp [ieq, ilt, ile]
  -- region 23
  obtain ⟨hc39, h⟩ := chk_some h
  have hc39s := hc39
  try simp at hc39s
  obtain ⟨hc40, h⟩ := chk_some h
  have hc40s := hc40
  try simp at hc40s
  refine VW.ws tau_ok Sound.none [some 143, some 144, some 145, some 146, some 20] [(3, .val (.ptr [i64 v4.1.1, dI v4.1.2])), (4, .val (dI v4.2)), (19, .ref 19 [] true (dI ([0] ++ (v4.2.drop 1)))), (20, .ref 20 [] true (dI ([0] ++ (v22.1.drop 1))))] rfl ?_ ?_
  · simp [hc39, hc39s, hc40, hc40s] <;> simp [ieq, ilt, ile]
  -- region 24
  obtain ⟨v41, hv41, h⟩ := bind_some h
  refine VW.ws tau_ok (Sound.none.add 150 (i_LeftMatrixOf_ok hv41) rfl) [some 148, some 149, some 150, some 147, some 151, some 152, some 21, some 22] [(3, .val (.ptr [i64 v4.1.1, dI v4.1.2])), (4, .val (dI v4.2)), (19, .ref 19 [] true (dI ([0] ++ (v4.2.drop 1)))), (20, .ref 20 [] true (dI ([0] ++ (v22.1.drop 1)))), (21, .ref 21 [] true (dM v41.1)), (22, .val (i64 v41.2))] rfl ?_ ?_
  · simp <;> simp [ieq, ilt, ile]
  -- region 25
  obtain ⟨v42, hv42, h⟩ := bind_some h
  refine VW.ws tau_ok (Sound.none.add 156 (i_LeftMatrixOf_ok hv42) rfl) [some 154, some 155, some 156, some 153, some 157, some 158, some 23, some 24] [(3, .val (.ptr [i64 v4.1.1, dI v4.1.2])), (4, .val (dI v4.2)), (19, .ref 19 [] true (dI ([0] ++ (v4.2.drop 1)))), (20, .ref 20 [] true (dI ([0] ++ (v22.1.drop 1)))), (21, .ref 21 [] true (dM v41.1)), (22, .val (i64 v41.2)), (23, .ref 23 [] true (dM v42.1)), (24, .val (i64 v42.2))] rfl ?_ ?_
  · simp <;> simp [ieq, ilt, ile]
  -- region 26
  obtain ⟨v43, hv43, h⟩ := bind_some h
  refine VW.ws tau_ok (Sound.none.add 164 (i_MultiplyMatrices_ok hv43) rfl) [some 160, some 161, some 162, some 163, some 164, some 159, some 165, some 166, some 25, some 26] [(3, .val (.ptr [i64 v4.1.1, dI v4.1.2])), (4, .val (dI v4.2)), (19, .ref 19 [] true (dI ([0] ++ (v4.2.drop 1)))), (20, .ref 20 [] true (dI ([0] ++ (v22.1.drop 1)))), (21, .ref 21 [] true (dM v41.1)), (22, .val (i64 v41.2)), (23, .ref 23 [] true (dM v42.1)), (24, .val (i64 v42.2)), (25, .ref 25 [] true (dM v43.1)), (26, .val (i64 v43.2))] rfl ?_ ?_
  · simp <;> simp [ieq, ilt, ile]
  -- region 27
  obtain ⟨v44, hv44, h⟩ := bind_some h
  refine VW.ws tau_ok (Sound.none.add 172 (i_MultiplyMatrices_ok hv44) rfl) [some 168, some 169, some 170, some 171, some 172, some 167, some 173, some 174, some 27, some 28] [(3, .val (.ptr [i64 v4.1.1, dI v4.1.2])), (4, .val (dI v4.2)), (19, .ref 19 [] true (dI ([0] ++ (v4.2.drop 1)))), (20, .ref 20 [] true (dI ([0] ++ (v22.1.drop 1)))), (21, .ref 21 [] true (dM v41.1)), (22, .val (i64 v41.2)), (24, .val (i64 v42.2)), (25, .ref 25 [] true (dM v43.1)), (26, .val (i64 v43.2)), (27, .ref 27 [] true (dM v44.1)), (28, .val (i64 v44.2))] rfl ?_ ?_
  · simp <;> simp [ieq, ilt, ile]
  -- region 28
  obtain ⟨v45, hv45, h⟩ := bind_some h
  refine VW.ws tau_ok (Sound.none.add 177 (i_NormDiagonal_ok hv45) rfl) [some 176, some 177, some 175, some 178, some 179, some 29, some 30] [(3, .val (.ptr [i64 v4.1.1, dI v4.1.2])), (4, .val (dI v4.2)), (19, .ref 19 [] true (dI ([0] ++ (v4.2.drop 1)))), (20, .ref 20 [] true (dI ([0] ++ (v22.1.drop 1)))), (21, .ref 21 [] true (dM v41.1)), (22, .val (i64 v41.2)), (24, .val (i64 v42.2)), (25, .ref 25 [] true (dM v43.1)), (26, .val (i64 v43.2)), (27, .ref 27 [] true (dM v44.1)), (28, .val (i64 v44.2)), (29, .ref 29 [] true (dI v45.1)), (30, .val (i64 v45.2))] rfl ?_ ?_
  · simp <;> simp [ieq, ilt, ile]
  refine VW.sqc fun K46 hK46 hCK46 => ?_
  -- region 29
  obtain ⟨x54, hx54, h⟩ := bind_some h
  refine VW.cut [(3, .val (.ptr [i64 v4.1.1, dI v4.1.2])), (4, .val (dI v4.2)), (19, .ref 19 [] true (dI ([0] ++ (v4.2.drop 1)))), (20, .ref 20 [] true (dI ([0] ++ (v22.1.drop 1)))), (25, .ref 25 [] true (dM v43.1)), (27, .ref 27 [] true (dM v44.1)), (29, .ref 29 [] true (dI v45.1)), (218, .val (.bool x54))] ?_ fun hy => ?_
  rotate_left
  · clear h
    by_cases hp47 : ¬ v41.2 = 0
    · rw [if_pos hp47] at hx54
      have hp47b : ieq v41.2 0 = false := by simpa [ieq, ilt, ile] using hp47
      have hp47s := hp47b
      try simp at hp47s
      cases hx54
      refine VW.ws tau_ok Sound.none [some 180, some 181, some 182, some 183, some 184, some 185, some 186, some 187, some 188, some 189, some 190, some 191, some 192, some 193, some 194, some 195, some 196, some 197, some 198, some 199, some 200, some 201, some 202, some 203, some 204, some 205, some 206, some 207, some 208, some 209, some 210, some 211, some 212, some 213, some 214, some 215, some 216, some 217, some 218] _ rfl ?_ hy
      simp [hp47b, hp47s] <;> simp [ieq, ilt, ile]
    · rw [if_neg hp47] at hx54
      have hp47b : ieq v41.2 0 = true := by simpa [ieq, ilt, ile] using hp47
      have hp47s := hp47b
      try simp at hp47s
      by_cases hp48 : ¬ v42.2 = 0
      · rw [if_pos hp48] at hx54
        have hp48b : ieq v42.2 0 = false := by simpa [ieq, ilt, ile] using hp48
        have hp48s := hp48b
        try simp at hp48s
        cases hx54
        refine VW.ws tau_ok Sound.none [some 180, some 181, some 182, some 183, some 184, some 185, some 186, some 187, some 188, some 189, some 190, some 191, some 192, some 193, some 194, some 195, some 196, some 197, some 198, some 199, some 200, some 201, some 202, some 203, some 204, some 205, some 206, some 207, some 208, some 209, some 210, some 211, some 212, some 213, some 214, some 215, some 216, some 217, some 218] _ rfl ?_ hy
        simp [hp47b, hp47s, hp48b, hp48s] <;> simp [ieq, ilt, ile]
      · rw [if_neg hp48] at hx54
        have hp48b : ieq v42.2 0 = true := by simpa [ieq, ilt, ile] using hp48
        have hp48s := hp48b
        try simp at hp48s
        by_cases hp49 : ¬ v43.2 = 0
        · rw [if_pos hp49] at hx54
          have hp49b : ieq v43.2 0 = false := by simpa [ieq, ilt, ile] using hp49
          have hp49s := hp49b
          try simp at hp49s
          cases hx54
          refine VW.ws tau_ok Sound.none [some 180, some 181, some 182, some 183, some 184, some 185, some 186, some 187, some 188, some 189, some 190, some 191, some 192, some 193, some 194, some 195, some 196, some 197, some 198, some 199, some 200, some 201, some 202, some 203, some 204, some 205, some 206, some 207, some 208, some 209, some 210, some 211, some 212, some 213, some 214, some 215, some 216, some 217, some 218] _ rfl ?_ hy
          simp [hp47b, hp47s, hp48b, hp48s, hp49b, hp49s] <;> simp [ieq, ilt, ile]
        · rw [if_neg hp49] at hx54
          have hp49b : ieq v43.2 0 = true := by simpa [ieq, ilt, ile] using hp49
          have hp49s := hp49b
          try simp at hp49s
          by_cases hp50 : ¬ v44.2 = 0
          · rw [if_pos hp50] at hx54
            have hp50b : ieq v44.2 0 = false := by simpa [ieq, ilt, ile] using hp50
            have hp50s := hp50b
            try simp at hp50s
            cases hx54
            refine VW.ws tau_ok Sound.none [some 180, some 181, some 182, some 183, some 184, some 185, some 186, some 187, some 188, some 189, some 190, some 191, some 192, some 193, some 194, some 195, some 196, some 197, some 198, some 199, some 200, some 201, some 202, some 203, some 204, some 205, some 206, some 207, some 208, some 209, some 210, some 211, some 212, some 213, some 214, some 215, some 216, some 217, some 218] _ rfl ?_ hy
            simp [hp47b, hp47s, hp48b, hp48s, hp49b, hp49s, hp50b, hp50s] <;> simp [ieq, ilt, ile]
          · rw [if_neg hp50] at hx54
            have hp50b : ieq v44.2 0 = true := by simpa [ieq, ilt, ile] using hp50
            have hp50s := hp50b
            try simp at hp50s
            by_cases hp51 : ¬ v45.2 = 0
            · rw [if_pos hp51] at hx54
              have hp51b : ieq v45.2 0 = false := by simpa [ieq, ilt, ile] using hp51
              have hp51s := hp51b
              try simp at hp51s
              cases hx54
              refine VW.ws tau_ok Sound.none [some 180, some 181, some 182, some 183, some 184, some 185, some 186, some 187, some 188, some 189, some 190, some 191, some 192, some 193, some 194, some 195, some 196, some 197, some 198, some 199, some 200, some 201, some 202, some 203, some 204, some 205, some 206, some 207, some 208, some 209, some 210, some 211, some 212, some 213, some 214, some 215, some 216, some 217, some 218] _ rfl ?_ hy
              simp [hp47b, hp47s, hp48b, hp48s, hp49b, hp49s, hp50b, hp50s, hp51b, hp51s] <;> simp [ieq, ilt, ile]
            · rw [if_neg hp51] at hx54
              have hp51b : ieq v45.2 0 = true := by simpa [ieq, ilt, ile] using hp51
              have hp51s := hp51b
              try simp at hp51s
              by_cases hp52 : ¬ (v43.1.length : Int) = (v41.1.length : Int)
              · rw [if_pos hp52] at hx54
                have hp52b : ieq (v43.1.length : Int) (v41.1.length : Int) = false := by simpa [ieq, ilt, ile] using hp52
                have hp52s := hp52b
                try simp at hp52s
                cases hx54
                refine VW.ws tau_ok Sound.none [some 180, some 181, some 182, some 183, some 184, some 185, some 186, some 187, some 188, some 189, some 190, some 191, some 192, some 193, some 194, some 195, some 196, some 197, some 198, some 199, some 200, some 201, some 202, some 203, some 204, some 205, some 206, some 207, some 208, some 209, some 210, some 211, some 212, some 213, some 214, some 215, some 216, some 217, some 218] _ rfl ?_ hy
                simp [hp47b, hp47s, hp48b, hp48s, hp49b, hp49s, hp50b, hp50s, hp51b, hp51s, hp52b, hp52s] <;> simp [ieq, ilt, ile]
              · rw [if_neg hp52] at hx54
                have hp52b : ieq (v43.1.length : Int) (v41.1.length : Int) = true := by simpa [ieq, ilt, ile] using hp52
                have hp52s := hp52b
                try simp at hp52s
                by_cases hp53 : ¬ (v44.1.length : Int) = (v41.1.length : Int)
                · rw [if_pos hp53] at hx54
                  have hp53b : ieq (v44.1.length : Int) (v41.1.length : Int) = false := by simpa [ieq, ilt, ile] using hp53
                  have hp53s := hp53b
                  try simp at hp53s
                  cases hx54
                  refine VW.ws tau_ok Sound.none [some 180, some 181, some 182, some 183, some 184, some 185, some 186, some 187, some 188, some 189, some 190, some 191, some 192, some 193, some 194, some 195, some 196, some 197, some 198, some 199, some 200, some 201, some 202, some 203, some 204, some 205, some 206, some 207, some 208, some 209, some 210, some 211, some 212, some 213, some 214, some 215, some 216, some 217, some 218] _ rfl ?_ hy
                  simp [hp47b, hp47s, hp48b, hp48s, hp49b, hp49s, hp50b, hp50s, hp51b, hp51s, hp52b, hp52s, hp53b, hp53s] <;> simp [ieq, ilt, ile]
                · rw [if_neg hp53] at hx54
                  have hp53b : ieq (v44.1.length : Int) (v41.1.length : Int) = true := by simpa [ieq, ilt, ile] using hp53
                  have hp53s := hp53b
                  try simp at hp53s
                  cases hx54
                  refine VW.ws tau_ok Sound.none [some 180, some 181, some 182, some 183, some 184, some 185, some 186, some 187, some 188, some 189, some 190, some 191, some 192, some 193, some 194, some 195, some 196, some 197, some 198, some 199, some 200, some 201, some 202, some 203, some 204, some 205, some 206, some 207, some 208, some 209, some 210, some 211, some 212, some 213, some 214, some 215, some 216, some 217, some 218] _ rfl ?_ hy
                  simp [hp47b, hp47s, hp48b, hp48s, hp49b, hp49s, hp50b, hp50s, hp51b, hp51s, hp52b, hp52s, hp53b, hp53s] <;> simp [ieq, ilt, ile]
  refine VW.cond rfl (fun hb55 => ?_) (fun hb55 => ?_)
  ·
    replace hb55 : x54 = true := by simpa [ieq, ilt, ile] using hb55
    rw [if_pos hb55] at h
    -- region 30
    refine VW.ws tau_ok Sound.none [some 2] [(2, .val (.bool false))] rfl ?_ ?_
    · simp <;> simp [ieq, ilt, ile]
    cases h
    refine VW.ret ?_
    simp [Post, PostM, PostC, PostC2, Nx, Bk]
  replace hb55 : ¬ (x54 = true) := by simpa [ieq, ilt, ile] using hb55
  rw [if_neg hb55] at h
  refine VW.skip ?_
  refine hK46 _ ?_
  -- region 31
  refine VW.ws tau_ok Sound.none [some 31] [(3, .val (.ptr [i64 v4.1.1, dI v4.1.2])), (4, .val (dI v4.2)), (19, .ref 19 [] true (dI ([0] ++ (v4.2.drop 1)))), (20, .ref 20 [] true (dI ([0] ++ (v22.1.drop 1)))), (25, .ref 25 [] true (dM v43.1)), (27, .ref 27 [] true (dM v44.1)), (29, .ref 29 [] true (dI v45.1)), (31, .val (i64 0))] rfl ?_ ?_
  · simp <;> simp [ieq, ilt, ile]
  refine VW.sqc fun K56 hK56 hCK56 => ?_
  -- region 32
  refine VW.ws tau_ok Sound.none [some 32] [(3, .val (.ptr [i64 v4.1.1, dI v4.1.2])), (4, .val (dI v4.2)), (19, .ref 19 [] true (dI ([0] ++ (v4.2.drop 1)))), (20, .ref 20 [] true (dI ([0] ++ (v22.1.drop 1)))), (25, .ref 25 [] true (dM v43.1)), (27, .ref 27 [] true (dM v44.1)), (29, .ref 29 [] true (dI v45.1)), (31, .val (i64 0)), (32, .val (i64 0))] rfl ?_ ?_
  · simp <;> simp [ieq, ilt, ile]
  obtain ⟨x57, hx57, h⟩ := bind_some h
  refine VW.tlE [(3, .val (.ptr [i64 v4.1.1, dI v4.1.2])), (25, .ref 25 [] true (dM v43.1)), (27, .ref 27 [] true (dM v44.1)), (31, .val (i64 x57))] (hCK56) ?_ ?_
  · clear hx57
    refine hK56 _ ?_
    refine VW.sqc fun K66 hK66 hCK66 => ?_
    -- region 36
    refine VW.ws tau_ok Sound.none [some 33] [(3, .val (.ptr [i64 v4.1.1, dI v4.1.2])), (25, .ref 25 [] true (dM v43.1)), (27, .ref 27 [] true (dM v44.1)), (31, .val (i64 x57)), (33, .val (i64 0))] rfl ?_ ?_
    · simp <;> simp [ieq, ilt, ile]
    obtain ⟨x67, hx67, h⟩ := bind_some h
    refine VW.tlO (fun y69 => []) x67 (hCK66) ?_ ?_
    · clear hx67
      rintro y69 rfl
      dsimp only at h
      refine hK66 _ ?_
      -- region 47
      refine VW.ws tau_ok Sound.none [some 2] [(2, .val (.bool true))] rfl ?_ ?_
      · simp <;> simp [ieq, ilt, ile]
      cases h
      refine VW.ret ?_
      simp [Post, PostM, PostC, PostC2, Nx, Bk]
    refine VW.block ?_
    refine VW.loopF (l_FnMultiplicationMatrices_L1 v4 v43 v44 x57) (fun s67 => [(3, .val (.ptr [i64 v4.1.1, dI v4.1.2])), (25, .ref 25 [] true (dM v43.1)), (27, .ref 27 [] true (dM v44.1)), (31, .val (i64 x57)), (33, .val (i64 s67))]) hx67 (Fits.of rfl) ?_
    clear hx67
    intro s67 ox67 hx67o hx67b
    unfold l_FnMultiplicationMatrices_L1 at hx67o
    refine VW.sqc fun K70 hK70 hCK70 => ?_
    -- region 37
    refine VW.ws tau_ok Sound.none [some 244, some 245, some 246, some 247] [(3, .val (.ptr [i64 v4.1.1, dI v4.1.2])), (25, .ref 25 [] true (dM v43.1)), (27, .ref 27 [] true (dM v44.1)), (31, .val (i64 x57)), (33, .val (i64 s67)), (247, .val (.bool (ilt s67 (v43.1.length : Int))))] rfl ?_ ?_
    · simp <;> simp [ieq, ilt, ile]
    refine VW.cond rfl (fun hb71 => ?_) (fun hb71 => ?_)
    rotate_left
    ·
      replace hb71 : ¬ (s67 < (v43.1.length : Int)) := by simpa [ieq, ilt, ile] using hb71
      rw [if_neg hb71] at hx67o
      refine VW.exit ?_
      cases hx67o
      have hq := hx67b _ rfl
      subst hq
      exact ⟨_, rfl, Fits.of rfl⟩
    replace hb71 : s67 < (v43.1.length : Int) := by simpa [ieq, ilt, ile] using hb71
    rw [if_pos hb71] at hx67o
    refine VW.skip ?_
    refine hK70 _ ?_
    refine VW.sqc fun K72 hK72 hCK72 => ?_
    refine VW.block ?_
    -- region 39
    refine VW.ws tau_ok Sound.none [some 34] [(3, .val (.ptr [i64 v4.1.1, dI v4.1.2])), (25, .ref 25 [] true (dM v43.1)), (27, .ref 27 [] true (dM v44.1)), (31, .val (i64 x57)), (33, .val (i64 s67)), (34, .val (i64 0))] rfl ?_ ?_
    · simp <;> simp [ieq, ilt, ile]
    obtain ⟨x73, hx73, hx67o⟩ := bind_some hx67o
    refine VW.tlO (fun y75 => [(3, .val (.ptr [i64 v4.1.1, dI v4.1.2])), (25, .ref 25 [] true (dM v43.1)), (27, .ref 27 [] true (dM v44.1)), (31, .val (i64 x57)), (33, .val (i64 s67))]) x73 (hCK72) ?_ ?_
    · clear hx73
      rintro y75 rfl
      dsimp only at hx67o
      refine hK72 _ ?_
      -- region 38
      refine VW.wr tau_ok Sound.none [some 248, some 249, some 33] [(3, .val (.ptr [i64 v4.1.1, dI v4.1.2])), (25, .ref 25 [] true (dM v43.1)), (27, .ref 27 [] true (dM v44.1)), (31, .val (i64 x57)), (33, .val (i64 (w64 (s67 + 1))))] rfl ?_ ?_
      · simp <;> simp [ieq, ilt, ile]
      cases hx67o
      exact ⟨_, rfl, Fits.of rfl⟩
    refine VW.block ?_
    refine VW.loopF (l_FnMultiplicationMatrices_L2 v4 v43 v44 x57 s67) (fun s73 => [(3, .val (.ptr [i64 v4.1.1, dI v4.1.2])), (25, .ref 25 [] true (dM v43.1)), (27, .ref 27 [] true (dM v44.1)), (31, .val (i64 x57)), (33, .val (i64 s67)), (34, .val (i64 s73))]) hx73 (Fits.of rfl) ?_
    clear hx73
    intro s73 ox73 hx73o hx73b
    unfold l_FnMultiplicationMatrices_L2 at hx73o
    refine VW.sqc fun K76 hK76 hCK76 => ?_
    -- region 40
    obtain ⟨x80, hx80, hx73o⟩ := bind_some hx73o
    refine VW.cut [(3, .val (.ptr [i64 v4.1.1, dI v4.1.2])), (25, .ref 25 [] true (dM v43.1)), (27, .ref 27 [] true (dM v44.1)), (31, .val (i64 x57)), (33, .val (i64 s67)), (34, .val (i64 s73)), (265, .val (.bool x80))] ?_ fun hy => ?_
    rotate_left
    · clear hx73o
      obtain ⟨v77, hv77, hx80⟩ := bind_some hx80
      obtain ⟨hv77a, hv77b, hv77c, hv77d⟩ := idx_some hv77
      by_cases hp78 : s73 < (v77.length : Int)
      · rw [if_pos hp78] at hx80
        have hp78b : ilt s73 (v77.length : Int) = true := by simpa [ieq, ilt, ile] using hp78
        have hp78s := hp78b
        try simp at hp78s
        obtain ⟨v79, hv79, hx80⟩ := bind_some hx80
        obtain ⟨hv79a, hv79b, hv79c, hv79d⟩ := idx_some hv79
        cases hx80
        refine VW.ws tau_ok Sound.none [some 250, some 251, some 252, some 253, some 254, some 255, some 256, some 257, some 258, some 259, some 260, some 261, some 262, some 263, some 264, some 265] _ rfl ?_ hy
        simp [hv77a, hv77b, hv77c, hv77d, hp78b, hp78s, hv79a, hv79b, hv79c, hv79d] <;> simp [ieq, ilt, ile]
      · rw [if_neg hp78] at hx80
        have hp78b : ilt s73 (v77.length : Int) = false := by simpa [ieq, ilt, ile] using hp78
        have hp78s := hp78b
        try simp at hp78s
        cases hx80
        refine VW.ws tau_ok Sound.none [some 250, some 251, some 252, some 253, some 254, some 255, some 256, some 257, some 258, some 259, some 260, some 261, some 262, some 263, some 264, some 265] _ rfl ?_ hy
        simp [hv77a, hv77b, hv77c, hv77d, hp78b, hp78s] <;> simp [ieq, ilt, ile]
    refine VW.cond rfl (fun hb81 => ?_) (fun hb81 => ?_)
    rotate_left
    ·
      replace hb81 : ¬ (x80 = true) := by simpa [ieq, ilt, ile] using hb81
      rw [if_neg hb81] at hx73o
      refine VW.exit ?_
      cases hx73o
      have hq := hx73b _ rfl
      subst hq
      exact ⟨_, rfl, Fits.of rfl⟩
    replace hb81 : x80 = true := by simpa [ieq, ilt, ile] using hb81
    rw [if_pos hb81] at hx73o
    refine VW.skip ?_
    refine hK76 _ ?_
    refine VW.sqc fun K82 hK82 hCK82 => ?_
    refine VW.block ?_
    -- region 42
    refine VW.ws tau_ok Sound.none [some 35] [(3, .val (.ptr [i64 v4.1.1, dI v4.1.2])), (25, .ref 25 [] true (dM v43.1)), (27, .ref 27 [] true (dM v44.1)), (31, .val (i64 x57)), (33, .val (i64 s67)), (34, .val (i64 s73)), (35, .val (i64 0))] rfl ?_ ?_
    · simp <;> simp [ieq, ilt, ile]
    refine VW.sqc fun K83 hK83 hCK83 => ?_
    -- region 43
    refine VW.ws tau_ok Sound.none [some 268, some 269, some 270] [(3, .val (.ptr [i64 v4.1.1, dI v4.1.2])), (25, .ref 25 [] true (dM v43.1)), (27, .ref 27 [] true (dM v44.1)), (31, .val (i64 x57)), (33, .val (i64 s67)), (34, .val (i64 s73)), (35, .val (i64 0)), (270, .val (.bool (ieq s67 s73)))] rfl ?_ ?_
    · simp <;> simp [ieq, ilt, ile]
    obtain ⟨x84, hx84, hx73o⟩ := bind_some hx73o
    refine VW.tlE [(3, .val (.ptr [i64 v4.1.1, dI v4.1.2])), (25, .ref 25 [] true (dM v43.1)), (27, .ref 27 [] true (dM v44.1)), (31, .val (i64 x57)), (33, .val (i64 s67)), (34, .val (i64 s73)), (35, .val (i64 x84))] (hCK83) ?_ ?_
    · clear hx84
      refine hK83 _ ?_
      -- region 45
      obtain ⟨v88, hv88, hx73o⟩ := bind_some hx73o
      obtain ⟨hv88a, hv88b, hv88c, hv88d⟩ := idx_some hv88
      obtain ⟨v89, hv89, hx73o⟩ := bind_some hx73o
      obtain ⟨hv89a, hv89b, hv89c, hv89d⟩ := idx_some hv89
      obtain ⟨v90, hv90, hx73o⟩ := bind_some hx73o
      obtain ⟨hv90a, hv90b, hv90c, hv90d⟩ := idx_some hv90
      obtain ⟨v91, hv91, hx73o⟩ := bind_some hx73o
      obtain ⟨hv91a, hv91b, hv91c, hv91d⟩ := idx_some hv91
      obtain ⟨hc92, hx73o⟩ := chk_some hx73o
      have hc92s := hc92
      try simp at hc92s
      refine VW.wds tau_ok Sound.none try_mixed [some 279, some 280, some 281, some 282, some 283, some 284, some 285, some 286, some 287, some 288, some 289, some 290, some 291, some 292, some 293, some 294, some 295, some 296, some 297, some 298] [(3, .val (.ptr [i64 v4.1.1, dI v4.1.2])), (25, .ref 25 [] true (dM v43.1)), (27, .ref 27 [] true (dM v44.1)), (31, .val (i64 x57)), (33, .val (i64 s67)), (34, .val (i64 s73)), (298, .val (.bool (!(ieq ((w64 (v89 + v91)).tmod v4.1.1) x84))))] 20 rfl (by kernel_rfl) (by rfl) ?_ ?_
      · simp [hv88a, hv88b, hv88c, hv88d, hv89a, hv89b, hv89c, hv89d, hv90a, hv90b, hv90c, hv90d, hv91a, hv91b, hv91c, hv91d, hc92, hc92s] <;> simp [ieq, ilt, ile]
      refine VW.cond rfl (fun hb93 => ?_) (fun hb93 => ?_)
      rotate_left
      ·
        replace hb93 : ¬ (¬ ((w64 (v89 + v91)).tmod v4.1.1) = x84) := by simpa [ieq, ilt, ile] using hb93
        rw [if_neg hb93] at hx73o
        refine VW.skip ?_
        refine hK82 _ ?_
        -- region 41
        refine VW.wr tau_ok Sound.none [some 266, some 267, some 34] [(3, .val (.ptr [i64 v4.1.1, dI v4.1.2])), (25, .ref 25 [] true (dM v43.1)), (27, .ref 27 [] true (dM v44.1)), (31, .val (i64 x57)), (33, .val (i64 s67)), (34, .val (i64 (w64 (s73 + 1))))] rfl ?_ ?_
        · simp <;> simp [ieq, ilt, ile]
        cases hx73o
        exact ⟨_, rfl, Fits.of rfl⟩
      replace hb93 : ¬ ((w64 (v89 + v91)).tmod v4.1.1) = x84 := by simpa [ieq, ilt, ile] using hb93
      rw [if_pos hb93] at hx73o
      -- region 46
      refine VW.ws tau_ok Sound.none [some 2] [(2, .val (.bool false))] rfl ?_ ?_
      · simp <;> simp [ieq, ilt, ile]
      cases hx73o
      have hq := hx73b _ rfl
      subst hq
      dsimp only at hx67o
      cases hx67o
      have hq := hx67b _ rfl
      subst hq
      dsimp only at h
      cases h
      refine VW.ret ?_
      simp [Post, PostM, PostC, PostC2, Nx, Bk]
    refine VW.cond rfl (fun hb86 => ?_) (fun hb86 => ?_)
    rotate_left
    ·
      replace hb86 : ¬ (s67 = s73) := by simpa [ieq, ilt, ile] using hb86
      rw [if_neg hb86] at hx84
      refine VW.skip ?_
      cases hx84
      exact Fits.of rfl
    replace hb86 : s67 = s73 := by simpa [ieq, ilt, ile] using hb86
    rw [if_pos hb86] at hx84
    -- region 44
    obtain ⟨hc87, hx84⟩ := chk_some hx84
    have hc87s := hc87
    try simp at hc87s
    refine VW.wr tau_ok Sound.none [some 271, some 272, some 273, some 274, some 275, some 276, some 277, some 278, some 35] [(3, .val (.ptr [i64 v4.1.1, dI v4.1.2])), (25, .ref 25 [] true (dM v43.1)), (27, .ref 27 [] true (dM v44.1)), (31, .val (i64 x57)), (33, .val (i64 s67)), (34, .val (i64 s73)), (35, .val (i64 ((w64 (2 * (w64 (v4.1.1 - x57)))).tmod v4.1.1)))] rfl ?_ ?_
    · simp [hc87, hc87s] <;> simp [ieq, ilt, ile]
    cases hx84
    exact Fits.of rfl
  refine VW.block ?_
  refine VW.loopF (l_FnMultiplicationMatrices_L0 v4 v45) (fun s57 => [(3, .val (.ptr [i64 v4.1.1, dI v4.1.2])), (4, .val (dI v4.2)), (19, .ref 19 [] true (dI s57.1)), (20, .ref 20 [] true (dI s57.2.1)), (25, .ref 25 [] true (dM v43.1)), (27, .ref 27 [] true (dM v44.1)), (29, .ref 29 [] true (dI v45.1)), (31, .val (i64 s57.2.2.1)), (32, .val (i64 s57.2.2.2))]) hx57 (Fits.of rfl) ?_
  clear hx57
  intro s57 ox57 hx57o hx57b
  unfold l_FnMultiplicationMatrices_L0 at hx57o
  refine VW.sqc fun K59 hK59 hCK59 => ?_
  -- region 33
  refine VW.ws tau_ok Sound.none [some 219, some 220, some 221, some 222] [(3, .val (.ptr [i64 v4.1.1, dI v4.1.2])), (4, .val (dI v4.2)), (19, .ref 19 [] true (dI s57.1)), (20, .ref 20 [] true (dI s57.2.1)), (25, .ref 25 [] true (dM v43.1)), (27, .ref 27 [] true (dM v44.1)), (29, .ref 29 [] true (dI v45.1)), (31, .val (i64 s57.2.2.1)), (32, .val (i64 s57.2.2.2)), (222, .val (.bool (ilt s57.2.2.2 (v4.2.length : Int))))] rfl ?_ ?_
  · simp <;> simp [ieq, ilt, ile]
  refine VW.cond rfl (fun hb60 => ?_) (fun hb60 => ?_)
  rotate_left
  ·
    replace hb60 : ¬ (s57.2.2.2 < (v4.2.length : Int)) := by simpa [ieq, ilt, ile] using hb60
    rw [if_neg hb60] at hx57o
    refine VW.exit ?_
    cases hx57o
    have hq := hx57b _ rfl
    subst hq
    exact Fits.of rfl
  replace hb60 : s57.2.2.2 < (v4.2.length : Int) := by simpa [ieq, ilt, ile] using hb60
  rw [if_pos hb60] at hx57o
  refine VW.skip ?_
  refine hK59 _ ?_
  refine VW.sqc fun K61 hK61 hCK61 => ?_
  refine VW.block ?_
  -- region 35
  obtain ⟨v62, hv62, hx57o⟩ := bind_some hx57o
  obtain ⟨hv62a, hv62b, hv62c, hv62d⟩ := idx_some hv62
  obtain ⟨v63, hv63, hx57o⟩ := bind_some hx57o
  obtain ⟨hv63a, hv63b, hv63c, hv63d⟩ := idx_some hv63
  obtain ⟨v64, hv64, hx57o⟩ := bind_some hx57o
  obtain ⟨hv64a, hv64b, hv64c, hv64d⟩ := idx_some hv64
  obtain ⟨hc65, hx57o⟩ := chk_some hx57o
  have hc65s := hc65
  try simp at hc65s
  refine VW.wdr tau_ok Sound.none try_mixed [some 225, some 226, some 227, some 228, some 229, some 230, some 231, some 232, some 233, some 234, some 235, some 236, some 237, some 238, some 239, some 240, some 241, some 242, some 243, some 31] [(3, .val (.ptr [i64 v4.1.1, dI v4.1.2])), (4, .val (dI v4.2)), (19, .ref 19 [] true (dI s57.1)), (20, .ref 20 [] true (dI s57.2.1)), (25, .ref 25 [] true (dM v43.1)), (27, .ref 27 [] true (dM v44.1)), (29, .ref 29 [] true (dI v45.1)), (31, .val (i64 ((w64 (s57.2.2.1 + (w64 ((w64 (v62 * v63)) * v64)))).tmod v4.1.1))), (32, .val (i64 s57.2.2.2))] 20 rfl (by kernel_rfl) (by rfl) ?_ ?_
  · simp [hv62a, hv62b, hv62c, hv62d, hv63a, hv63b, hv63c, hv63d, hv64a, hv64b, hv64c, hv64d, hc65, hc65s] <;> simp [ieq, ilt, ile]
  refine hK61 _ ?_
  -- region 34
  refine VW.wr tau_ok Sound.none [some 223, some 224, some 32] [(3, .val (.ptr [i64 v4.1.1, dI v4.1.2])), (4, .val (dI v4.2)), (19, .ref 19 [] true (dI s57.1)), (20, .ref 20 [] true (dI s57.2.1)), (25, .ref 25 [] true (dM v43.1)), (27, .ref 27 [] true (dM v44.1)), (29, .ref 29 [] true (dI v45.1)), (31, .val (i64 ((w64 (s57.2.2.1 + (w64 ((w64 (v62 * v63)) * v64)))).tmod v4.1.1))), (32, .val (i64 (w64 (s57.2.2.2 + 1))))] rfl ?_ ?_
  · simp <;> simp [ieq, ilt, ile]
  cases hx57o
  exact ⟨_, rfl, Fits.of rfl⟩
end Go.Vam
