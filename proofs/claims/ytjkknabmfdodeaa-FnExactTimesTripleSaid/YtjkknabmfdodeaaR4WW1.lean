import Derived.Test.YtjkknabmfdodeaaR4T
import Derived.Test.YtjkknabmfdodeaaFnM
namespace Go.Vam
open Go Go.RowKit Go.Proofs
set_option maxRecDepth 100000
set_option linter.unusedSimpArgs false
set_option linter.unusedVariables false

theorem l_szInt64S_ok {a0 : List Int} {a1 : Int} {r : Int} (h : l_szInt64S a0 a1 = some r) :
    VCall Try.prog 87 [dI a0, i64 a1] [.sc (i64 r)] := by
  unfold l_szInt64S at h
  refine VCall.enter Try.call87 Try.func87 rfl 12 Try.ntmps87 (by simp) [.tmp 4] rfl ?_
  show VW _ _ _ (mk [(0, .val (dI a0)), (1, .val (i64 a1))]) _
  -- region 0
  refine VW.ws tau_ok Sound.none [some 4] [(0, .val (dI a0)), (1, .val (i64 a1))] rfl ?_ ?_
  · simp <;> simp [ieq, ilt, ile]
  -- region 1
  refine VW.ws tau_ok Sound.none [some 5, some 6, some 7, some 8, some 1] [(1, .val (i64 (w64 (a1 - (a0.length : Int)))))] rfl ?_ ?_
  · simp <;> simp [ieq, ilt, ile]
  refine VW.sqc fun K1 hK1 hCK1 => ?_
  -- region 2
  refine VW.ws tau_ok Sound.none [some 9, some 10] [(1, .val (i64 (w64 (a1 - (a0.length : Int))))), (10, .val (.bool (ilt (w64 (a1 - (a0.length : Int))) 0)))] rfl ?_ ?_
  · simp <;> simp [ieq, ilt, ile]
  refine VW.cond rfl (fun hb2 => ?_) (fun hb2 => ?_)
  ·
    replace hb2 : (w64 (a1 - (a0.length : Int))) < 0 := by simpa [ieq, ilt, ile] using hb2
    rw [if_pos hb2] at h
    -- region 3
    refine VW.ws tau_ok Sound.none [some 4] [(4, .val (i64 (-1)))] rfl ?_ ?_
    · simp <;> simp [ieq, ilt, ile]
    cases h
    refine VW.ret ?_
    simp [Post, PostM, PostC, PostC2, Nx, Bk]
  replace hb2 : ¬ ((w64 (a1 - (a0.length : Int))) < 0) := by simpa [ieq, ilt, ile] using hb2
  rw [if_neg hb2] at h
  refine VW.skip ?_
  refine hK1 _ ?_
  -- region 4
  refine VW.ws tau_ok Sound.none [some 11, some 4] [(4, .val (i64 (w64 (a1 - (a0.length : Int)))))] rfl ?_ ?_
  · simp <;> simp [ieq, ilt, ile]
  cases h
  refine VW.ret ?_
  simp [Post, PostM, PostC, PostC2, Nx, Bk]

theorem l_szDoubling_ok {a0_0 : Int} {a0_1 : List Int} {a1 : Int} {r : Int} (h : l_szDoubling a0_0 a0_1 a1 = some r) :
    VCall Try.prog 15 [.agg [i64 a0_0, dI a0_1], i64 a1] [.sc (i64 r)] := by
  unfold l_szDoubling at h
  refine VCall.enter Try.call15 Try.func15 rfl 12 Try.ntmps15 (by simp) [.tmp 4] rfl ?_
  show VW _ _ _ (mk [(0, .val (.agg [i64 a0_0, dI a0_1])), (1, .val (i64 a1))]) _
  -- region 0
  refine VW.ws tau_ok Sound.none [some 2, some 4] [(1, .val (i64 a1)), (2, .val (.ptr [i64 a0_0, dI a0_1]))] rfl ?_ ?_
  · simp <;> simp [ieq, ilt, ile]
  -- region 1
  obtain ⟨v1, hv1, h⟩ := bind_some h
  refine VW.ws tau_ok (Sound.none.add 8 (l_szInt64S_ok hv1) rfl) [some 5, some 6, some 7, some 8, some 1] [(1, .val (i64 v1))] rfl ?_ ?_
  · simp <;> simp [ieq, ilt, ile]
  refine VW.sqc fun K2 hK2 hCK2 => ?_
  -- region 2
  refine VW.ws tau_ok Sound.none [some 9, some 10] [(1, .val (i64 v1)), (10, .val (.bool (ilt v1 0)))] rfl ?_ ?_
  · simp <;> simp [ieq, ilt, ile]
  refine VW.cond rfl (fun hb3 => ?_) (fun hb3 => ?_)
  ·
    replace hb3 : v1 < 0 := by simpa [ieq, ilt, ile] using hb3
    rw [if_pos hb3] at h
    -- region 3
    refine VW.ws tau_ok Sound.none [some 4] [(4, .val (i64 (-1)))] rfl ?_ ?_
    · simp <;> simp [ieq, ilt, ile]
    cases h
    refine VW.ret ?_
    simp [Post, PostM, PostC, PostC2, Nx, Bk]
  replace hb3 : ¬ (v1 < 0) := by simpa [ieq, ilt, ile] using hb3
  rw [if_neg hb3] at h
  refine VW.skip ?_
  refine hK2 _ ?_
  -- region 4
  refine VW.ws tau_ok Sound.none [some 11, some 4] [(4, .val (i64 v1))] rfl ?_ ?_
  · simp <;> simp [ieq, ilt, ile]
  cases h
  refine VW.ret ?_
  simp [Post, PostM, PostC, PostC2, Nx, Bk]

theorem l_szInt64SS_ok {a0 : List (List Int)} {a1 : Int} {r : Int} (h : l_szInt64SS a0 a1 = some r) :
    VCall Try.prog 16 [dM a0, i64 a1] [.sc (i64 r)] := by
  unfold l_szInt64SS at h
  refine VCall.enter Try.call16 Try.func16 rfl 27 Try.ntmps16 (by simp) [.tmp 4] rfl ?_
  show VW _ _ _ (mk [(0, .val (dM a0)), (1, .val (i64 a1))]) _
  -- region 0
  refine VW.ws tau_ok Sound.none [some 4] [(0, .val (dM a0)), (1, .val (i64 a1))] rfl ?_ ?_
  · simp <;> simp [ieq, ilt, ile]
  -- region 1
  refine VW.ws tau_ok Sound.none [some 6, some 7, some 8, some 9, some 1] [(0, .val (dM a0)), (1, .val (i64 (w64 (a1 - (a0.length : Int)))))] rfl ?_ ?_
  · simp <;> simp [ieq, ilt, ile]
  refine VW.sqc fun K1 hK1 hCK1 => ?_
  -- region 2
  refine VW.ws tau_ok Sound.none [some 10, some 11] [(0, .val (dM a0)), (1, .val (i64 (w64 (a1 - (a0.length : Int))))), (11, .val (.bool (ilt (w64 (a1 - (a0.length : Int))) 0)))] rfl ?_ ?_
  · simp <;> simp [ieq, ilt, ile]
  refine VW.cond rfl (fun hb2 => ?_) (fun hb2 => ?_)
  ·
    replace hb2 : (w64 (a1 - (a0.length : Int))) < 0 := by simpa [ieq, ilt, ile] using hb2
    rw [if_pos hb2] at h
    -- region 3
    refine VW.ws tau_ok Sound.none [some 4] [(4, .val (i64 (-1)))] rfl ?_ ?_
    · simp <;> simp [ieq, ilt, ile]
    cases h
    refine VW.ret ?_
    simp [Post, PostM, PostC, PostC2, Nx, Bk]
  replace hb2 : ¬ ((w64 (a1 - (a0.length : Int))) < 0) := by simpa [ieq, ilt, ile] using hb2
  rw [if_neg hb2] at h
  refine VW.skip ?_
  refine hK1 _ ?_
  refine VW.sqc fun K3 hK3 hCK3 => ?_
  -- region 4
  refine VW.ws tau_ok Sound.none [some 5] [(0, .val (dM a0)), (1, .val (i64 (w64 (a1 - (a0.length : Int))))), (5, .val (i64 0))] rfl ?_ ?_
  · simp <;> simp [ieq, ilt, ile]
  obtain ⟨x4, hx4, h⟩ := bind_some h
  refine VW.tlO (fun y6 => [(1, .val (i64 y6))]) x4 (hCK3) ?_ ?_
  · clear hx4
    rintro y6 rfl
    dsimp only at h
    refine hK3 _ ?_
    -- region 10
    refine VW.ws tau_ok Sound.none [some 26, some 4] [(4, .val (i64 y6))] rfl ?_ ?_
    · simp <;> simp [ieq, ilt, ile]
    cases h
    refine VW.ret ?_
    simp [Post, PostM, PostC, PostC2, Nx, Bk]
  refine VW.block ?_
  refine VW.loopF (l_szInt64SS_L0 a0) (fun s4 => [(0, .val (dM a0)), (1, .val (i64 s4.1)), (5, .val (i64 s4.2))]) hx4 (Fits.of rfl) ?_
  clear hx4
  intro s4 ox4 hx4o hx4b
  unfold l_szInt64SS_L0 at hx4o
  refine VW.sqc fun K7 hK7 hCK7 => ?_
  -- region 5
  refine VW.ws tau_ok Sound.none [some 12, some 13, some 14, some 15] [(0, .val (dM a0)), (1, .val (i64 s4.1)), (5, .val (i64 s4.2)), (15, .val (.bool (ilt s4.2 (a0.length : Int))))] rfl ?_ ?_
  · simp <;> simp [ieq, ilt, ile]
  refine VW.cond rfl (fun hb8 => ?_) (fun hb8 => ?_)
  rotate_left
  ·
    replace hb8 : ¬ (s4.2 < (a0.length : Int)) := by simpa [ieq, ilt, ile] using hb8
    rw [if_neg hb8] at hx4o
    refine VW.exit ?_
    cases hx4o
    have hq := hx4b _ rfl
    subst hq
    exact ⟨_, rfl, Fits.of rfl⟩
  replace hb8 : s4.2 < (a0.length : Int) := by simpa [ieq, ilt, ile] using hb8
  rw [if_pos hb8] at hx4o
  refine VW.skip ?_
  refine hK7 _ ?_
  refine VW.sqc fun K9 hK9 hCK9 => ?_
  refine VW.block ?_
  -- region 7
  obtain ⟨v10, hv10, hx4o⟩ := bind_some hx4o
  obtain ⟨hv10a, hv10b, hv10c, hv10d⟩ := idx_some hv10
  obtain ⟨v11, hv11, hx4o⟩ := bind_some hx4o
  refine VW.ws tau_ok (Sound.none.add 23 (l_szInt64S_ok hv11) rfl) [some 18, some 19, some 20, some 21, some 22, some 23, some 1] [(0, .val (dM a0)), (1, .val (i64 v11)), (5, .val (i64 s4.2))] rfl ?_ ?_
  · simp [hv10a, hv10b, hv10c, hv10d] <;> simp [ieq, ilt, ile]
  -- region 8
  refine VW.ws tau_ok Sound.none [some 24, some 25] [(0, .val (dM a0)), (1, .val (i64 v11)), (5, .val (i64 s4.2)), (25, .val (.bool (ilt v11 0)))] rfl ?_ ?_
  · simp <;> simp [ieq, ilt, ile]
  refine VW.cond rfl (fun hb12 => ?_) (fun hb12 => ?_)
  rotate_left
  ·
    replace hb12 : ¬ (v11 < 0) := by simpa [ieq, ilt, ile] using hb12
    rw [if_neg hb12] at hx4o
    refine VW.skip ?_
    refine hK9 _ ?_
    -- region 6
    refine VW.wr tau_ok Sound.none [some 16, some 17, some 5] [(0, .val (dM a0)), (1, .val (i64 v11)), (5, .val (i64 (w64 (s4.2 + 1))))] rfl ?_ ?_
    · simp <;> simp [ieq, ilt, ile]
    cases hx4o
    exact ⟨_, rfl, Fits.of rfl⟩
  replace hb12 : v11 < 0 := by simpa [ieq, ilt, ile] using hb12
  rw [if_pos hb12] at hx4o
  -- region 9
  refine VW.ws tau_ok Sound.none [some 4] [(4, .val (i64 (-1)))] rfl ?_ ?_
  · simp <;> simp [ieq, ilt, ile]
  cases hx4o
  have hq := hx4b _ rfl
  subst hq
  dsimp only at h
  cases h
  refine VW.ret ?_
  simp [Post, PostM, PostC, PostC2, Nx, Bk]

theorem l_szTriple_ok {a0_0 : List (List Int)} {a0_1 : List (List Int)} {a0_2 : List (List Int)} {a1 : Int} {r : Int} (h : l_szTriple a0_0 a0_1 a0_2 a1 = some r) :
    VCall Try.prog 23 [.agg [dM a0_0, dM a0_1, dM a0_2], i64 a1] [.sc (i64 r)] := by
  unfold l_szTriple at h
  refine VCall.enter Try.call23 Try.func23 rfl 24 Try.ntmps23 (by simp) [.tmp 4] rfl ?_
  show VW _ _ _ (mk [(0, .val (.agg [dM a0_0, dM a0_1, dM a0_2])), (1, .val (i64 a1))]) _
  -- region 0
  refine VW.ws tau_ok Sound.none [some 2, some 4] [(1, .val (i64 a1)), (2, .val (.ptr [dM a0_0, dM a0_1, dM a0_2]))] rfl ?_ ?_
  · simp <;> simp [ieq, ilt, ile]
  -- region 1
  obtain ⟨v1, hv1, h⟩ := bind_some h
  refine VW.ws tau_ok (Sound.none.add 8 (l_szInt64SS_ok hv1) rfl) [some 5, some 6, some 7, some 8, some 1] [(1, .val (i64 v1)), (2, .val (.ptr [dM a0_0, dM a0_1, dM a0_2]))] rfl ?_ ?_
  · simp <;> simp [ieq, ilt, ile]
  refine VW.sqc fun K2 hK2 hCK2 => ?_
  -- region 2
  refine VW.ws tau_ok Sound.none [some 9, some 10] [(1, .val (i64 v1)), (2, .val (.ptr [dM a0_0, dM a0_1, dM a0_2])), (10, .val (.bool (ilt v1 0)))] rfl ?_ ?_
  · simp <;> simp [ieq, ilt, ile]
  refine VW.cond rfl (fun hb3 => ?_) (fun hb3 => ?_)
  ·
    replace hb3 : v1 < 0 := by simpa [ieq, ilt, ile] using hb3
    rw [if_pos hb3] at h
    -- region 3
    refine VW.ws tau_ok Sound.none [some 4] [(4, .val (i64 (-1)))] rfl ?_ ?_
    · simp <;> simp [ieq, ilt, ile]
    cases h
    refine VW.ret ?_
    simp [Post, PostM, PostC, PostC2, Nx, Bk]
  replace hb3 : ¬ (v1 < 0) := by simpa [ieq, ilt, ile] using hb3
  rw [if_neg hb3] at h
  refine VW.skip ?_
  refine hK2 _ ?_
  -- region 4
  obtain ⟨v4, hv4, h⟩ := bind_some h
  refine VW.ws tau_ok (Sound.none.add 14 (l_szInt64SS_ok hv4) rfl) [some 11, some 12, some 13, some 14, some 1] [(1, .val (i64 v4)), (2, .val (.ptr [dM a0_0, dM a0_1, dM a0_2]))] rfl ?_ ?_
  · simp <;> simp [ieq, ilt, ile]
  refine VW.sqc fun K5 hK5 hCK5 => ?_
  -- region 5
  refine VW.ws tau_ok Sound.none [some 15, some 16] [(1, .val (i64 v4)), (2, .val (.ptr [dM a0_0, dM a0_1, dM a0_2])), (16, .val (.bool (ilt v4 0)))] rfl ?_ ?_
  · simp <;> simp [ieq, ilt, ile]
  refine VW.cond rfl (fun hb6 => ?_) (fun hb6 => ?_)
  ·
    replace hb6 : v4 < 0 := by simpa [ieq, ilt, ile] using hb6
    rw [if_pos hb6] at h
    -- region 6
    refine VW.ws tau_ok Sound.none [some 4] [(4, .val (i64 (-1)))] rfl ?_ ?_
    · simp <;> simp [ieq, ilt, ile]
    cases h
    refine VW.ret ?_
    simp [Post, PostM, PostC, PostC2, Nx, Bk]
  replace hb6 : ¬ (v4 < 0) := by simpa [ieq, ilt, ile] using hb6
  rw [if_neg hb6] at h
  refine VW.skip ?_
  refine hK5 _ ?_
  -- region 7
  obtain ⟨v7, hv7, h⟩ := bind_some h
  refine VW.ws tau_ok (Sound.none.add 20 (l_szInt64SS_ok hv7) rfl) [some 17, some 18, some 19, some 20, some 1] [(1, .val (i64 v7))] rfl ?_ ?_
  · simp <;> simp [ieq, ilt, ile]
  refine VW.sqc fun K8 hK8 hCK8 => ?_
  -- region 8
  refine VW.ws tau_ok Sound.none [some 21, some 22] [(1, .val (i64 v7)), (22, .val (.bool (ilt v7 0)))] rfl ?_ ?_
  · simp <;> simp [ieq, ilt, ile]
  refine VW.cond rfl (fun hb9 => ?_) (fun hb9 => ?_)
  ·
    replace hb9 : v7 < 0 := by simpa [ieq, ilt, ile] using hb9
    rw [if_pos hb9] at h
    -- region 9
    refine VW.ws tau_ok Sound.none [some 4] [(4, .val (i64 (-1)))] rfl ?_ ?_
    · simp <;> simp [ieq, ilt, ile]
    cases h
    refine VW.ret ?_
    simp [Post, PostM, PostC, PostC2, Nx, Bk]
  replace hb9 : ¬ (v7 < 0) := by simpa [ieq, ilt, ile] using hb9
  rw [if_neg hb9] at h
  refine VW.skip ?_
  refine hK8 _ ?_
  -- region 10
  refine VW.ws tau_ok Sound.none [some 23, some 4] [(4, .val (i64 v7))] rfl ?_ ?_
  · simp <;> simp [ieq, ilt, ile]
  cases h
  refine VW.ret ?_
  simp [Post, PostM, PostC, PostC2, Nx, Bk]

theorem l_toInt64S_ok {a0 : List Int} {r : List Int} (h : l_toInt64S a0 = some r) :
    VCall Try.prog 32 [dI a0] [.own true (dI r)] := by
  unfold l_toInt64S at h
  refine VCall.enter Try.call32 Try.func32 rfl 22 Try.ntmps32 (by simp) [.tmp 2] rfl ?_
  show VW _ _ _ (mk [(0, .val (dI a0))]) _
  -- region 0
  refine VW.ws tau_ok Sound.none [some 2] [(0, .val (dI a0))] rfl ?_ ?_
  · simp <;> simp [ieq, ilt, ile]
  -- region 1
  obtain ⟨hc1, h⟩ := chk_some h
  have hc1s := hc1
  try simp at hc1s
  refine VW.ws tau_ok Sound.none [some 5, some 6, some 7, some 3] [(0, .val (dI a0)), (3, .ref 3 [] true (dI (List.replicate (a0.length : Int).toNat 0)))] rfl ?_ ?_
  · simp [hc1, hc1s] <;> simp [ieq, ilt, ile]
  refine VW.sqc fun K2 hK2 hCK2 => ?_
  -- region 2
  refine VW.ws tau_ok Sound.none [some 4] [(0, .val (dI a0)), (3, .ref 3 [] true (dI (List.replicate (a0.length : Int).toNat 0))), (4, .val (i64 0))] rfl ?_ ?_
  · simp <;> simp [ieq, ilt, ile]
  obtain ⟨x3, hx3, h⟩ := bind_some h
  refine VW.tlE [(3, .ref 3 [] true (dI x3))] (hCK2) ?_ ?_
  · clear hx3
    refine hK2 _ ?_
    -- region 6
    refine VW.ws tau_ok Sound.none [some 21, some 2] [(2, .ref 2 [] true (dI x3))] rfl ?_ ?_
    · simp <;> simp [ieq, ilt, ile]
    cases h
    refine VW.ret ?_
    simp [Post, PostM, PostC, PostC2, Nx, Bk]
  refine VW.block ?_
  refine VW.loopF (l_toInt64S_L0 a0) (fun s3 => [(0, .val (dI a0)), (3, .ref 3 [] true (dI s3.1)), (4, .val (i64 s3.2))]) hx3 (Fits.of rfl) ?_
  clear hx3
  intro s3 ox3 hx3o hx3b
  unfold l_toInt64S_L0 at hx3o
  refine VW.sqc fun K5 hK5 hCK5 => ?_
  -- region 3
  refine VW.ws tau_ok Sound.none [some 8, some 9, some 10, some 11] [(0, .val (dI a0)), (3, .ref 3 [] true (dI s3.1)), (4, .val (i64 s3.2)), (11, .val (.bool (ilt s3.2 (a0.length : Int))))] rfl ?_ ?_
  · simp <;> simp [ieq, ilt, ile]
  refine VW.cond rfl (fun hb6 => ?_) (fun hb6 => ?_)
  rotate_left
  ·
    replace hb6 : ¬ (s3.2 < (a0.length : Int)) := by simpa [ieq, ilt, ile] using hb6
    rw [if_neg hb6] at hx3o
    refine VW.exit ?_
    cases hx3o
    have hq := hx3b _ rfl
    subst hq
    exact Fits.of rfl
  replace hb6 : s3.2 < (a0.length : Int) := by simpa [ieq, ilt, ile] using hb6
  rw [if_pos hb6] at hx3o
  refine VW.skip ?_
  refine hK5 _ ?_
  refine VW.sqc fun K7 hK7 hCK7 => ?_
  refine VW.block ?_
  -- region 5
  obtain ⟨v8, hv8, hx3o⟩ := bind_some hx3o
  obtain ⟨hv8a, hv8b, hv8c, hv8d⟩ := idx_some hv8
  obtain ⟨v9, hv9, hx3o⟩ := bind_some hx3o
  obtain ⟨hv9a, hv9b, hv9c, hv9d⟩ := idx_some hv9
  refine VW.wr tau_ok Sound.none [some 14, some 15, some 16, some 17, some 18, some 19, some 20, none] [(0, .val (dI a0)), (3, .ref 3 [] true (dI (s3.1.set s3.2.toNat v8))), (4, .val (i64 s3.2))] rfl ?_ ?_
  · simp [hv8a, hv8b, hv8c, hv8d, hv9a, hv9b, hv9c, hv9d] <;> simp [ieq, ilt, ile]
  refine hK7 _ ?_
  -- region 4
  refine VW.wr tau_ok Sound.none [some 12, some 13, some 4] [(0, .val (dI a0)), (3, .ref 3 [] true (dI (s3.1.set s3.2.toNat v8))), (4, .val (i64 (w64 (s3.2 + 1))))] rfl ?_ ?_
  · simp <;> simp [ieq, ilt, ile]
  cases hx3o
  exact ⟨_, rfl, Fits.of rfl⟩

theorem l_toDoubling_ok {a0_0 : Int} {a0_1 : List Int} {r : Int × (List Int)} (h : l_toDoubling a0_0 a0_1 = some r) :
    VCall Try.prog 18 [.agg [i64 a0_0, dI a0_1]] [.own true (.agg [i64 r.1, dI r.2])] := by
  unfold l_toDoubling at h
  refine VCall.enterC Try.call18 Try.func18 rfl 12 Try.ntmps18 (by simp) (tau_ok 30) 2 rfl ?_
  show VW _ _ _ (mk [(0, .val (.agg [i64 a0_0, dI a0_1]))]) _
  -- region 0
  refine VW.ws tau_ok Sound.none [some 1, some 2] [(1, .val (.ptr [i64 a0_0, dI a0_1])), (2, .ref 2 [] true (.ptr [i64 0, dI []]))] rfl ?_ ?_
  · simp <;> simp [ieq, ilt, ile]
  -- region 1
  refine VW.ws tau_ok Sound.none [some 3] [(1, .val (.ptr [i64 a0_0, dI a0_1])), (2, .ref 2 [] true (.ptr [i64 0, dI []])), (3, .ref 3 [] true (.ptr [i64 0, dI []]))] rfl ?_ ?_
  · simp <;> simp [ieq, ilt, ile]
  -- region 2
  refine VW.ws tau_ok Sound.none [some 4, some 5, some 6, none] [(1, .val (.ptr [i64 a0_0, dI a0_1])), (2, .ref 2 [] true (.ptr [i64 0, dI []])), (3, .ref 3 [] true (.ptr [i64 a0_0, dI []]))] rfl ?_ ?_
  · simp <;> simp [ieq, ilt, ile]
  -- region 3
  obtain ⟨v1, hv1, h⟩ := bind_some h
  refine VW.ws tau_ok (Sound.none.add 9 (l_toInt64S_ok hv1) rfl) [some 7, some 8, some 9, some 10, none] [(2, .ref 2 [] true (.ptr [i64 0, dI []])), (3, .ref 3 [] true (.ptr [i64 a0_0, dI v1]))] rfl ?_ ?_
  · simp <;> simp [ieq, ilt, ile]
  -- region 4
  refine VW.ws tau_ok Sound.none [some 11, none] [(2, .ref 2 [] true (.ptr [i64 a0_0, dI v1]))] rfl ?_ ?_
  · simp <;> simp [ieq, ilt, ile]
  cases h
  refine VW.ret ?_
  simp [Post, PostM, PostC, PostC2, Nx, Bk]

theorem l_toInt64SS_ok {a0 : List (List Int)} {r : List (List Int)} (h : l_toInt64SS a0 = some r) :
    VCall Try.prog 19 [dM a0] [.own true (dM r)] := by
  unfold l_toInt64SS at h
  refine VCall.enter Try.call19 Try.func19 rfl 23 Try.ntmps19 (by simp) [.tmp 2] rfl ?_
  show VW _ _ _ (mk [(0, .val (dM a0))]) _
  -- region 0
  refine VW.ws tau_ok Sound.none [some 2] [(0, .val (dM a0))] rfl ?_ ?_
  · simp <;> simp [ieq, ilt, ile]
  -- region 1
  obtain ⟨hc1, h⟩ := chk_some h
  have hc1s := hc1
  try simp at hc1s
  refine VW.ws tau_ok Sound.none [some 5, some 6, some 7, some 3] [(0, .val (dM a0)), (3, .ref 3 [] true (dM (List.replicate (a0.length : Int).toNat [])))] rfl ?_ ?_
  · simp [hc1, hc1s] <;> simp [ieq, ilt, ile]
  refine VW.sqc fun K2 hK2 hCK2 => ?_
  -- region 2
  refine VW.ws tau_ok Sound.none [some 4] [(0, .val (dM a0)), (3, .ref 3 [] true (dM (List.replicate (a0.length : Int).toNat []))), (4, .val (i64 0))] rfl ?_ ?_
  · simp <;> simp [ieq, ilt, ile]
  obtain ⟨x3, hx3, h⟩ := bind_some h
  refine VW.tlE [(3, .ref 3 [] true (dM x3))] (hCK2) ?_ ?_
  · clear hx3
    refine hK2 _ ?_
    -- region 6
    refine VW.ws tau_ok Sound.none [some 22, some 2] [(2, .ref 2 [] true (dM x3))] rfl ?_ ?_
    · simp <;> simp [ieq, ilt, ile]
    cases h
    refine VW.ret ?_
    simp [Post, PostM, PostC, PostC2, Nx, Bk]
  refine VW.block ?_
  refine VW.loopF (l_toInt64SS_L0 a0) (fun s3 => [(0, .val (dM a0)), (3, .ref 3 [] true (dM s3.1)), (4, .val (i64 s3.2))]) hx3 (Fits.of rfl) ?_
  clear hx3
  intro s3 ox3 hx3o hx3b
  unfold l_toInt64SS_L0 at hx3o
  refine VW.sqc fun K5 hK5 hCK5 => ?_
  -- region 3
  refine VW.ws tau_ok Sound.none [some 8, some 9, some 10, some 11] [(0, .val (dM a0)), (3, .ref 3 [] true (dM s3.1)), (4, .val (i64 s3.2)), (11, .val (.bool (ilt s3.2 (a0.length : Int))))] rfl ?_ ?_
  · simp <;> simp [ieq, ilt, ile]
  refine VW.cond rfl (fun hb6 => ?_) (fun hb6 => ?_)
  rotate_left
  ·
    replace hb6 : ¬ (s3.2 < (a0.length : Int)) := by simpa [ieq, ilt, ile] using hb6
    rw [if_neg hb6] at hx3o
    refine VW.exit ?_
    cases hx3o
    have hq := hx3b _ rfl
    subst hq
    exact Fits.of rfl
  replace hb6 : s3.2 < (a0.length : Int) := by simpa [ieq, ilt, ile] using hb6
  rw [if_pos hb6] at hx3o
  refine VW.skip ?_
  refine hK5 _ ?_
  refine VW.sqc fun K7 hK7 hCK7 => ?_
  refine VW.block ?_
  -- region 5
  obtain ⟨v8, hv8, hx3o⟩ := bind_some hx3o
  obtain ⟨hv8a, hv8b, hv8c, hv8d⟩ := idx_some hv8
  obtain ⟨v9, hv9, hx3o⟩ := bind_some hx3o
  obtain ⟨v10, hv10, hx3o⟩ := bind_some hx3o
  obtain ⟨hv10a, hv10b, hv10c, hv10d⟩ := idx_some hv10
  refine VW.wr tau_ok (Sound.none.add 20 (l_toInt64S_ok hv9) rfl) [some 14, some 15, some 16, some 17, some 18, some 19, some 20, some 21, none] [(0, .val (dM a0)), (3, .ref 3 [] true (dM (s3.1.set s3.2.toNat v9))), (4, .val (i64 s3.2))] rfl ?_ ?_
  · simp [hv8a, hv8b, hv8c, hv8d, hv10a, hv10b, hv10c, hv10d] <;> simp [ieq, ilt, ile]
  refine hK7 _ ?_
  -- region 4
  refine VW.wr tau_ok Sound.none [some 12, some 13, some 4] [(0, .val (dM a0)), (3, .ref 3 [] true (dM (s3.1.set s3.2.toNat v9))), (4, .val (i64 (w64 (s3.2 + 1))))] rfl ?_ ?_
  · simp <;> simp [ieq, ilt, ile]
  cases hx3o
  exact ⟨_, rfl, Fits.of rfl⟩

theorem l_toTriple_ok {a0_0 : List (List Int)} {a0_1 : List (List Int)} {a0_2 : List (List Int)} {r : (List (List Int)) × (List (List Int)) × (List (List Int))} (h : l_toTriple a0_0 a0_1 a0_2 = some r) :
    VCall Try.prog 25 [.agg [dM a0_0, dM a0_1, dM a0_2]] [.own true (.agg [dM r.1, dM r.2.1, dM r.2.2])] := by
  unfold l_toTriple at h
  refine VCall.enterC Try.call25 Try.func25 rfl 17 Try.ntmps25 (by simp) (tau_ok 39) 2 rfl ?_
  show VW _ _ _ (mk [(0, .val (.agg [dM a0_0, dM a0_1, dM a0_2]))]) _
  -- region 0
  refine VW.ws tau_ok Sound.none [some 1, some 2] [(1, .val (.ptr [dM a0_0, dM a0_1, dM a0_2])), (2, .ref 2 [] true (.ptr [dM [], dM [], dM []]))] rfl ?_ ?_
  · simp <;> simp [ieq, ilt, ile]
  -- region 1
  refine VW.ws tau_ok Sound.none [some 3] [(1, .val (.ptr [dM a0_0, dM a0_1, dM a0_2])), (2, .ref 2 [] true (.ptr [dM [], dM [], dM []])), (3, .ref 3 [] true (.ptr [dM [], dM [], dM []]))] rfl ?_ ?_
  · simp <;> simp [ieq, ilt, ile]
  -- region 2
  obtain ⟨v1, hv1, h⟩ := bind_some h
  refine VW.ws tau_ok (Sound.none.add 6 (l_toInt64SS_ok hv1) rfl) [some 4, some 5, some 6, some 7, none] [(1, .val (.ptr [dM a0_0, dM a0_1, dM a0_2])), (2, .ref 2 [] true (.ptr [dM [], dM [], dM []])), (3, .ref 3 [] true (.ptr [dM v1, dM [], dM []]))] rfl ?_ ?_
  · simp <;> simp [ieq, ilt, ile]
  -- region 3
  obtain ⟨v2, hv2, h⟩ := bind_some h
  refine VW.ws tau_ok (Sound.none.add 10 (l_toInt64SS_ok hv2) rfl) [some 8, some 9, some 10, some 11, none] [(1, .val (.ptr [dM a0_0, dM a0_1, dM a0_2])), (2, .ref 2 [] true (.ptr [dM [], dM [], dM []])), (3, .ref 3 [] true (.ptr [dM v1, dM v2, dM []]))] rfl ?_ ?_
  · simp <;> simp [ieq, ilt, ile]
  -- region 4
  obtain ⟨v3, hv3, h⟩ := bind_some h
  refine VW.ws tau_ok (Sound.none.add 14 (l_toInt64SS_ok hv3) rfl) [some 12, some 13, some 14, some 15, none] [(2, .ref 2 [] true (.ptr [dM [], dM [], dM []])), (3, .ref 3 [] true (.ptr [dM v1, dM v2, dM v3]))] rfl ?_ ?_
  · simp <;> simp [ieq, ilt, ile]
  -- region 5
  refine VW.ws tau_ok Sound.none [some 16, none] [(2, .ref 2 [] true (.ptr [dM v1, dM v2, dM v3]))] rfl ?_ ?_
  · simp <;> simp [ieq, ilt, ile]
  cases h
  refine VW.ret ?_
  simp [Post, PostM, PostC, PostC2, Nx, Bk]

theorem s_l01Prime_ok {a0 : Int} {r : Bool} (h : s_l01Prime a0 = some r) :
    VCall Try.prog 115 [i64 a0] [.sc (.bool r)] := by
  unfold s_l01Prime at h
  refine VCall.enter Try.call115 Try.func115 rfl 21 Try.ntmps115 (by simp) [.tmp 2] rfl ?_
  show VW _ _ _ (mk [(0, .val (i64 a0))]) _
  -- region 0
  refine VW.ws tau_ok Sound.none [some 2] [(0, .val (i64 a0))] rfl ?_ ?_
  · simp <;> simp [ieq, ilt, ile]
  -- region 1
  obtain ⟨x5, hx5, h⟩ := bind_some h
  refine VW.cut [(2, .val (.bool x5))] ?_ fun hy => ?_
  rotate_left
  · clear h
    by_cases hp1 : a0 = 3
    · rw [if_pos hp1] at hx5
      have hp1b : ieq a0 3 = true := by simpa [ieq, ilt, ile] using hp1
      have hp1s := hp1b
      try simp at hp1s
      cases hx5
      refine VW.ws tau_ok Sound.none [some 3, some 4, some 5, some 6, some 7, some 8, some 9, some 10, some 11, some 12, some 13, some 14, some 15, some 16, some 17, some 18, some 19, some 20, some 2] _ rfl ?_ hy
      simp [hp1b, hp1s] <;> simp [ieq, ilt, ile]
    · rw [if_neg hp1] at hx5
      have hp1b : ieq a0 3 = false := by simpa [ieq, ilt, ile] using hp1
      have hp1s := hp1b
      try simp at hp1s
      by_cases hp2 : a0 = 5
      · rw [if_pos hp2] at hx5
        have hp2b : ieq a0 5 = true := by simpa [ieq, ilt, ile] using hp2
        have hp2s := hp2b
        try simp at hp2s
        cases hx5
        refine VW.ws tau_ok Sound.none [some 3, some 4, some 5, some 6, some 7, some 8, some 9, some 10, some 11, some 12, some 13, some 14, some 15, some 16, some 17, some 18, some 19, some 20, some 2] _ rfl ?_ hy
        simp [hp1b, hp1s, hp2b, hp2s] <;> simp [ieq, ilt, ile]
      · rw [if_neg hp2] at hx5
        have hp2b : ieq a0 5 = false := by simpa [ieq, ilt, ile] using hp2
        have hp2s := hp2b
        try simp at hp2s
        by_cases hp3 : a0 = 7
        · rw [if_pos hp3] at hx5
          have hp3b : ieq a0 7 = true := by simpa [ieq, ilt, ile] using hp3
          have hp3s := hp3b
          try simp at hp3s
          cases hx5
          refine VW.ws tau_ok Sound.none [some 3, some 4, some 5, some 6, some 7, some 8, some 9, some 10, some 11, some 12, some 13, some 14, some 15, some 16, some 17, some 18, some 19, some 20, some 2] _ rfl ?_ hy
          simp [hp1b, hp1s, hp2b, hp2s, hp3b, hp3s] <;> simp [ieq, ilt, ile]
        · rw [if_neg hp3] at hx5
          have hp3b : ieq a0 7 = false := by simpa [ieq, ilt, ile] using hp3
          have hp3s := hp3b
          try simp at hp3s
          by_cases hp4 : a0 = 11
          · rw [if_pos hp4] at hx5
            have hp4b : ieq a0 11 = true := by simpa [ieq, ilt, ile] using hp4
            have hp4s := hp4b
            try simp at hp4s
            cases hx5
            refine VW.ws tau_ok Sound.none [some 3, some 4, some 5, some 6, some 7, some 8, some 9, some 10, some 11, some 12, some 13, some 14, some 15, some 16, some 17, some 18, some 19, some 20, some 2] _ rfl ?_ hy
            simp [hp1b, hp1s, hp2b, hp2s, hp3b, hp3s, hp4b, hp4s] <;> simp [ieq, ilt, ile]
          · rw [if_neg hp4] at hx5
            have hp4b : ieq a0 11 = false := by simpa [ieq, ilt, ile] using hp4
            have hp4s := hp4b
            try simp at hp4s
            cases hx5
            refine VW.ws tau_ok Sound.none [some 3, some 4, some 5, some 6, some 7, some 8, some 9, some 10, some 11, some 12, some 13, some 14, some 15, some 16, some 17, some 18, some 19, some 20, some 2] _ rfl ?_ hy
            simp [hp1b, hp1s, hp2b, hp2s, hp3b, hp3s, hp4b, hp4s] <;> simp [ieq, ilt, ile]
  cases h
  refine VW.ret ?_
  simp [Post, PostM, PostC, PostC2, Nx, Bk]

theorem s_l01In_ok {a0 : Int} {a1 : Int} {a2 : Int} {r : Bool} (h : s_l01In a0 a1 a2 = some r) :
    VCall Try.prog 217 [i64 a0, i64 a1, i64 a2] [.sc (.bool r)] := by
  unfold s_l01In at h
  refine VCall.enter Try.call217 Try.func217 rfl 15 Try.ntmps217 (by simp) [.tmp 6] rfl ?_
  show VW _ _ _ (mk [(0, .val (i64 a0)), (1, .val (i64 a1)), (2, .val (i64 a2))]) _
  -- region 0
  refine VW.ws tau_ok Sound.none [some 6] [(0, .val (i64 a0)), (1, .val (i64 a1)), (2, .val (i64 a2))] rfl ?_ ?_
  · simp <;> simp [ieq, ilt, ile]
  -- region 1
  obtain ⟨x2, hx2, h⟩ := bind_some h
  refine VW.cut [(6, .val (.bool x2))] ?_ fun hy => ?_
  rotate_left
  · clear h
    by_cases hp1 : a1 ≤ a0
    · rw [if_pos hp1] at hx2
      have hp1b : ile a1 a0 = true := by simpa [ieq, ilt, ile] using hp1
      have hp1s := hp1b
      try simp at hp1s
      cases hx2
      refine VW.ws tau_ok Sound.none [some 7, some 8, some 9, some 10, some 11, some 12, some 13, some 14, some 6] _ rfl ?_ hy
      simp [hp1b, hp1s] <;> simp [ieq, ilt, ile]
    · rw [if_neg hp1] at hx2
      have hp1b : ile a1 a0 = false := by simpa [ieq, ilt, ile] using hp1
      have hp1s := hp1b
      try simp at hp1s
      cases hx2
      refine VW.ws tau_ok Sound.none [some 7, some 8, some 9, some 10, some 11, some 12, some 13, some 14, some 6] _ rfl ?_ hy
      simp [hp1b, hp1s] <;> simp [ieq, ilt, ile]
  cases h
  refine VW.ret ?_
  simp [Post, PostM, PostC, PostC2, Nx, Bk]

theorem s_l11Is_ok {a0_0 : Int} {a0_1 : List Int} {r : Bool} (h : s_l11Is a0_0 a0_1 = some r) :
    VCall Try.prog 207 [.agg [i64 a0_0, dI a0_1]] [.sc (.bool r)] := by
  unfold s_l11Is at h
  refine VCall.enter Try.call207 Try.func207 rfl 31 Try.ntmps207 (by simp) [.tmp 2] rfl ?_
  show VW _ _ _ (mk [(0, .val (.agg [i64 a0_0, dI a0_1]))]) _
  -- region 0
  refine VW.ws tau_ok Sound.none [some 1, some 2] [(1, .val (.ptr [i64 a0_0, dI a0_1]))] rfl ?_ ?_
  · simp <;> simp [ieq, ilt, ile]
  refine VW.sqc fun K1 hK1 hCK1 => ?_
  -- region 1
  obtain ⟨x4, hx4, h⟩ := bind_some h
  refine VW.cut [(1, .val (.ptr [i64 a0_0, dI a0_1])), (13, .val (.bool x4))] ?_ fun hy => ?_
  rotate_left
  · clear h
    obtain ⟨v2, hv2, hx4⟩ := bind_some hx4
    by_cases hp3 : v2 = false
    · rw [if_pos hp3] at hx4
      have hp3b : v2 = false := by simpa [ieq, ilt, ile] using hp3
      have hp3s := hp3b
      try simp at hp3s
      cases hx4
      refine VW.ws tau_ok (Sound.none.add 6 (s_l01Prime_ok hv2) rfl) [some 4, some 5, some 6, some 7, some 8, some 9, some 10, some 11, some 12, some 13] _ rfl ?_ hy
      simp [hp3b, hp3s] <;> simp [ieq, ilt, ile]
    · rw [if_neg hp3] at hx4
      have hp3b : v2 = true := by simpa [ieq, ilt, ile] using hp3
      have hp3s := hp3b
      try simp at hp3s
      cases hx4
      refine VW.ws tau_ok (Sound.none.add 6 (s_l01Prime_ok hv2) rfl) [some 4, some 5, some 6, some 7, some 8, some 9, some 10, some 11, some 12, some 13] _ rfl ?_ hy
      simp [hp3b, hp3s] <;> simp [ieq, ilt, ile]
  refine VW.cond rfl (fun hb5 => ?_) (fun hb5 => ?_)
  ·
    replace hb5 : x4 = true := by simpa [ieq, ilt, ile] using hb5
    rw [if_pos hb5] at h
    -- region 2
    refine VW.ws tau_ok Sound.none [some 2] [(2, .val (.bool false))] rfl ?_ ?_
    · simp <;> simp [ieq, ilt, ile]
    cases h
    refine VW.ret ?_
    simp [Post, PostM, PostC, PostC2, Nx, Bk]
  replace hb5 : ¬ (x4 = true) := by simpa [ieq, ilt, ile] using hb5
  rw [if_neg hb5] at h
  refine VW.skip ?_
  refine hK1 _ ?_
  refine VW.sqc fun K6 hK6 hCK6 => ?_
  -- region 3
  refine VW.ws tau_ok Sound.none [some 3] [(1, .val (.ptr [i64 a0_0, dI a0_1])), (3, .val (i64 0))] rfl ?_ ?_
  · simp <;> simp [ieq, ilt, ile]
  obtain ⟨x7, hx7, h⟩ := bind_some h
  refine VW.tlO (fun y9 => []) x7 (hCK6) ?_ ?_
  · clear hx7
    rintro y9 rfl
    dsimp only at h
    refine hK6 _ ?_
    -- region 8
    refine VW.ws tau_ok Sound.none [some 2] [(2, .val (.bool true))] rfl ?_ ?_
    · simp <;> simp [ieq, ilt, ile]
    cases h
    refine VW.ret ?_
    simp [Post, PostM, PostC, PostC2, Nx, Bk]
  refine VW.block ?_
  refine VW.loopF (s_l11Is_L0 a0_0 a0_1) (fun s7 => [(1, .val (.ptr [i64 a0_0, dI a0_1])), (3, .val (i64 s7))]) hx7 (Fits.of rfl) ?_
  clear hx7
  intro s7 ox7 hx7o hx7b
  unfold s_l11Is_L0 at hx7o
  refine VW.sqc fun K10 hK10 hCK10 => ?_
  -- region 4
  refine VW.ws tau_ok Sound.none [some 14, some 15, some 16, some 17, some 18] [(1, .val (.ptr [i64 a0_0, dI a0_1])), (3, .val (i64 s7)), (18, .val (.bool (ilt s7 (a0_1.length : Int))))] rfl ?_ ?_
  · simp <;> simp [ieq, ilt, ile]
  refine VW.cond rfl (fun hb11 => ?_) (fun hb11 => ?_)
  rotate_left
  ·
    replace hb11 : ¬ (s7 < (a0_1.length : Int)) := by simpa [ieq, ilt, ile] using hb11
    rw [if_neg hb11] at hx7o
    refine VW.exit ?_
    cases hx7o
    have hq := hx7b _ rfl
    subst hq
    exact ⟨_, rfl, Fits.of rfl⟩
  replace hb11 : s7 < (a0_1.length : Int) := by simpa [ieq, ilt, ile] using hb11
  rw [if_pos hb11] at hx7o
  refine VW.skip ?_
  refine hK10 _ ?_
  refine VW.sqc fun K12 hK12 hCK12 => ?_
  refine VW.block ?_
  -- region 6
  obtain ⟨v13, hv13, hx7o⟩ := bind_some hx7o
  obtain ⟨hv13a, hv13b, hv13c, hv13d⟩ := idx_some hv13
  obtain ⟨v14, hv14, hx7o⟩ := bind_some hx7o
  refine VW.wds tau_ok (Sound.none.add 29 (s_l01In_ok hv14) rfl) try_mixed [some 21, some 22, some 23, some 24, some 25, some 26, some 27, some 28, some 29, some 30] [(1, .val (.ptr [i64 a0_0, dI a0_1])), (3, .val (i64 s7)), (30, .val (.bool (!v14)))] 10 rfl (by kernel_rfl) (by rfl) ?_ ?_
  · simp [hv13a, hv13b, hv13c, hv13d] <;> simp [ieq, ilt, ile]
  refine VW.cond rfl (fun hb15 => ?_) (fun hb15 => ?_)
  rotate_left
  ·
    replace hb15 : ¬ (v14 = false) := by simpa [ieq, ilt, ile] using hb15
    rw [if_neg hb15] at hx7o
    refine VW.skip ?_
    refine hK12 _ ?_
    -- region 5
    refine VW.wr tau_ok Sound.none [some 19, some 20, some 3] [(1, .val (.ptr [i64 a0_0, dI a0_1])), (3, .val (i64 (w64 (s7 + 1))))] rfl ?_ ?_
    · simp <;> simp [ieq, ilt, ile]
    cases hx7o
    exact ⟨_, rfl, Fits.of rfl⟩
  replace hb15 : v14 = false := by simpa [ieq, ilt, ile] using hb15
  rw [if_pos hb15] at hx7o
  -- region 7
  refine VW.ws tau_ok Sound.none [some 2] [(2, .val (.bool false))] rfl ?_ ?_
  · simp <;> simp [ieq, ilt, ile]
  cases hx7o
  have hq := hx7b _ rfl
  subst hq
  dsimp only at h
  cases h
  refine VW.ret ?_
  simp [Post, PostM, PostC, PostC2, Nx, Bk]

theorem s_l14Code_ok {a0_0 : Int} {a0_1 : List Int} {r : Int} (h : s_l14Code a0_0 a0_1 = some r) :
    VCall Try.prog 168 [.agg [i64 a0_0, dI a0_1]] [.sc (i64 r)] := by
  unfold s_l14Code at h
  refine VCall.enter Try.call168 Try.func168 rfl 12 Try.ntmps168 (by simp) [.tmp 2] rfl ?_
  show VW _ _ _ (mk [(0, .val (.agg [i64 a0_0, dI a0_1]))]) _
  -- region 0
  refine VW.ws tau_ok Sound.none [some 1, some 2] [(1, .val (.ptr [i64 a0_0, dI a0_1]))] rfl ?_ ?_
  · simp <;> simp [ieq, ilt, ile]
  refine VW.sqc fun K1 hK1 hCK1 => ?_
  refine VW.block ?_
  -- region 1
  obtain ⟨v2, hv2, h⟩ := bind_some h
  refine VW.ws tau_ok (Sound.none.add 5 (s_l11Is_ok hv2) rfl) [some 4, some 5, some 6, some 3] [(1, .val (.ptr [i64 a0_0, dI a0_1])), (3, .val (.bool (!v2)))] rfl ?_ ?_
  · simp <;> simp [ieq, ilt, ile]
  refine VW.cond rfl (fun hb3 => ?_) (fun hb3 => ?_)
  ·
    replace hb3 : v2 = false := by simpa [ieq, ilt, ile] using hb3
    rw [if_pos hb3] at h
    -- region 2
    refine VW.ws tau_ok Sound.none [some 2] [(2, .val (i64 1))] rfl ?_ ?_
    · simp <;> simp [ieq, ilt, ile]
    cases h
    refine VW.ret ?_
    simp [Post, PostM, PostC, PostC2, Nx, Bk]
  replace hb3 : ¬ (v2 = false) := by simpa [ieq, ilt, ile] using hb3
  rw [if_neg hb3] at h
  -- region 3
  refine VW.ws tau_ok Sound.none [some 8, some 9, some 10, some 11, some 7] [(7, .val (.bool (ilt 3 (a0_1.length : Int))))] rfl ?_ ?_
  · simp <;> simp [ieq, ilt, ile]
  refine VW.cond rfl (fun hb4 => ?_) (fun hb4 => ?_)
  ·
    replace hb4 : 3 < (a0_1.length : Int) := by simpa [ieq, ilt, ile] using hb4
    rw [if_pos hb4] at h
    -- region 4
    refine VW.ws tau_ok Sound.none [some 2] [(2, .val (i64 3))] rfl ?_ ?_
    · simp <;> simp [ieq, ilt, ile]
    cases h
    refine VW.ret ?_
    simp [Post, PostM, PostC, PostC2, Nx, Bk]
  replace hb4 : ¬ (3 < (a0_1.length : Int)) := by simpa [ieq, ilt, ile] using hb4
  rw [if_neg hb4] at h
  refine VW.skip ?_
  refine hK1 _ ?_
  -- region 5
  refine VW.ws tau_ok Sound.none [some 2] [(2, .val (i64 0))] rfl ?_ ?_
  · simp <;> simp [ieq, ilt, ile]
  cases h
  refine VW.ret ?_
  simp [Post, PostM, PostC, PostC2, Nx, Bk]

theorem s_l11Size_ok {a0_0 : Int} {a0_1 : List Int} {r : Int} (h : s_l11Size a0_0 a0_1 = some r) :
    VCall Try.prog 102 [.agg [i64 a0_0, dI a0_1]] [.sc (i64 r)] := by
  unfold s_l11Size at h
  refine VCall.enter Try.call102 Try.func102 rfl 8 Try.ntmps102 (by simp) [.tmp 2] rfl ?_
  show VW _ _ _ (mk [(0, .val (.agg [i64 a0_0, dI a0_1]))]) _
  -- region 0
  refine VW.ws tau_ok Sound.none [some 1, some 2] [(1, .val (.ptr [i64 a0_0, dI a0_1]))] rfl ?_ ?_
  · simp <;> simp [ieq, ilt, ile]
  -- region 1
  obtain ⟨hc1, h⟩ := chk_some h
  have hc1s := hc1
  try simp at hc1s
  refine VW.ws tau_ok Sound.none [some 3, some 4, some 5, some 6, some 7, some 2] [(2, .val (i64 (shl .i64 1 (IntKind.u64.wrap ((a0_1.length : Int))))))] rfl ?_ ?_
  · simp [hc1, hc1s] <;> simp [ieq, ilt, ile]
  cases h
  refine VW.ret ?_
  simp [Post, PostM, PostC, PostC2, Nx, Bk]

theorem s_l11Element_ok {a0_0 : Int} {a0_1 : List Int} {a1 : List Int} {r : Bool} (h : s_l11Element a0_0 a0_1 a1 = some r) :
    VCall Try.prog 222 [.agg [i64 a0_0, dI a0_1], dI a1] [.sc (.bool r)] := by
  unfold s_l11Element at h
  refine VCall.enter Try.call222 Try.func222 rfl 26 Try.ntmps222 (by simp) [.tmp 4] rfl ?_
  show VW _ _ _ (mk [(0, .val (.agg [i64 a0_0, dI a0_1])), (1, .val (dI a1))]) _
  -- region 0
  refine VW.ws tau_ok Sound.none [some 2, some 4] [(1, .val (dI a1)), (2, .val (.ptr [i64 a0_0, dI a0_1]))] rfl ?_ ?_
  · simp <;> simp [ieq, ilt, ile]
  refine VW.sqc fun K1 hK1 hCK1 => ?_
  -- region 1
  refine VW.ws tau_ok Sound.none [some 5] [(1, .val (dI a1)), (2, .val (.ptr [i64 a0_0, dI a0_1])), (5, .val (i64 0))] rfl ?_ ?_
  · simp <;> simp [ieq, ilt, ile]
  obtain ⟨x2, hx2, h⟩ := bind_some h
  refine VW.tlO (fun y4 => [(1, .val (dI a1)), (2, .val (.ptr [i64 a0_0, dI a0_1]))]) x2 (hCK1) ?_ ?_
  · clear hx2
    rintro y4 rfl
    dsimp only at h
    refine hK1 _ ?_
    -- region 6
    obtain ⟨v11, hv11, h⟩ := bind_some h
    refine VW.ws tau_ok (Sound.none.add 24 (s_l11Size_ok hv11) rfl) [some 21, some 22, some 23, some 24, some 25, some 4] [(4, .val (.bool (ieq (a1.length : Int) v11)))] rfl ?_ ?_
    · simp <;> simp [ieq, ilt, ile]
    cases h
    refine VW.ret ?_
    simp [Post, PostM, PostC, PostC2, Nx, Bk]
  refine VW.block ?_
  refine VW.loopF (s_l11Element_L0 a0_0 a1) (fun s2 => [(1, .val (dI a1)), (2, .val (.ptr [i64 a0_0, dI a0_1])), (5, .val (i64 s2))]) hx2 (Fits.of rfl) ?_
  clear hx2
  intro s2 ox2 hx2o hx2b
  unfold s_l11Element_L0 at hx2o
  refine VW.sqc fun K5 hK5 hCK5 => ?_
  -- region 2
  refine VW.ws tau_ok Sound.none [some 6, some 7, some 8, some 9] [(1, .val (dI a1)), (2, .val (.ptr [i64 a0_0, dI a0_1])), (5, .val (i64 s2)), (9, .val (.bool (ilt s2 (a1.length : Int))))] rfl ?_ ?_
  · simp <;> simp [ieq, ilt, ile]
  refine VW.cond rfl (fun hb6 => ?_) (fun hb6 => ?_)
  rotate_left
  ·
    replace hb6 : ¬ (s2 < (a1.length : Int)) := by simpa [ieq, ilt, ile] using hb6
    rw [if_neg hb6] at hx2o
    refine VW.exit ?_
    cases hx2o
    have hq := hx2b _ rfl
    subst hq
    exact ⟨_, rfl, Fits.of rfl⟩
  replace hb6 : s2 < (a1.length : Int) := by simpa [ieq, ilt, ile] using hb6
  rw [if_pos hb6] at hx2o
  refine VW.skip ?_
  refine hK5 _ ?_
  refine VW.sqc fun K7 hK7 hCK7 => ?_
  refine VW.block ?_
  -- region 4
  obtain ⟨v8, hv8, hx2o⟩ := bind_some hx2o
  obtain ⟨hv8a, hv8b, hv8c, hv8d⟩ := idx_some hv8
  obtain ⟨v9, hv9, hx2o⟩ := bind_some hx2o
  refine VW.wds tau_ok (Sound.none.add 19 (s_l01In_ok hv9) rfl) try_mixed [some 12, some 13, some 14, some 15, some 16, some 17, some 18, some 19, some 20] [(1, .val (dI a1)), (2, .val (.ptr [i64 a0_0, dI a0_1])), (5, .val (i64 s2)), (20, .val (.bool (!v9)))] 9 rfl (by kernel_rfl) (by rfl) ?_ ?_
  · simp [hv8a, hv8b, hv8c, hv8d] <;> simp [ieq, ilt, ile]
  refine VW.cond rfl (fun hb10 => ?_) (fun hb10 => ?_)
  rotate_left
  ·
    replace hb10 : ¬ (v9 = false) := by simpa [ieq, ilt, ile] using hb10
    rw [if_neg hb10] at hx2o
    refine VW.skip ?_
    refine hK7 _ ?_
    -- region 3
    refine VW.wr tau_ok Sound.none [some 10, some 11, some 5] [(1, .val (dI a1)), (2, .val (.ptr [i64 a0_0, dI a0_1])), (5, .val (i64 (w64 (s2 + 1))))] rfl ?_ ?_
    · simp <;> simp [ieq, ilt, ile]
    cases hx2o
    exact ⟨_, rfl, Fits.of rfl⟩
  replace hb10 : v9 = false := by simpa [ieq, ilt, ile] using hb10
  rw [if_pos hb10] at hx2o
  -- region 5
  refine VW.ws tau_ok Sound.none [some 4] [(4, .val (.bool false))] rfl ?_ ?_
  · simp <;> simp [ieq, ilt, ile]
  cases hx2o
  have hq := hx2b _ rfl
  subst hq
  dsimp only at h
  cases h
  refine VW.ret ?_
  simp [Post, PostM, PostC, PostC2, Nx, Bk]

theorem s_l14Matrix_ok {a0_0 : Int} {a0_1 : List Int} {a1 : List (List Int)} {r : Bool} (h : s_l14Matrix a0_0 a0_1 a1 = some r) :
    VCall Try.prog 178 [.agg [i64 a0_0, dI a0_1], dM a1] [.sc (.bool r)] := by
  unfold s_l14Matrix at h
  refine VCall.enter Try.call178 Try.func178 rfl 24 Try.ntmps178 (by simp) [.tmp 4] rfl ?_
  show VW _ _ _ (mk [(0, .val (.agg [i64 a0_0, dI a0_1])), (1, .val (dM a1))]) _
  -- region 0
  refine VW.ws tau_ok Sound.none [some 2, some 4] [(1, .val (dM a1)), (2, .val (.ptr [i64 a0_0, dI a0_1]))] rfl ?_ ?_
  · simp <;> simp [ieq, ilt, ile]
  refine VW.sqc fun K1 hK1 hCK1 => ?_
  -- region 1
  refine VW.ws tau_ok Sound.none [some 5] [(1, .val (dM a1)), (2, .val (.ptr [i64 a0_0, dI a0_1])), (5, .val (i64 0))] rfl ?_ ?_
  · simp <;> simp [ieq, ilt, ile]
  obtain ⟨x2, hx2, h⟩ := bind_some h
  refine VW.tlO (fun y4 => [(1, .val (dM a1)), (2, .val (.ptr [i64 a0_0, dI a0_1]))]) x2 (hCK1) ?_ ?_
  · clear hx2
    rintro y4 rfl
    dsimp only at h
    refine hK1 _ ?_
    -- region 6
    obtain ⟨v11, hv11, h⟩ := bind_some h
    refine VW.ws tau_ok (Sound.none.add 22 (s_l11Size_ok hv11) rfl) [some 19, some 20, some 21, some 22, some 23, some 4] [(4, .val (.bool (ieq (a1.length : Int) v11)))] rfl ?_ ?_
    · simp <;> simp [ieq, ilt, ile]
    cases h
    refine VW.ret ?_
    simp [Post, PostM, PostC, PostC2, Nx, Bk]
  refine VW.block ?_
  refine VW.loopF (s_l14Matrix_L0 a0_0 a0_1 a1) (fun s2 => [(1, .val (dM a1)), (2, .val (.ptr [i64 a0_0, dI a0_1])), (5, .val (i64 s2))]) hx2 (Fits.of rfl) ?_
  clear hx2
  intro s2 ox2 hx2o hx2b
  unfold s_l14Matrix_L0 at hx2o
  refine VW.sqc fun K5 hK5 hCK5 => ?_
  -- region 2
  refine VW.ws tau_ok Sound.none [some 6, some 7, some 8, some 9] [(1, .val (dM a1)), (2, .val (.ptr [i64 a0_0, dI a0_1])), (5, .val (i64 s2)), (9, .val (.bool (ilt s2 (a1.length : Int))))] rfl ?_ ?_
  · simp <;> simp [ieq, ilt, ile]
  refine VW.cond rfl (fun hb6 => ?_) (fun hb6 => ?_)
  rotate_left
  ·
    replace hb6 : ¬ (s2 < (a1.length : Int)) := by simpa [ieq, ilt, ile] using hb6
    rw [if_neg hb6] at hx2o
    refine VW.exit ?_
    cases hx2o
    have hq := hx2b _ rfl
    subst hq
    exact ⟨_, rfl, Fits.of rfl⟩
  replace hb6 : s2 < (a1.length : Int) := by simpa [ieq, ilt, ile] using hb6
  rw [if_pos hb6] at hx2o
  refine VW.skip ?_
  refine hK5 _ ?_
  refine VW.sqc fun K7 hK7 hCK7 => ?_
  refine VW.block ?_
  -- region 4
  obtain ⟨v8, hv8, hx2o⟩ := bind_some hx2o
  obtain ⟨hv8a, hv8b, hv8c, hv8d⟩ := idx_some hv8
  obtain ⟨v9, hv9, hx2o⟩ := bind_some hx2o
  refine VW.wds tau_ok (Sound.none.add 17 (s_l11Element_ok hv9) rfl) try_mixed [some 12, some 13, some 14, some 15, some 16, some 17, some 18] [(1, .val (dM a1)), (2, .val (.ptr [i64 a0_0, dI a0_1])), (5, .val (i64 s2)), (18, .val (.bool (!v9)))] 7 rfl (by kernel_rfl) (by rfl) ?_ ?_
  · simp [hv8a, hv8b, hv8c, hv8d] <;> simp [ieq, ilt, ile]
  refine VW.cond rfl (fun hb10 => ?_) (fun hb10 => ?_)
  rotate_left
  ·
    replace hb10 : ¬ (v9 = false) := by simpa [ieq, ilt, ile] using hb10
    rw [if_neg hb10] at hx2o
    refine VW.skip ?_
    refine hK7 _ ?_
    -- region 3
    refine VW.wr tau_ok Sound.none [some 10, some 11, some 5] [(1, .val (dM a1)), (2, .val (.ptr [i64 a0_0, dI a0_1])), (5, .val (i64 (w64 (s2 + 1))))] rfl ?_ ?_
    · simp <;> simp [ieq, ilt, ile]
    cases hx2o
    exact ⟨_, rfl, Fits.of rfl⟩
  replace hb10 : v9 = false := by simpa [ieq, ilt, ile] using hb10
  rw [if_pos hb10] at hx2o
  -- region 5
  refine VW.ws tau_ok Sound.none [some 4] [(4, .val (.bool false))] rfl ?_ ?_
  · simp <;> simp [ieq, ilt, ile]
  cases hx2o
  have hq := hx2b _ rfl
  subst hq
  dsimp only at h
  cases h
  refine VW.ret ?_
  simp [Post, PostM, PostC, PostC2, Nx, Bk]

theorem s_l15Code_ok {a0_0 : Int} {a0_1 : List Int} {a1 : List ((List (List Int)) × (List (List Int)) × (List (List Int)))} {r : Int} (h : s_l15Code a0_0 a0_1 a1 = some r) :
    VCall Try.prog 92 [.agg [i64 a0_0, dI a0_1], .recs 3 (a1.map (fun x => .agg [dM x.1, dM x.2.1, dM x.2.2]))] [.sc (i64 r)] := by
  unfold s_l15Code at h
  refine VCall.enter Try.call92 Try.func92 rfl 46 Try.ntmps92 (by simp) [.tmp 4] rfl ?_
  show VW _ _ _ (mk [(0, .val (.agg [i64 a0_0, dI a0_1])), (1, .val (.recs 3 (a1.map (fun x => .agg [dM x.1, dM x.2.1, dM x.2.2]))))]) _
  -- region 0
  refine VW.ws tau_ok Sound.none [some 2, some 4] [(1, .val (.recs 3 (a1.map (fun x => .agg [dM x.1, dM x.2.1, dM x.2.2])))), (2, .val (.ptr [i64 a0_0, dI a0_1]))] rfl ?_ ?_
  · simp <;> simp [ieq, ilt, ile]
  refine VW.sqc fun K1 hK1 hCK1 => ?_
  -- region 1
  obtain ⟨v2, hv2, h⟩ := bind_some h
  refine VW.ws tau_ok (Sound.none.add 8 (s_l14Code_ok hv2) rfl) [some 7, some 8, some 5] [(1, .val (.recs 3 (a1.map (fun x => .agg [dM x.1, dM x.2.1, dM x.2.2])))), (2, .val (.ptr [i64 a0_0, dI a0_1])), (5, .val (i64 v2))] rfl ?_ ?_
  · simp <;> simp [ieq, ilt, ile]
  -- region 2
  refine VW.ws tau_ok Sound.none [some 9, some 10] [(1, .val (.recs 3 (a1.map (fun x => .agg [dM x.1, dM x.2.1, dM x.2.2])))), (2, .val (.ptr [i64 a0_0, dI a0_1])), (5, .val (i64 v2)), (10, .val (.bool (!(ieq v2 0))))] rfl ?_ ?_
  · simp <;> simp [ieq, ilt, ile]
  refine VW.cond rfl (fun hb3 => ?_) (fun hb3 => ?_)
  ·
    replace hb3 : ¬ v2 = 0 := by simpa [ieq, ilt, ile] using hb3
    rw [if_pos hb3] at h
    -- region 3
    refine VW.ws tau_ok Sound.none [some 11, some 4] [(4, .val (i64 v2))] rfl ?_ ?_
    · simp <;> simp [ieq, ilt, ile]
    cases h
    refine VW.ret ?_
    simp [Post, PostM, PostC, PostC2, Nx, Bk]
  replace hb3 : ¬ (¬ v2 = 0) := by simpa [ieq, ilt, ile] using hb3
  rw [if_neg hb3] at h
  refine VW.skip ?_
  refine hK1 _ ?_
  refine VW.sqc fun K4 hK4 hCK4 => ?_
  -- region 4
  refine VW.ws tau_ok Sound.none [some 6] [(1, .val (.recs 3 (a1.map (fun x => .agg [dM x.1, dM x.2.1, dM x.2.2])))), (2, .val (.ptr [i64 a0_0, dI a0_1])), (6, .val (i64 0))] rfl ?_ ?_
  · simp <;> simp [ieq, ilt, ile]
  obtain ⟨x5, hx5, h⟩ := bind_some h
  refine VW.tlO (fun y7 => []) x5 (hCK4) ?_ ?_
  · clear hx5
    rintro y7 rfl
    dsimp only at h
    refine hK4 _ ?_
    -- region 9
    refine VW.ws tau_ok Sound.none [some 4] [(4, .val (i64 0))] rfl ?_ ?_
    · simp <;> simp [ieq, ilt, ile]
    cases h
    refine VW.ret ?_
    simp [Post, PostM, PostC, PostC2, Nx, Bk]
  refine VW.block ?_
  refine VW.loopF (s_l15Code_L0 a0_0 a0_1 a1) (fun s5 => [(1, .val (.recs 3 (a1.map (fun x => .agg [dM x.1, dM x.2.1, dM x.2.2])))), (2, .val (.ptr [i64 a0_0, dI a0_1])), (6, .val (i64 s5))]) hx5 (Fits.of rfl) ?_
  clear hx5
  intro s5 ox5 hx5o hx5b
  unfold s_l15Code_L0 at hx5o
  refine VW.sqc fun K8 hK8 hCK8 => ?_
  -- region 5
  refine VW.ws tau_ok Sound.none [some 12, some 13, some 14, some 15] [(1, .val (.recs 3 (a1.map (fun x => .agg [dM x.1, dM x.2.1, dM x.2.2])))), (2, .val (.ptr [i64 a0_0, dI a0_1])), (6, .val (i64 s5)), (15, .val (.bool (ilt s5 (a1.length : Int))))] rfl ?_ ?_
  · simp <;> simp [ieq, ilt, ile]
  refine VW.cond rfl (fun hb9 => ?_) (fun hb9 => ?_)
  rotate_left
  ·
    replace hb9 : ¬ (s5 < (a1.length : Int)) := by simpa [ieq, ilt, ile] using hb9
    rw [if_neg hb9] at hx5o
    refine VW.exit ?_
    cases hx5o
    have hq := hx5b _ rfl
    subst hq
    exact ⟨_, rfl, Fits.of rfl⟩
  replace hb9 : s5 < (a1.length : Int) := by simpa [ieq, ilt, ile] using hb9
  rw [if_pos hb9] at hx5o
  refine VW.skip ?_
  refine hK8 _ ?_
  refine VW.sqc fun K10 hK10 hCK10 => ?_
  refine VW.block ?_
  -- region 7
  obtain ⟨x17, hx17, hx5o⟩ := bind_some hx5o
  refine VW.cut [(1, .val (.recs 3 (a1.map (fun x => .agg [dM x.1, dM x.2.1, dM x.2.2])))), (2, .val (.ptr [i64 a0_0, dI a0_1])), (6, .val (i64 s5)), (45, .val (.bool x17))] ?_ fun hy => ?_
  rotate_left
  · clear hx5o
    obtain ⟨v11, hv11, hx17⟩ := bind_some hx17
    obtain ⟨hv11a, hv11b, hv11c, hv11d⟩ := idx_some hv11
    obtain ⟨v12, hv12, hx17⟩ := bind_some hx17
    by_cases hp13 : v12 = false
    · rw [if_pos hp13] at hx17
      have hp13b : v12 = false := by simpa [ieq, ilt, ile] using hp13
      have hp13s := hp13b
      try simp at hp13s
      cases hx17
      refine VW.wds tau_ok (Sound.none.add 24 (s_l14Matrix_ok hv12) rfl) try_mixed [some 18, some 19, some 20, some 21, some 22, some 23, some 24, some 25, some 26, some 27, some 28, some 29, some 30, some 31, some 32, some 33, some 34, some 35, some 36, some 37, some 38, some 39, some 40, some 41, some 42, some 43, some 44, some 45] _ 28 rfl (by kernel_rfl) (by rfl) ?_ hy
      simp [hv11a, hv11b, hv11c, hv11d, hp13b, hp13s] <;> simp [ieq, ilt, ile]
    · rw [if_neg hp13] at hx17
      have hp13b : v12 = true := by simpa [ieq, ilt, ile] using hp13
      have hp13s := hp13b
      try simp at hp13s
      obtain ⟨v14, hv14, hx17⟩ := bind_some hx17
      by_cases hp15 : v14 = false
      · rw [if_pos hp15] at hx17
        have hp15b : v14 = false := by simpa [ieq, ilt, ile] using hp15
        have hp15s := hp15b
        try simp at hp15s
        cases hx17
        refine VW.wds tau_ok ((Sound.none.add 24 (s_l14Matrix_ok hv12) rfl).add 33 (s_l14Matrix_ok hv14) rfl) try_mixed [some 18, some 19, some 20, some 21, some 22, some 23, some 24, some 25, some 26, some 27, some 28, some 29, some 30, some 31, some 32, some 33, some 34, some 35, some 36, some 37, some 38, some 39, some 40, some 41, some 42, some 43, some 44, some 45] _ 28 rfl (by kernel_rfl) (by rfl) ?_ hy
        simp [hv11a, hv11b, hv11c, hv11d, hp13b, hp13s, hp15b, hp15s] <;> simp [ieq, ilt, ile]
      · rw [if_neg hp15] at hx17
        have hp15b : v14 = true := by simpa [ieq, ilt, ile] using hp15
        have hp15s := hp15b
        try simp at hp15s
        obtain ⟨v16, hv16, hx17⟩ := bind_some hx17
        cases hx17
        refine VW.wds tau_ok (((Sound.none.add 24 (s_l14Matrix_ok hv12) rfl).add 33 (s_l14Matrix_ok hv14) rfl).add 43 (s_l14Matrix_ok hv16) rfl) try_mixed [some 18, some 19, some 20, some 21, some 22, some 23, some 24, some 25, some 26, some 27, some 28, some 29, some 30, some 31, some 32, some 33, some 34, some 35, some 36, some 37, some 38, some 39, some 40, some 41, some 42, some 43, some 44, some 45] _ 28 rfl (by kernel_rfl) (by rfl) ?_ hy
        simp [hv11a, hv11b, hv11c, hv11d, hp13b, hp13s, hp15b, hp15s] <;> simp [ieq, ilt, ile]
  refine VW.cond rfl (fun hb18 => ?_) (fun hb18 => ?_)
  rotate_left
  ·
    replace hb18 : ¬ (x17 = true) := by simpa [ieq, ilt, ile] using hb18
    rw [if_neg hb18] at hx5o
    refine VW.skip ?_
    refine hK10 _ ?_
    -- region 6
    refine VW.wr tau_ok Sound.none [some 16, some 17, some 6] [(1, .val (.recs 3 (a1.map (fun x => .agg [dM x.1, dM x.2.1, dM x.2.2])))), (2, .val (.ptr [i64 a0_0, dI a0_1])), (6, .val (i64 (w64 (s5 + 1))))] rfl ?_ ?_
    · simp <;> simp [ieq, ilt, ile]
    cases hx5o
    exact ⟨_, rfl, Fits.of rfl⟩
  replace hb18 : x17 = true := by simpa [ieq, ilt, ile] using hb18
  rw [if_pos hb18] at hx5o
  -- region 8
  refine VW.ws tau_ok Sound.none [some 4] [(4, .val (i64 2))] rfl ?_ ?_
  · simp <;> simp [ieq, ilt, ile]
  cases hx5o
  have hq := hx5b _ rfl
  subst hq
  dsimp only at h
  cases h
  refine VW.ret ?_
  simp [Post, PostM, PostC, PostC2, Nx, Bk]

theorem s_l14Column_ok {a0 : List (List Int)} {a1 : Int} {r : List Int} (h : s_l14Column a0 a1 = some r) :
    VCall Try.prog 180 [dM a0, i64 a1] [.own true (dI r)] := by
  unfold s_l14Column at h
  refine VCall.enter Try.call180 Try.func180 rfl 25 Try.ntmps180 (by simp) [.tmp 4] rfl ?_
  show VW _ _ _ (mk [(0, .val (dM a0)), (1, .val (i64 a1))]) _
  -- region 0
  refine VW.ws tau_ok Sound.none [some 4] [(0, .val (dM a0)), (1, .val (i64 a1))] rfl ?_ ?_
  · simp <;> simp [ieq, ilt, ile]
  -- region 1
  refine VW.ws tau_ok Sound.none [some 7, some 5] [(0, .val (dM a0)), (1, .val (i64 a1)), (5, .ref 5 [] true (dI []))] rfl ?_ ?_
  · simp <;> simp [ieq, ilt, ile]
  refine VW.sqc fun K1 hK1 hCK1 => ?_
  -- region 2
  refine VW.ws tau_ok Sound.none [some 6] [(0, .val (dM a0)), (1, .val (i64 a1)), (5, .ref 5 [] true (dI [])), (6, .val (i64 0))] rfl ?_ ?_
  · simp <;> simp [ieq, ilt, ile]
  obtain ⟨x2, hx2, h⟩ := bind_some h
  refine VW.tlE [(5, .ref 5 [] true (dI x2))] (hCK1) ?_ ?_
  · clear hx2
    refine hK1 _ ?_
    -- region 6
    refine VW.ws tau_ok Sound.none [some 24, some 4] [(4, .ref 4 [] true (dI x2))] rfl ?_ ?_
    · simp <;> simp [ieq, ilt, ile]
    cases h
    refine VW.ret ?_
    simp [Post, PostM, PostC, PostC2, Nx, Bk]
  refine VW.block ?_
  refine VW.loopF (s_l14Column_L0 a0 a1) (fun s2 => [(0, .val (dM a0)), (1, .val (i64 a1)), (5, .ref 5 [] true (dI s2.1)), (6, .val (i64 s2.2))]) hx2 (Fits.of rfl) ?_
  clear hx2
  intro s2 ox2 hx2o hx2b
  unfold s_l14Column_L0 at hx2o
  refine VW.sqc fun K4 hK4 hCK4 => ?_
  -- region 3
  refine VW.ws tau_ok Sound.none [some 8, some 9, some 10, some 11] [(0, .val (dM a0)), (1, .val (i64 a1)), (5, .ref 5 [] true (dI s2.1)), (6, .val (i64 s2.2)), (11, .val (.bool (ilt s2.2 (a0.length : Int))))] rfl ?_ ?_
  · simp <;> simp [ieq, ilt, ile]
  refine VW.cond rfl (fun hb5 => ?_) (fun hb5 => ?_)
  rotate_left
  ·
    replace hb5 : ¬ (s2.2 < (a0.length : Int)) := by simpa [ieq, ilt, ile] using hb5
    rw [if_neg hb5] at hx2o
    refine VW.exit ?_
    cases hx2o
    have hq := hx2b _ rfl
    subst hq
    exact Fits.of rfl
  replace hb5 : s2.2 < (a0.length : Int) := by simpa [ieq, ilt, ile] using hb5
  rw [if_pos hb5] at hx2o
  refine VW.skip ?_
  refine hK4 _ ?_
  refine VW.sqc fun K6 hK6 hCK6 => ?_
  refine VW.block ?_
  -- region 5
  obtain ⟨v7, hv7, hx2o⟩ := bind_some hx2o
  obtain ⟨hv7a, hv7b, hv7c, hv7d⟩ := idx_some hv7
  obtain ⟨v8, hv8, hx2o⟩ := bind_some hx2o
  obtain ⟨hv8a, hv8b, hv8c, hv8d⟩ := idx_some hv8
  obtain ⟨hc9, hx2o⟩ := chk_some hx2o
  have hc9s := hc9
  try simp at hc9s
  refine VW.wr tau_ok Sound.none [some 14, some 15, some 16, some 17, some 18, some 19, some 20, some 21, some 22, some 23, some 5] [(0, .val (dM a0)), (1, .val (i64 a1)), (5, .ref 5 [] true (dI (s2.1 ++ [v8]))), (6, .val (i64 s2.2))] rfl ?_ ?_
  · simp [hv7a, hv7b, hv7c, hv7d, hv8a, hv8b, hv8c, hv8d, hc9, hc9s] <;> simp [ieq, ilt, ile]
  refine hK6 _ ?_
  -- region 4
  refine VW.wr tau_ok Sound.none [some 12, some 13, some 6] [(0, .val (dM a0)), (1, .val (i64 a1)), (5, .ref 5 [] true (dI (s2.1 ++ [v8]))), (6, .val (i64 (w64 (s2.2 + 1))))] rfl ?_ ?_
  · simp <;> simp [ieq, ilt, ile]
  cases hx2o
  exact ⟨_, rfl, Fits.of rfl⟩

theorem s_l01Mod_ok {a0 : Int} {a1 : Int} {r : Int} (h : s_l01Mod a0 a1 = some r) :
    VCall Try.prog 191 [i64 a0, i64 a1] [.sc (i64 r)] := by
  unfold s_l01Mod at h
  refine VCall.enter Try.call191 Try.func191 rfl 12 Try.ntmps191 (by simp) [.tmp 4] rfl ?_
  show VW _ _ _ (mk [(0, .val (i64 a0)), (1, .val (i64 a1))]) _
  -- region 0
  refine VW.ws tau_ok Sound.none [some 4] [(0, .val (i64 a0)), (1, .val (i64 a1))] rfl ?_ ?_
  · simp <;> simp [ieq, ilt, ile]
  -- region 1
  obtain ⟨hc1, h⟩ := chk_some h
  have hc1s := hc1
  try simp at hc1s
  obtain ⟨hc2, h⟩ := chk_some h
  have hc2s := hc2
  try simp at hc2s
  refine VW.ws tau_ok Sound.none [some 5, some 6, some 7, some 8, some 9, some 10, some 11, some 4] [(4, .val (i64 ((w64 ((a1.tmod a0) + a0)).tmod a0)))] rfl ?_ ?_
  · simp [hc1, hc1s, hc2, hc2s] <;> simp [ieq, ilt, ile]
  cases h
  refine VW.ret ?_
  simp [Post, PostM, PostC, PostC2, Nx, Bk]

theorem s_l14Apply_ok {a0 : Int} {a1 : List (List Int)} {a2 : List Int} {r : List Int} (h : s_l14Apply a0 a1 a2 = some r) :
    VCall Try.prog 229 [i64 a0, dM a1, dI a2] [.own true (dI r)] := by
  unfold s_l14Apply at h
  refine VCall.enter Try.call229 Try.func229 rfl 45 Try.ntmps229 (by simp) [.tmp 6] rfl ?_
  show VW _ _ _ (mk [(0, .val (i64 a0)), (1, .val (dM a1)), (2, .val (dI a2))]) _
  -- region 0
  refine VW.ws tau_ok Sound.none [some 6] [(0, .val (i64 a0)), (1, .val (dM a1)), (2, .val (dI a2))] rfl ?_ ?_
  · simp <;> simp [ieq, ilt, ile]
  -- region 1
  refine VW.ws tau_ok Sound.none [some 11, some 7] [(0, .val (i64 a0)), (1, .val (dM a1)), (2, .val (dI a2)), (7, .ref 7 [] true (dI []))] rfl ?_ ?_
  · simp <;> simp [ieq, ilt, ile]
  refine VW.sqc fun K1 hK1 hCK1 => ?_
  -- region 2
  refine VW.ws tau_ok Sound.none [some 8] [(0, .val (i64 a0)), (1, .val (dM a1)), (2, .val (dI a2)), (7, .ref 7 [] true (dI [])), (8, .val (i64 0))] rfl ?_ ?_
  · simp <;> simp [ieq, ilt, ile]
  obtain ⟨x2, hx2, h⟩ := bind_some h
  refine VW.tlE [(7, .ref 7 [] true (dI x2))] (hCK1) ?_ ?_
  · clear hx2
    refine hK1 _ ?_
    -- region 11
    refine VW.ws tau_ok Sound.none [some 44, some 6] [(6, .ref 6 [] true (dI x2))] rfl ?_ ?_
    · simp <;> simp [ieq, ilt, ile]
    cases h
    refine VW.ret ?_
    simp [Post, PostM, PostC, PostC2, Nx, Bk]
  refine VW.block ?_
  refine VW.loopF (s_l14Apply_L0 a0 a1 a2) (fun s2 => [(0, .val (i64 a0)), (1, .val (dM a1)), (2, .val (dI a2)), (7, .ref 7 [] true (dI s2.1)), (8, .val (i64 s2.2))]) hx2 (Fits.of rfl) ?_
  clear hx2
  intro s2 ox2 hx2o hx2b
  unfold s_l14Apply_L0 at hx2o
  refine VW.sqc fun K4 hK4 hCK4 => ?_
  -- region 3
  refine VW.ws tau_ok Sound.none [some 12, some 13, some 14, some 15] [(0, .val (i64 a0)), (1, .val (dM a1)), (2, .val (dI a2)), (7, .ref 7 [] true (dI s2.1)), (8, .val (i64 s2.2)), (15, .val (.bool (ilt s2.2 (a1.length : Int))))] rfl ?_ ?_
  · simp <;> simp [ieq, ilt, ile]
  refine VW.cond rfl (fun hb5 => ?_) (fun hb5 => ?_)
  rotate_left
  ·
    replace hb5 : ¬ (s2.2 < (a1.length : Int)) := by simpa [ieq, ilt, ile] using hb5
    rw [if_neg hb5] at hx2o
    refine VW.exit ?_
    cases hx2o
    have hq := hx2b _ rfl
    subst hq
    exact Fits.of rfl
  replace hb5 : s2.2 < (a1.length : Int) := by simpa [ieq, ilt, ile] using hb5
  rw [if_pos hb5] at hx2o
  refine VW.skip ?_
  refine hK4 _ ?_
  refine VW.sqc fun K6 hK6 hCK6 => ?_
  refine VW.block ?_
  -- region 5
  refine VW.ws tau_ok Sound.none [some 9] [(0, .val (i64 a0)), (1, .val (dM a1)), (2, .val (dI a2)), (7, .ref 7 [] true (dI s2.1)), (8, .val (i64 s2.2)), (9, .val (i64 0))] rfl ?_ ?_
  · simp <;> simp [ieq, ilt, ile]
  refine VW.sqc fun K7 hK7 hCK7 => ?_
  -- region 6
  refine VW.ws tau_ok Sound.none [some 10] [(0, .val (i64 a0)), (1, .val (dM a1)), (2, .val (dI a2)), (7, .ref 7 [] true (dI s2.1)), (8, .val (i64 s2.2)), (9, .val (i64 0)), (10, .val (i64 0))] rfl ?_ ?_
  · simp <;> simp [ieq, ilt, ile]
  obtain ⟨x8, hx8, hx2o⟩ := bind_some hx2o
  refine VW.tlE [(0, .val (i64 a0)), (1, .val (dM a1)), (2, .val (dI a2)), (7, .ref 7 [] true (dI s2.1)), (8, .val (i64 s2.2)), (9, .val (i64 x8))] (hCK7) ?_ ?_
  · clear hx8
    refine hK7 _ ?_
    -- region 10
    obtain ⟨v16, hv16, hx2o⟩ := bind_some hx2o
    obtain ⟨hc17, hx2o⟩ := chk_some hx2o
    have hc17s := hc17
    try simp at hc17s
    refine VW.wr tau_ok (Sound.none.add 41 (s_l01Mod_ok hv16) rfl) [some 38, some 39, some 40, some 41, some 42, some 43, some 7] [(0, .val (i64 a0)), (1, .val (dM a1)), (2, .val (dI a2)), (7, .ref 7 [] true (dI (s2.1 ++ [v16]))), (8, .val (i64 s2.2))] rfl ?_ ?_
    · simp [hc17, hc17s] <;> simp [ieq, ilt, ile]
    refine hK6 _ ?_
    -- region 4
    refine VW.wr tau_ok Sound.none [some 16, some 17, some 8] [(0, .val (i64 a0)), (1, .val (dM a1)), (2, .val (dI a2)), (7, .ref 7 [] true (dI (s2.1 ++ [v16]))), (8, .val (i64 (w64 (s2.2 + 1))))] rfl ?_ ?_
    · simp <;> simp [ieq, ilt, ile]
    cases hx2o
    exact ⟨_, rfl, Fits.of rfl⟩
  refine VW.block ?_
  refine VW.loopF (s_l14Apply_L1 a1 a2 s2) (fun s8 => [(0, .val (i64 a0)), (1, .val (dM a1)), (2, .val (dI a2)), (7, .ref 7 [] true (dI s2.1)), (8, .val (i64 s2.2)), (9, .val (i64 s8.1)), (10, .val (i64 s8.2))]) hx8 (Fits.of rfl) ?_
  clear hx8
  intro s8 ox8 hx8o hx8b
  unfold s_l14Apply_L1 at hx8o
  refine VW.sqc fun K10 hK10 hCK10 => ?_
  -- region 7
  refine VW.ws tau_ok Sound.none [some 18, some 19, some 20, some 21] [(0, .val (i64 a0)), (1, .val (dM a1)), (2, .val (dI a2)), (7, .ref 7 [] true (dI s2.1)), (8, .val (i64 s2.2)), (9, .val (i64 s8.1)), (10, .val (i64 s8.2)), (21, .val (.bool (ilt s8.2 (a2.length : Int))))] rfl ?_ ?_
  · simp <;> simp [ieq, ilt, ile]
  refine VW.cond rfl (fun hb11 => ?_) (fun hb11 => ?_)
  rotate_left
  ·
    replace hb11 : ¬ (s8.2 < (a2.length : Int)) := by simpa [ieq, ilt, ile] using hb11
    rw [if_neg hb11] at hx8o
    refine VW.exit ?_
    cases hx8o
    have hq := hx8b _ rfl
    subst hq
    exact Fits.of rfl
  replace hb11 : s8.2 < (a2.length : Int) := by simpa [ieq, ilt, ile] using hb11
  rw [if_pos hb11] at hx8o
  refine VW.skip ?_
  refine hK10 _ ?_
  refine VW.sqc fun K12 hK12 hCK12 => ?_
  refine VW.block ?_
  -- region 9
  obtain ⟨v13, hv13, hx8o⟩ := bind_some hx8o
  obtain ⟨hv13a, hv13b, hv13c, hv13d⟩ := idx_some hv13
  obtain ⟨v14, hv14, hx8o⟩ := bind_some hx8o
  obtain ⟨hv14a, hv14b, hv14c, hv14d⟩ := idx_some hv14
  obtain ⟨v15, hv15, hx8o⟩ := bind_some hx8o
  obtain ⟨hv15a, hv15b, hv15c, hv15d⟩ := idx_some hv15
  refine VW.wdr tau_ok Sound.none try_mixed [some 24, some 25, some 26, some 27, some 28, some 29, some 30, some 31, some 32, some 33, some 34, some 35, some 36, some 37, some 9] [(0, .val (i64 a0)), (1, .val (dM a1)), (2, .val (dI a2)), (7, .ref 7 [] true (dI s2.1)), (8, .val (i64 s2.2)), (9, .val (i64 (w64 (s8.1 + (w64 (v14 * v15)))))), (10, .val (i64 s8.2))] 15 rfl (by kernel_rfl) (by rfl) ?_ ?_
  · simp [hv13a, hv13b, hv13c, hv13d, hv14a, hv14b, hv14c, hv14d, hv15a, hv15b, hv15c, hv15d] <;> simp [ieq, ilt, ile]
  refine hK12 _ ?_
  -- region 8
  refine VW.wr tau_ok Sound.none [some 22, some 23, some 10] [(0, .val (i64 a0)), (1, .val (dM a1)), (2, .val (dI a2)), (7, .ref 7 [] true (dI s2.1)), (8, .val (i64 s2.2)), (9, .val (i64 (w64 (s8.1 + (w64 (v14 * v15)))))), (10, .val (i64 (w64 (s8.2 + 1))))] rfl ?_ ?_
  · simp <;> simp [ieq, ilt, ile]
  cases hx8o
  exact ⟨_, rfl, Fits.of rfl⟩

theorem s_l11Columns_ok {a0 : List (List Int)} {r : List (List Int)} (h : s_l11Columns a0 = some r) :
    VCall Try.prog 105 [dM a0] [.own true (dM r)] := by
  unfold s_l11Columns at h
  refine VCall.enter Try.call105 Try.func105 rfl 36 Try.ntmps105 (by simp) [.tmp 2] rfl ?_
  show VW _ _ _ (mk [(0, .val (dM a0))]) _
  -- region 0
  refine VW.ws tau_ok Sound.none [some 2] [(0, .val (dM a0))] rfl ?_ ?_
  · simp <;> simp [ieq, ilt, ile]
  -- region 1
  refine VW.ws tau_ok Sound.none [some 7, some 3] [(0, .val (dM a0)), (3, .ref 3 [] true (dM []))] rfl ?_ ?_
  · simp <;> simp [ieq, ilt, ile]
  refine VW.sqc fun K1 hK1 hCK1 => ?_
  -- region 2
  refine VW.ws tau_ok Sound.none [some 4] [(0, .val (dM a0)), (3, .ref 3 [] true (dM [])), (4, .val (i64 0))] rfl ?_ ?_
  · simp <;> simp [ieq, ilt, ile]
  obtain ⟨x2, hx2, h⟩ := bind_some h
  refine VW.tlE [(3, .ref 3 [] true (dM x2))] (hCK1) ?_ ?_
  · clear hx2
    refine hK1 _ ?_
    -- region 11
    refine VW.ws tau_ok Sound.none [some 35, some 2] [(2, .ref 2 [] true (dM x2))] rfl ?_ ?_
    · simp <;> simp [ieq, ilt, ile]
    cases h
    refine VW.ret ?_
    simp [Post, PostM, PostC, PostC2, Nx, Bk]
  refine VW.block ?_
  refine VW.loopF (s_l11Columns_L0 a0) (fun s2 => [(0, .val (dM a0)), (3, .ref 3 [] true (dM s2.1)), (4, .val (i64 s2.2))]) hx2 (Fits.of rfl) ?_
  clear hx2
  intro s2 ox2 hx2o hx2b
  unfold s_l11Columns_L0 at hx2o
  refine VW.sqc fun K4 hK4 hCK4 => ?_
  -- region 3
  refine VW.ws tau_ok Sound.none [some 8, some 9, some 10, some 11] [(0, .val (dM a0)), (3, .ref 3 [] true (dM s2.1)), (4, .val (i64 s2.2)), (11, .val (.bool (ilt s2.2 (a0.length : Int))))] rfl ?_ ?_
  · simp <;> simp [ieq, ilt, ile]
  refine VW.cond rfl (fun hb5 => ?_) (fun hb5 => ?_)
  rotate_left
  ·
    replace hb5 : ¬ (s2.2 < (a0.length : Int)) := by simpa [ieq, ilt, ile] using hb5
    rw [if_neg hb5] at hx2o
    refine VW.exit ?_
    cases hx2o
    have hq := hx2b _ rfl
    subst hq
    exact Fits.of rfl
  replace hb5 : s2.2 < (a0.length : Int) := by simpa [ieq, ilt, ile] using hb5
  rw [if_pos hb5] at hx2o
  refine VW.skip ?_
  refine hK4 _ ?_
  refine VW.sqc fun K6 hK6 hCK6 => ?_
  refine VW.block ?_
  -- region 5
  refine VW.ws tau_ok Sound.none [some 14, some 5] [(0, .val (dM a0)), (3, .ref 3 [] true (dM s2.1)), (4, .val (i64 s2.2)), (5, .ref 5 [] true (dI []))] rfl ?_ ?_
  · simp <;> simp [ieq, ilt, ile]
  refine VW.sqc fun K7 hK7 hCK7 => ?_
  -- region 6
  refine VW.ws tau_ok Sound.none [some 6] [(0, .val (dM a0)), (3, .ref 3 [] true (dM s2.1)), (4, .val (i64 s2.2)), (5, .ref 5 [] true (dI [])), (6, .val (i64 0))] rfl ?_ ?_
  · simp <;> simp [ieq, ilt, ile]
  obtain ⟨x8, hx8, hx2o⟩ := bind_some hx2o
  refine VW.tlE [(0, .val (dM a0)), (3, .ref 3 [] true (dM s2.1)), (4, .val (i64 s2.2)), (5, .ref 5 [] true (dI x8))] (hCK7) ?_ ?_
  · clear hx8
    refine hK7 _ ?_
    -- region 10
    obtain ⟨hc16, hx2o⟩ := chk_some hx2o
    have hc16s := hc16
    try simp at hc16s
    refine VW.wr tau_ok Sound.none [some 31, some 32, some 33, some 34, some 3] [(0, .val (dM a0)), (3, .ref 3 [] true (dM (s2.1 ++ [x8]))), (4, .val (i64 s2.2))] rfl ?_ ?_
    · simp [hc16, hc16s] <;> simp [ieq, ilt, ile]
    refine hK6 _ ?_
    -- region 4
    refine VW.wr tau_ok Sound.none [some 12, some 13, some 4] [(0, .val (dM a0)), (3, .ref 3 [] true (dM (s2.1 ++ [x8]))), (4, .val (i64 (w64 (s2.2 + 1))))] rfl ?_ ?_
    · simp <;> simp [ieq, ilt, ile]
    cases hx2o
    exact ⟨_, rfl, Fits.of rfl⟩
  refine VW.block ?_
  refine VW.loopF (s_l11Columns_L1 a0 s2) (fun s8 => [(0, .val (dM a0)), (3, .ref 3 [] true (dM s2.1)), (4, .val (i64 s2.2)), (5, .ref 5 [] true (dI s8.1)), (6, .val (i64 s8.2))]) hx8 (Fits.of rfl) ?_
  clear hx8
  intro s8 ox8 hx8o hx8b
  unfold s_l11Columns_L1 at hx8o
  refine VW.sqc fun K10 hK10 hCK10 => ?_
  -- region 7
  refine VW.ws tau_ok Sound.none [some 15, some 16, some 17, some 18] [(0, .val (dM a0)), (3, .ref 3 [] true (dM s2.1)), (4, .val (i64 s2.2)), (5, .ref 5 [] true (dI s8.1)), (6, .val (i64 s8.2)), (18, .val (.bool (ilt s8.2 (a0.length : Int))))] rfl ?_ ?_
  · simp <;> simp [ieq, ilt, ile]
  refine VW.cond rfl (fun hb11 => ?_) (fun hb11 => ?_)
  rotate_left
  ·
    replace hb11 : ¬ (s8.2 < (a0.length : Int)) := by simpa [ieq, ilt, ile] using hb11
    rw [if_neg hb11] at hx8o
    refine VW.exit ?_
    cases hx8o
    have hq := hx8b _ rfl
    subst hq
    exact Fits.of rfl
  replace hb11 : s8.2 < (a0.length : Int) := by simpa [ieq, ilt, ile] using hb11
  rw [if_pos hb11] at hx8o
  refine VW.skip ?_
  refine hK10 _ ?_
  refine VW.sqc fun K12 hK12 hCK12 => ?_
  refine VW.block ?_
  -- region 9
  obtain ⟨v13, hv13, hx8o⟩ := bind_some hx8o
  obtain ⟨hv13a, hv13b, hv13c, hv13d⟩ := idx_some hv13
  obtain ⟨v14, hv14, hx8o⟩ := bind_some hx8o
  obtain ⟨hv14a, hv14b, hv14c, hv14d⟩ := idx_some hv14
  obtain ⟨hc15, hx8o⟩ := chk_some hx8o
  have hc15s := hc15
  try simp at hc15s
  refine VW.wr tau_ok Sound.none [some 21, some 22, some 23, some 24, some 25, some 26, some 27, some 28, some 29, some 30, some 5] [(0, .val (dM a0)), (3, .ref 3 [] true (dM s2.1)), (4, .val (i64 s2.2)), (5, .ref 5 [] true (dI (s8.1 ++ [v14]))), (6, .val (i64 s8.2))] rfl ?_ ?_
  · simp [hv13a, hv13b, hv13c, hv13d, hv14a, hv14b, hv14c, hv14d, hc15, hc15s] <;> simp [ieq, ilt, ile]
  refine hK12 _ ?_
  -- region 8
  refine VW.wr tau_ok Sound.none [some 19, some 20, some 6] [(0, .val (dM a0)), (3, .ref 3 [] true (dM s2.1)), (4, .val (i64 s2.2)), (5, .ref 5 [] true (dI (s8.1 ++ [v14]))), (6, .val (i64 (w64 (s8.2 + 1))))] rfl ?_ ?_
  · simp <;> simp [ieq, ilt, ile]
  cases hx8o
  exact ⟨_, rfl, Fits.of rfl⟩

theorem s_l14Times_ok {a0 : Int} {a1 : List (List Int)} {a2 : List (List Int)} {r : List (List Int)} (h : s_l14Times a0 a1 a2 = some r) :
    VCall Try.prog 189 [i64 a0, dM a1, dM a2] [.own true (dM r)] := by
  unfold s_l14Times at h
  refine VCall.enter Try.call189 Try.func189 rfl 27 Try.ntmps189 (by simp) [.tmp 6] rfl ?_
  show VW _ _ _ (mk [(0, .val (i64 a0)), (1, .val (dM a1)), (2, .val (dM a2))]) _
  -- region 0
  refine VW.ws tau_ok Sound.none [some 6] [(0, .val (i64 a0)), (1, .val (dM a1)), (2, .val (dM a2))] rfl ?_ ?_
  · simp <;> simp [ieq, ilt, ile]
  -- region 1
  refine VW.ws tau_ok Sound.none [some 9, some 7] [(0, .val (i64 a0)), (1, .val (dM a1)), (2, .val (dM a2)), (7, .ref 7 [] true (dM []))] rfl ?_ ?_
  · simp <;> simp [ieq, ilt, ile]
  refine VW.sqc fun K1 hK1 hCK1 => ?_
  -- region 2
  refine VW.ws tau_ok Sound.none [some 8] [(0, .val (i64 a0)), (1, .val (dM a1)), (2, .val (dM a2)), (7, .ref 7 [] true (dM [])), (8, .val (i64 0))] rfl ?_ ?_
  · simp <;> simp [ieq, ilt, ile]
  obtain ⟨x2, hx2, h⟩ := bind_some h
  refine VW.tlE [(7, .ref 7 [] true (dM x2))] (hCK1) ?_ ?_
  · clear hx2
    refine hK1 _ ?_
    -- region 6
    obtain ⟨v10, hv10, h⟩ := bind_some h
    refine VW.ws tau_ok (Sound.none.add 26 (s_l11Columns_ok hv10) rfl) [some 25, some 26, some 6] [(6, .ref 6 [] true (dM v10))] rfl ?_ ?_
    · simp <;> simp [ieq, ilt, ile]
    cases h
    refine VW.ret ?_
    simp [Post, PostM, PostC, PostC2, Nx, Bk]
  refine VW.block ?_
  refine VW.loopF (s_l14Times_L0 a0 a1 a2) (fun s2 => [(0, .val (i64 a0)), (1, .val (dM a1)), (2, .val (dM a2)), (7, .ref 7 [] true (dM s2.1)), (8, .val (i64 s2.2))]) hx2 (Fits.of rfl) ?_
  clear hx2
  intro s2 ox2 hx2o hx2b
  unfold s_l14Times_L0 at hx2o
  refine VW.sqc fun K4 hK4 hCK4 => ?_
  -- region 3
  refine VW.ws tau_ok Sound.none [some 10, some 11, some 12, some 13] [(0, .val (i64 a0)), (1, .val (dM a1)), (2, .val (dM a2)), (7, .ref 7 [] true (dM s2.1)), (8, .val (i64 s2.2)), (13, .val (.bool (ilt s2.2 (a2.length : Int))))] rfl ?_ ?_
  · simp <;> simp [ieq, ilt, ile]
  refine VW.cond rfl (fun hb5 => ?_) (fun hb5 => ?_)
  rotate_left
  ·
    replace hb5 : ¬ (s2.2 < (a2.length : Int)) := by simpa [ieq, ilt, ile] using hb5
    rw [if_neg hb5] at hx2o
    refine VW.exit ?_
    cases hx2o
    have hq := hx2b _ rfl
    subst hq
    exact Fits.of rfl
  replace hb5 : s2.2 < (a2.length : Int) := by simpa [ieq, ilt, ile] using hb5
  rw [if_pos hb5] at hx2o
  refine VW.skip ?_
  refine hK4 _ ?_
  refine VW.sqc fun K6 hK6 hCK6 => ?_
  refine VW.block ?_
  -- region 5
  obtain ⟨v7, hv7, hx2o⟩ := bind_some hx2o
  obtain ⟨v8, hv8, hx2o⟩ := bind_some hx2o
  obtain ⟨hc9, hx2o⟩ := chk_some hx2o
  have hc9s := hc9
  try simp at hc9s
  refine VW.wr tau_ok ((Sound.none.add 21 (s_l14Column_ok hv7) rfl).add 22 (s_l14Apply_ok hv8) rfl) [some 16, some 17, some 18, some 19, some 20, some 21, some 22, some 23, some 24, some 7] [(0, .val (i64 a0)), (1, .val (dM a1)), (2, .val (dM a2)), (7, .ref 7 [] true (dM (s2.1 ++ [v8]))), (8, .val (i64 s2.2))] rfl ?_ ?_
  · simp [hc9, hc9s] <;> simp [ieq, ilt, ile]
  refine hK6 _ ?_
  -- region 4
  refine VW.wr tau_ok Sound.none [some 14, some 15, some 8] [(0, .val (i64 a0)), (1, .val (dM a1)), (2, .val (dM a2)), (7, .ref 7 [] true (dM (s2.1 ++ [v8]))), (8, .val (i64 (w64 (s2.2 + 1))))] rfl ?_ ?_
  · simp <;> simp [ieq, ilt, ile]
  cases hx2o
  exact ⟨_, rfl, Fits.of rfl⟩

theorem s_l15Times_ok {a0 : Int} {a1_0 : List (List Int)} {a1_1 : List (List Int)} {a1_2 : List (List Int)} {a2_0 : List (List Int)} {a2_1 : List (List Int)} {a2_2 : List (List Int)} {r : (List (List Int)) × (List (List Int)) × (List (List Int))} (h : s_l15Times a0 a1_0 a1_1 a1_2 a2_0 a2_1 a2_2 = some r) :
    VCall Try.prog 93 [i64 a0, .agg [dM a1_0, dM a1_1, dM a1_2], .agg [dM a2_0, dM a2_1, dM a2_2]] [.own true (.agg [dM r.1, dM r.2.1, dM r.2.2])] := by
  unfold s_l15Times at h
  refine VCall.enterC Try.call93 Try.func93 rfl 26 Try.ntmps93 (by simp) (tau_ok 39) 6 rfl ?_
  show VW _ _ _ (mk [(0, .val (i64 a0)), (1, .val (.agg [dM a1_0, dM a1_1, dM a1_2])), (2, .val (.agg [dM a2_0, dM a2_1, dM a2_2]))]) _
  -- region 0
  refine VW.ws tau_ok Sound.none [some 4, some 5, some 6] [(0, .val (i64 a0)), (4, .val (.ptr [dM a1_0, dM a1_1, dM a1_2])), (5, .val (.ptr [dM a2_0, dM a2_1, dM a2_2])), (6, .ref 6 [] true (.ptr [dM [], dM [], dM []]))] rfl ?_ ?_
  · simp <;> simp [ieq, ilt, ile]
  -- region 1
  obtain ⟨v1, hv1, h⟩ := bind_some h
  obtain ⟨v2, hv2, h⟩ := bind_some h
  obtain ⟨v3, hv3, h⟩ := bind_some h
  refine VW.wds tau_ok (((Sound.none.add 12 (s_l14Times_ok hv1) rfl).add 18 (s_l14Times_ok hv2) rfl).add 24 (s_l14Times_ok hv3) rfl) try_mixed [some 7, some 8, some 9, some 10, some 11, some 12, some 13, some 14, some 15, some 16, some 17, some 18, some 19, some 20, some 21, some 22, some 23, some 24, some 25, none] [(6, .ref 6 [] true (.ptr [dM v1, dM v2, dM v3]))] 18 rfl (by kernel_rfl) (by rfl) ?_ ?_
  · simp <;> simp [ieq, ilt, ile]
  cases h
  refine VW.ret ?_
  simp [Post, PostM, PostC, PostC2, Nx, Bk]

theorem s_TimesTriple_ok {a0_0 : Int} {a0_1 : List Int} {a1_0 : List (List Int)} {a1_1 : List (List Int)} {a1_2 : List (List Int)} {a2_0 : List (List Int)} {a2_1 : List (List Int)} {a2_2 : List (List Int)} {r : ((List (List Int)) × (List (List Int)) × (List (List Int))) × Int} (h : s_TimesTriple a0_0 a0_1 a1_0 a1_1 a1_2 a2_0 a2_1 a2_2 = some r) :
    VCall Try.prog 24 [.agg [i64 a0_0, dI a0_1], .agg [dM a1_0, dM a1_1, dM a1_2], .agg [dM a2_0, dM a2_1, dM a2_2]] [.own true (.agg [dM r.1.1, dM r.1.2.1, dM r.1.2.2]), .sc (i64 r.2)] := by
  unfold s_TimesTriple at h
  refine VCall.enterC2 Try.call24 Try.func24 rfl 23 Try.ntmps24 (by simp) (tau_ok 39) 6 7 rfl ?_
  show VW _ _ _ (mk [(0, .val (.agg [i64 a0_0, dI a0_1])), (1, .val (.agg [dM a1_0, dM a1_1, dM a1_2])), (2, .val (.agg [dM a2_0, dM a2_1, dM a2_2]))]) _
  -- region 0
  refine VW.ws tau_ok Sound.none [some 3, some 4, some 5, some 6, some 7] [(3, .val (.ptr [i64 a0_0, dI a0_1])), (4, .val (.ptr [dM a1_0, dM a1_1, dM a1_2])), (5, .val (.ptr [dM a2_0, dM a2_1, dM a2_2])), (6, .ref 6 [] true (.ptr [dM [], dM [], dM []]))] rfl ?_ ?_
  · simp <;> simp [ieq, ilt, ile]
  refine VW.sqc fun K1 hK1 hCK1 => ?_
  -- region 1
  obtain ⟨v2, hv2, h⟩ := bind_some h
  refine VW.ws tau_ok (Sound.none.add 13 (s_l15Code_ok hv2) rfl) [some 9, some 10, some 11, some 12, some 13, some 8] [(3, .val (.ptr [i64 a0_0, dI a0_1])), (4, .val (.ptr [dM a1_0, dM a1_1, dM a1_2])), (5, .val (.ptr [dM a2_0, dM a2_1, dM a2_2])), (6, .ref 6 [] true (.ptr [dM [], dM [], dM []])), (8, .val (i64 v2))] rfl ?_ ?_
  · simp <;> simp [ieq, ilt, ile]
  -- region 2
  refine VW.ws tau_ok Sound.none [some 14, some 15] [(3, .val (.ptr [i64 a0_0, dI a0_1])), (4, .val (.ptr [dM a1_0, dM a1_1, dM a1_2])), (5, .val (.ptr [dM a2_0, dM a2_1, dM a2_2])), (6, .ref 6 [] true (.ptr [dM [], dM [], dM []])), (8, .val (i64 v2)), (15, .val (.bool (!(ieq v2 0))))] rfl ?_ ?_
  · simp <;> simp [ieq, ilt, ile]
  refine VW.cond rfl (fun hb3 => ?_) (fun hb3 => ?_)
  ·
    replace hb3 : ¬ v2 = 0 := by simpa [ieq, ilt, ile] using hb3
    rw [if_pos hb3] at h
    -- region 3
    refine VW.ws tau_ok Sound.none [some 16, some 17, none, some 7] [(6, .ref 6 [] true (.ptr [dM [], dM [], dM []])), (7, .val (i64 v2))] rfl ?_ ?_
    · simp <;> simp [ieq, ilt, ile]
    cases h
    refine VW.ret ?_
    simp [Post, PostM, PostC, PostC2, Nx, Bk]
  replace hb3 : ¬ (¬ v2 = 0) := by simpa [ieq, ilt, ile] using hb3
  rw [if_neg hb3] at h
  refine VW.skip ?_
  refine hK1 _ ?_
  -- region 4
  obtain ⟨v4, hv4, h⟩ := bind_some h
  refine VW.ws tau_ok (Sound.none.add 22 (s_l15Times_ok hv4) rfl) [some 18, some 19, some 20, some 21, some 22, none, some 7] [(6, .ref 6 [] true (.ptr [dM v4.1, dM v4.2.1, dM v4.2.2])), (7, .val (i64 0))] rfl ?_ ?_
  · simp <;> simp [ieq, ilt, ile]
  cases h
  refine VW.ret ?_
  simp [Post, PostM, PostC, PostC2, Nx, Bk]

theorem i_IsPrime_ok {a0 : Int} {r : Bool} (h : i_IsPrime a0 = some r) :
    VCall Try.prog 120 [i64 a0] [.sc (.bool r)] := by
  unfold i_IsPrime at h
  refine VCall.enter Try.call120 Try.func120 rfl 10 Try.ntmps120 (by simp) [.tmp 2] rfl ?_
  show VW _ _ _ (mk [(0, .val (i64 a0))]) _
  -- region 0
  refine VW.ws tau_ok Sound.none [some 2] [(0, .val (i64 a0))] rfl ?_ ?_
  · simp <;> simp [ieq, ilt, ile]
  refine VW.sqc fun K1 hK1 hCK1 => ?_
  -- region 1
  refine VW.ws tau_ok Sound.none [some 3] [(3, .val (i64 a0))] rfl ?_ ?_
  · simp <;> simp [ieq, ilt, ile]
  refine VW.block ?_
  refine VW.sqc fun K2 hK2 hCK2 => ?_
  -- region 2
  refine VW.ws tau_ok Sound.none [some 5, some 4] [(3, .val (i64 a0)), (4, .val (.bool (ieq a0 3)))] rfl ?_ ?_
  · simp <;> simp [ieq, ilt, ile]
  obtain ⟨x3, hx3, h⟩ := bind_some h
  refine VW.tlE [(4, .val (.bool x3))] (hCK2) ?_ ?_
  · clear hx3
    refine hK2 _ ?_
    refine VW.cond rfl (fun hb9 => ?_) (fun hb9 => ?_)
    ·
      replace hb9 : x3 = true := by simpa [ieq, ilt, ile] using hb9
      rw [if_pos hb9] at h
      -- region 7
      refine VW.ws tau_ok Sound.none [some 2] [(2, .val (.bool true))] rfl ?_ ?_
      · simp <;> simp [ieq, ilt, ile]
      cases h
      refine VW.ret ?_
      simp [Post, PostM, PostC, PostC2, Nx, Bk]
    replace hb9 : ¬ (x3 = true) := by simpa [ieq, ilt, ile] using hb9
    rw [if_neg hb9] at h
    refine VW.skip ?_
    refine hK1 _ ?_
    -- region 8
    refine VW.ws tau_ok Sound.none [some 2] [(2, .val (.bool false))] rfl ?_ ?_
    · simp <;> simp [ieq, ilt, ile]
    cases h
    refine VW.ret ?_
    simp [Post, PostM, PostC, PostC2, Nx, Bk]
  refine VW.cond rfl (fun hb5 => ?_) (fun hb5 => ?_)
  ·
    replace hb5 : a0 = 3 := by simpa [ieq, ilt, ile] using hb5
    rw [if_pos hb5] at hx3
    refine VW.skip ?_
    cases hx3
    exact Fits.of rfl
  replace hb5 : ¬ (a0 = 3) := by simpa [ieq, ilt, ile] using hb5
  rw [if_neg hb5] at hx3
  -- region 3
  refine VW.ws tau_ok Sound.none [some 6, some 4] [(3, .val (i64 a0)), (4, .val (.bool (ieq a0 5)))] rfl ?_ ?_
  · simp <;> simp [ieq, ilt, ile]
  refine VW.cond rfl (fun hb6 => ?_) (fun hb6 => ?_)
  ·
    replace hb6 : a0 = 5 := by simpa [ieq, ilt, ile] using hb6
    rw [if_pos hb6] at hx3
    refine VW.skip ?_
    cases hx3
    exact Fits.of rfl
  replace hb6 : ¬ (a0 = 5) := by simpa [ieq, ilt, ile] using hb6
  rw [if_neg hb6] at hx3
  -- region 4
  refine VW.ws tau_ok Sound.none [some 7, some 4] [(3, .val (i64 a0)), (4, .val (.bool (ieq a0 7)))] rfl ?_ ?_
  · simp <;> simp [ieq, ilt, ile]
  refine VW.cond rfl (fun hb7 => ?_) (fun hb7 => ?_)
  ·
    replace hb7 : a0 = 7 := by simpa [ieq, ilt, ile] using hb7
    rw [if_pos hb7] at hx3
    refine VW.skip ?_
    cases hx3
    exact Fits.of rfl
  replace hb7 : ¬ (a0 = 7) := by simpa [ieq, ilt, ile] using hb7
  rw [if_neg hb7] at hx3
  -- region 5
  refine VW.ws tau_ok Sound.none [some 8, some 4] [(3, .val (i64 a0)), (4, .val (.bool (ieq a0 11)))] rfl ?_ ?_
  · simp <;> simp [ieq, ilt, ile]
  refine VW.cond rfl (fun hb8 => ?_) (fun hb8 => ?_)
  ·
    replace hb8 : a0 = 11 := by simpa [ieq, ilt, ile] using hb8
    rw [if_pos hb8] at hx3
    refine VW.skip ?_
    cases hx3
    exact Fits.of rfl
  replace hb8 : ¬ (a0 = 11) := by simpa [ieq, ilt, ile] using hb8
  rw [if_neg hb8] at hx3
  -- region 6
  refine VW.wr tau_ok Sound.none [some 9, some 4] [(4, .val (.bool (ieq a0 13)))] rfl ?_ ?_
  · simp <;> simp [ieq, ilt, ile]
  cases hx3
  exact Fits.of rfl

theorem i_Doubling_field_ok {a0_0 : Int} {a0_1 : List Int} {r : Int} (h : i_Doubling_field a0_0 a0_1 = some r) :
    VCall Try.prog 95 [.agg [i64 a0_0, dI a0_1]] [.sc (i64 r)] := by
  unfold i_Doubling_field at h
  refine VCall.enter Try.call95 Try.func95 rfl 5 Try.ntmps95 (by simp) [.tmp 2] rfl ?_
  show VW _ _ _ (mk [(0, .val (.agg [i64 a0_0, dI a0_1]))]) _
  -- region 0
  refine VW.ws tau_ok Sound.none [some 1, some 2] [(1, .val (.ptr [i64 a0_0, dI a0_1]))] rfl ?_ ?_
  · simp <;> simp [ieq, ilt, ile]
  -- region 1
  refine VW.ws tau_ok Sound.none [some 3, some 4, some 2] [(2, .val (i64 a0_0))] rfl ?_ ?_
  · simp <;> simp [ieq, ilt, ile]
  cases h
  refine VW.ret ?_
  simp [Post, PostM, PostC, PostC2, Nx, Bk]

theorem i_inRange_ok {a0 : Int} {a1 : Int} {a2 : Int} {r : Bool} (h : i_inRange a0 a1 a2 = some r) :
    VCall Try.prog 175 [i64 a0, i64 a1, i64 a2] [.sc (.bool r)] := by
  unfold i_inRange at h
  refine VCall.enter Try.call175 Try.func175 rfl 15 Try.ntmps175 (by simp) [.tmp 6] rfl ?_
  show VW _ _ _ (mk [(0, .val (i64 a0)), (1, .val (i64 a1)), (2, .val (i64 a2))]) _
  -- region 0
  refine VW.ws tau_ok Sound.none [some 6] [(0, .val (i64 a0)), (1, .val (i64 a1)), (2, .val (i64 a2))] rfl ?_ ?_
  · simp <;> simp [ieq, ilt, ile]
  -- region 1
  obtain ⟨x2, hx2, h⟩ := bind_some h
  refine VW.cut [(6, .val (.bool x2))] ?_ fun hy => ?_
  rotate_left
  · clear h
    by_cases hp1 : a1 ≤ a0
    · rw [if_pos hp1] at hx2
      have hp1b : ile a1 a0 = true := by simpa [ieq, ilt, ile] using hp1
      have hp1s := hp1b
      try simp at hp1s
      cases hx2
      refine VW.ws tau_ok Sound.none [some 7, some 8, some 9, some 10, some 11, some 12, some 13, some 14, some 6] _ rfl ?_ hy
      simp [hp1b, hp1s] <;> simp [ieq, ilt, ile]
    · rw [if_neg hp1] at hx2
      have hp1b : ile a1 a0 = false := by simpa [ieq, ilt, ile] using hp1
      have hp1s := hp1b
      try simp at hp1s
      cases hx2
      refine VW.ws tau_ok Sound.none [some 7, some 8, some 9, some 10, some 11, some 12, some 13, some 14, some 6] _ rfl ?_ hy
      simp [hp1b, hp1s] <;> simp [ieq, ilt, ile]
  cases h
  refine VW.ret ?_
  simp [Post, PostM, PostC, PostC2, Nx, Bk]

theorem i_field_is_ok {a0 : Int} {a1 : List Int} {r : Bool} (h : i_field_is a0 a1 = some r) :
    VCall Try.prog 145 [i64 a0, dI a1] [.sc (.bool r)] := by
  unfold i_field_is at h
  refine VCall.enter Try.call145 Try.func145 rfl 19 Try.ntmps145 (by simp) [.tmp 4] rfl ?_
  show VW _ _ _ (mk [(0, .val (i64 a0)), (1, .val (dI a1))]) _
  -- region 0
  refine VW.ws tau_ok Sound.none [some 4] [(0, .val (i64 a0)), (1, .val (dI a1))] rfl ?_ ?_
  · simp <;> simp [ieq, ilt, ile]
  refine VW.sqc fun K1 hK1 hCK1 => ?_
  -- region 1
  refine VW.ws tau_ok Sound.none [some 7, some 8, some 9] [(0, .val (i64 a0)), (7, .val (dI a1)), (8, .val (i64 (a1.length : Int))), (9, .val (i64 0))] rfl ?_ ?_
  · simp <;> simp [ieq, ilt, ile]
  obtain ⟨x2, hx2, h⟩ := bind_some h
  refine VW.tlO (fun y4 => []) x2 (hCK1) ?_ ?_
  · clear hx2
    rintro y4 rfl
    dsimp only at h
    refine hK1 _ ?_
    -- region 7
    refine VW.ws tau_ok Sound.none [some 4] [(4, .val (.bool true))] rfl ?_ ?_
    · simp <;> simp [ieq, ilt, ile]
    cases h
    refine VW.ret ?_
    simp [Post, PostM, PostC, PostC2, Nx, Bk]
  refine VW.block ?_
  refine VW.loopF (i_field_is_L0 a0 a1) (fun s2 => [(0, .val (i64 a0)), (7, .val (dI a1)), (8, .val (i64 (a1.length : Int))), (9, .val (i64 s2))]) hx2 (Fits.of rfl) ?_
  clear hx2
  intro s2 ox2 hx2o hx2b
  unfold i_field_is_L0 at hx2o
  -- region 2
  refine VW.ws tau_ok Sound.none [some 10] [(0, .val (i64 a0)), (7, .val (dI a1)), (8, .val (i64 (a1.length : Int))), (9, .val (i64 s2)), (10, .val (.bool (ilt s2 (a1.length : Int))))] rfl ?_ ?_
  · simp <;> simp [ieq, ilt, ile]
  refine VW.sqc fun K5 hK5 hCK5 => ?_
  refine VW.cond rfl (fun hb6 => ?_) (fun hb6 => ?_)
  rotate_left
  ·
    replace hb6 : ¬ (s2 < (a1.length : Int)) := by simpa [ieq, ilt, ile] using hb6
    rw [if_neg hb6] at hx2o
    refine VW.exit ?_
    cases hx2o
    have hq := hx2b _ rfl
    subst hq
    exact ⟨_, rfl, Fits.of rfl⟩
  replace hb6 : s2 < (a1.length : Int) := by simpa [ieq, ilt, ile] using hb6
  rw [if_pos hb6] at hx2o
  refine VW.skip ?_
  refine hK5 _ ?_
  refine VW.sqc fun K7 hK7 hCK7 => ?_
  refine VW.block ?_
  -- region 3
  obtain ⟨v8, hv8, hx2o⟩ := bind_some hx2o
  obtain ⟨hv8a, hv8b, hv8c, hv8d⟩ := idx_some hv8
  refine VW.ws tau_ok Sound.none [some 11, some 12, some 6] [(0, .val (i64 a0)), (6, .val (i64 v8)), (7, .val (dI a1)), (8, .val (i64 (a1.length : Int))), (9, .val (i64 s2))] rfl ?_ ?_
  · simp [hv8a, hv8b, hv8c, hv8d] <;> simp [ieq, ilt, ile]
  -- region 4
  obtain ⟨v9, hv9, hx2o⟩ := bind_some hx2o
  refine VW.ws tau_ok (Sound.none.add 16 (i_inRange_ok hv9) rfl) [some 13, some 14, some 15, some 16, some 17] [(0, .val (i64 a0)), (7, .val (dI a1)), (8, .val (i64 (a1.length : Int))), (9, .val (i64 s2)), (17, .val (.bool (!v9)))] rfl ?_ ?_
  · simp <;> simp [ieq, ilt, ile]
  refine VW.cond rfl (fun hb10 => ?_) (fun hb10 => ?_)
  rotate_left
  ·
    replace hb10 : ¬ (v9 = false) := by simpa [ieq, ilt, ile] using hb10
    rw [if_neg hb10] at hx2o
    refine VW.skip ?_
    refine hK7 _ ?_
    -- region 6
    refine VW.wr tau_ok Sound.none [some 18, some 9] [(0, .val (i64 a0)), (7, .val (dI a1)), (8, .val (i64 (a1.length : Int))), (9, .val (i64 (w64 (s2 + 1))))] rfl ?_ ?_
    · simp <;> simp [ieq, ilt, ile]
    cases hx2o
    exact ⟨_, rfl, Fits.of rfl⟩
  replace hb10 : v9 = false := by simpa [ieq, ilt, ile] using hb10
  rw [if_pos hb10] at hx2o
  -- region 5
  refine VW.ws tau_ok Sound.none [some 4] [(4, .val (.bool false))] rfl ?_ ?_
  · simp <;> simp [ieq, ilt, ile]
  cases hx2o
  have hq := hx2b _ rfl
  subst hq
  dsimp only at h
  cases h
  refine VW.ret ?_
  simp [Post, PostM, PostC, PostC2, Nx, Bk]

theorem g_slices_Index_LI_I_ok {a0 : List Int} {a1 : Int} {r : Int} (h : g_slices_Index_LI_I a0 a1 = some r) :
    VCall Try.prog 236 [dI a0, i64 a1] [.sc (i64 r)] := by
  unfold g_slices_Index_LI_I at h
  refine VCall.enter Try.call236 Try.func236 rfl 19 Try.ntmps236 (by simp) [.tmp 4] rfl ?_
  show VW _ _ _ (mk [(0, .val (dI a0)), (1, .val (i64 a1))]) _
  -- region 0
  refine VW.ws tau_ok Sound.none [some 4] [(0, .val (dI a0)), (1, .val (i64 a1))] rfl ?_ ?_
  · simp <;> simp [ieq, ilt, ile]
  refine VW.sqc fun K1 hK1 hCK1 => ?_
  -- region 1
  refine VW.ws tau_ok Sound.none [some 6, some 7, some 8] [(0, .val (dI a0)), (1, .val (i64 a1)), (7, .val (i64 (a0.length : Int))), (8, .val (i64 0))] rfl ?_ ?_
  · simp <;> simp [ieq, ilt, ile]
  obtain ⟨x2, hx2, h⟩ := bind_some h
  refine VW.tlO (fun y4 => []) x2 (hCK1) ?_ ?_
  · clear hx2
    rintro y4 rfl
    dsimp only at h
    refine hK1 _ ?_
    -- region 7
    refine VW.ws tau_ok Sound.none [some 4] [(4, .val (i64 (-1)))] rfl ?_ ?_
    · simp <;> simp [ieq, ilt, ile]
    cases h
    refine VW.ret ?_
    simp [Post, PostM, PostC, PostC2, Nx, Bk]
  refine VW.block ?_
  refine VW.loopF (g_slices_Index_LI_I_L0 a0 a1) (fun s2 => [(0, .val (dI a0)), (1, .val (i64 a1)), (7, .val (i64 (a0.length : Int))), (8, .val (i64 s2))]) hx2 (Fits.of rfl) ?_
  clear hx2
  intro s2 ox2 hx2o hx2b
  unfold g_slices_Index_LI_I_L0 at hx2o
  -- region 2
  refine VW.ws tau_ok Sound.none [some 9] [(0, .val (dI a0)), (1, .val (i64 a1)), (7, .val (i64 (a0.length : Int))), (8, .val (i64 s2)), (9, .val (.bool (ilt s2 (a0.length : Int))))] rfl ?_ ?_
  · simp <;> simp [ieq, ilt, ile]
  refine VW.sqc fun K5 hK5 hCK5 => ?_
  refine VW.cond rfl (fun hb6 => ?_) (fun hb6 => ?_)
  rotate_left
  ·
    replace hb6 : ¬ (s2 < (a0.length : Int)) := by simpa [ieq, ilt, ile] using hb6
    rw [if_neg hb6] at hx2o
    refine VW.exit ?_
    cases hx2o
    have hq := hx2b _ rfl
    subst hq
    exact ⟨_, rfl, Fits.of rfl⟩
  replace hb6 : s2 < (a0.length : Int) := by simpa [ieq, ilt, ile] using hb6
  rw [if_pos hb6] at hx2o
  refine VW.skip ?_
  refine hK5 _ ?_
  refine VW.sqc fun K7 hK7 hCK7 => ?_
  refine VW.block ?_
  -- region 3
  refine VW.ws tau_ok Sound.none [some 10, some 5] [(0, .val (dI a0)), (1, .val (i64 a1)), (5, .val (i64 s2)), (7, .val (i64 (a0.length : Int))), (8, .val (i64 s2))] rfl ?_ ?_
  · simp <;> simp [ieq, ilt, ile]
  -- region 4
  obtain ⟨v8, hv8, hx2o⟩ := bind_some hx2o
  obtain ⟨hv8a, hv8b, hv8c, hv8d⟩ := idx_some hv8
  refine VW.ws tau_ok Sound.none [some 11, some 12, some 13, some 14, some 15, some 16] [(0, .val (dI a0)), (1, .val (i64 a1)), (5, .val (i64 s2)), (7, .val (i64 (a0.length : Int))), (8, .val (i64 s2)), (16, .val (.bool (ieq a1 v8)))] rfl ?_ ?_
  · simp [hv8a, hv8b, hv8c, hv8d] <;> simp [ieq, ilt, ile]
  refine VW.cond rfl (fun hb9 => ?_) (fun hb9 => ?_)
  rotate_left
  ·
    replace hb9 : ¬ (a1 = v8) := by simpa [ieq, ilt, ile] using hb9
    rw [if_neg hb9] at hx2o
    refine VW.skip ?_
    refine hK7 _ ?_
    -- region 6
    refine VW.wr tau_ok Sound.none [some 18, some 8] [(0, .val (dI a0)), (1, .val (i64 a1)), (7, .val (i64 (a0.length : Int))), (8, .val (i64 (w64 (s2 + 1))))] rfl ?_ ?_
    · simp <;> simp [ieq, ilt, ile]
    cases hx2o
    exact ⟨_, rfl, Fits.of rfl⟩
  replace hb9 : a1 = v8 := by simpa [ieq, ilt, ile] using hb9
  rw [if_pos hb9] at hx2o
  -- region 5
  refine VW.ws tau_ok Sound.none [some 17, some 4] [(4, .val (i64 s2))] rfl ?_ ?_
  · simp <;> simp [ieq, ilt, ile]
  cases hx2o
  have hq := hx2b _ rfl
  subst hq
  dsimp only at h
  cases h
  refine VW.ret ?_
  simp [Post, PostM, PostC, PostC2, Nx, Bk]

theorem g_slices_Contains_LI_I_ok {a0 : List Int} {a1 : Int} {r : Bool} (h : g_slices_Contains_LI_I a0 a1 = some r) :
    VCall Try.prog 223 [dI a0, i64 a1] [.sc (.bool r)] := by
  unfold g_slices_Contains_LI_I at h
  refine VCall.enter Try.call223 Try.func223 rfl 9 Try.ntmps223 (by simp) [.tmp 4] rfl ?_
  show VW _ _ _ (mk [(0, .val (dI a0)), (1, .val (i64 a1))]) _
  -- region 0
  refine VW.ws tau_ok Sound.none [some 4] [(0, .val (dI a0)), (1, .val (i64 a1))] rfl ?_ ?_
  · simp <;> simp [ieq, ilt, ile]
  -- region 1
  obtain ⟨v1, hv1, h⟩ := bind_some h
  refine VW.ws tau_ok (Sound.none.add 7 (g_slices_Index_LI_I_ok hv1) rfl) [some 5, some 6, some 7, some 8, some 4] [(4, .val (.bool (ile 0 v1)))] rfl ?_ ?_
  · simp <;> simp [ieq, ilt, ile]
  cases h
  refine VW.ret ?_
  simp [Post, PostM, PostC, PostC2, Nx, Bk]

theorem i_IsDoubling_ok {a0_0 : Int} {a0_1 : List Int} {r : Bool} (h : i_IsDoubling a0_0 a0_1 = some r) :
    VCall Try.prog 166 [.agg [i64 a0_0, dI a0_1]] [.sc (.bool r)] := by
  unfold i_IsDoubling at h
  refine VCall.enter Try.call166 Try.func166 rfl 25 Try.ntmps166 (by simp) [.tmp 2] rfl ?_
  show VW _ _ _ (mk [(0, .val (.agg [i64 a0_0, dI a0_1]))]) _
  -- region 0
  refine VW.ws tau_ok Sound.none [some 1, some 2] [(1, .val (.ptr [i64 a0_0, dI a0_1]))] rfl ?_ ?_
  · simp <;> simp [ieq, ilt, ile]
  -- region 1
  obtain ⟨x8, hx8, h⟩ := bind_some h
  refine VW.cut [(2, .val (.bool x8))] ?_ fun hy => ?_
  rotate_left
  · clear h
    obtain ⟨v1, hv1, hx8⟩ := bind_some hx8
    by_cases hp2 : v1 = true
    · rw [if_pos hp2] at hx8
      have hp2b : v1 = true := by simpa [ieq, ilt, ile] using hp2
      have hp2s := hp2b
      try simp at hp2s
      by_cases hp3 : (a0_1.length : Int) ≤ 4
      · rw [if_pos hp3] at hx8
        have hp3b : ile (a0_1.length : Int) 4 = true := by simpa [ieq, ilt, ile] using hp3
        have hp3s := hp3b
        try simp at hp3s
        obtain ⟨v4, hv4, hx8⟩ := bind_some hx8
        obtain ⟨v5, hv5, hx8⟩ := bind_some hx8
        by_cases hp6 : v5 = true
        · rw [if_pos hp6] at hx8
          have hp6b : v5 = true := by simpa [ieq, ilt, ile] using hp6
          have hp6s := hp6b
          try simp at hp6s
          obtain ⟨v7, hv7, hx8⟩ := bind_some hx8
          cases hx8
          refine VW.wds tau_ok ((((Sound.none.add 5 (i_IsPrime_ok hv1) rfl).add 14 (i_Doubling_field_ok hv4) rfl).add 17 (i_field_is_ok hv5) rfl).add 22 (g_slices_Contains_LI_I_ok hv7) rfl) try_mixed [some 3, some 4, some 5, some 6, some 7, some 8, some 9, some 10, some 11, some 12, some 13, some 14, some 15, some 16, some 17, some 18, some 19, some 20, some 21, some 22, some 23, some 24, some 2] _ 23 rfl (by kernel_rfl) (by rfl) ?_ hy
          simp [hp2b, hp2s, hp3b, hp3s, hp6b, hp6s] <;> simp [ieq, ilt, ile]
        · rw [if_neg hp6] at hx8
          have hp6b : v5 = false := by simpa [ieq, ilt, ile] using hp6
          have hp6s := hp6b
          try simp at hp6s
          cases hx8
          refine VW.wds tau_ok (((Sound.none.add 5 (i_IsPrime_ok hv1) rfl).add 14 (i_Doubling_field_ok hv4) rfl).add 17 (i_field_is_ok hv5) rfl) try_mixed [some 3, some 4, some 5, some 6, some 7, some 8, some 9, some 10, some 11, some 12, some 13, some 14, some 15, some 16, some 17, some 18, some 19, some 20, some 21, some 22, some 23, some 24, some 2] _ 23 rfl (by kernel_rfl) (by rfl) ?_ hy
          simp [hp2b, hp2s, hp3b, hp3s, hp6b, hp6s] <;> simp [ieq, ilt, ile]
      · rw [if_neg hp3] at hx8
        have hp3b : ile (a0_1.length : Int) 4 = false := by simpa [ieq, ilt, ile] using hp3
        have hp3s := hp3b
        try simp at hp3s
        cases hx8
        refine VW.wds tau_ok (Sound.none.add 5 (i_IsPrime_ok hv1) rfl) try_mixed [some 3, some 4, some 5, some 6, some 7, some 8, some 9, some 10, some 11, some 12, some 13, some 14, some 15, some 16, some 17, some 18, some 19, some 20, some 21, some 22, some 23, some 24, some 2] _ 23 rfl (by kernel_rfl) (by rfl) ?_ hy
        simp [hp2b, hp2s, hp3b, hp3s] <;> simp [ieq, ilt, ile]
    · rw [if_neg hp2] at hx8
      have hp2b : v1 = false := by simpa [ieq, ilt, ile] using hp2
      have hp2s := hp2b
      try simp at hp2s
      cases hx8
      refine VW.wds tau_ok (Sound.none.add 5 (i_IsPrime_ok hv1) rfl) try_mixed [some 3, some 4, some 5, some 6, some 7, some 8, some 9, some 10, some 11, some 12, some 13, some 14, some 15, some 16, some 17, some 18, some 19, some 20, some 21, some 22, some 23, some 24, some 2] _ 23 rfl (by kernel_rfl) (by rfl) ?_ hy
      simp [hp2b, hp2s] <;> simp [ieq, ilt, ile]
  cases h
  refine VW.ret ?_
  simp [Post, PostM, PostC, PostC2, Nx, Bk]

theorem i_Doubling_size_ok {a0_0 : Int} {a0_1 : List Int} {r : Int} (h : i_Doubling_size a0_0 a0_1 = some r) :
    VCall Try.prog 185 [.agg [i64 a0_0, dI a0_1]] [.sc (i64 r)] := by
  unfold i_Doubling_size at h
  refine VCall.enter Try.call185 Try.func185 rfl 7 Try.ntmps185 (by simp) [.tmp 2] rfl ?_
  show VW _ _ _ (mk [(0, .val (.agg [i64 a0_0, dI a0_1]))]) _
  -- region 0
  refine VW.ws tau_ok Sound.none [some 1, some 2] [(1, .val (.ptr [i64 a0_0, dI a0_1]))] rfl ?_ ?_
  · simp <;> simp [ieq, ilt, ile]
  -- region 1
  obtain ⟨hc1, h⟩ := chk_some h
  have hc1s := hc1
  try simp at hc1s
  refine VW.ws tau_ok Sound.none [some 3, some 4, some 5, some 6, some 2] [(2, .val (i64 (shl .i64 1 (a0_1.length : Int))))] rfl ?_ ?_
  · simp [hc1, hc1s] <;> simp [ieq, ilt, ile]
  cases h
  refine VW.ret ?_
  simp [Post, PostM, PostC, PostC2, Nx, Bk]

theorem i_checkElements_c1_ok {a0 : List Int} {a1_0 : Int} {a1_1 : List Int} {r : Bool} (h : i_checkElements_c1 a0 a1_0 a1_1 = some r) :
    VCall Try.prog 221 [dI a0, .ptr [i64 a1_0, dI a1_1]] [.sc (.bool r)] := by
  unfold i_checkElements_c1 at h
  refine VCall.enter Try.call221 Try.func221 rfl 16 Try.ntmps221 (by simp) [.tmp 3] rfl ?_
  show VW _ _ _ (mk [(0, .val (dI a0)), (1, .val (.ptr [i64 a1_0, dI a1_1]))]) _
  -- region 0
  refine VW.ws tau_ok Sound.none [some 3] [(0, .val (dI a0)), (1, .val (.ptr [i64 a1_0, dI a1_1]))] rfl ?_ ?_
  · simp <;> simp [ieq, ilt, ile]
  -- region 1
  obtain ⟨x5, hx5, h⟩ := bind_some h
  refine VW.cut [(3, .val (.bool x5))] ?_ fun hy => ?_
  rotate_left
  · clear h
    obtain ⟨v1, hv1, hx5⟩ := bind_some hx5
    by_cases hp2 : ¬ (a0.length : Int) = v1
    · rw [if_pos hp2] at hx5
      have hp2b : ieq (a0.length : Int) v1 = false := by simpa [ieq, ilt, ile] using hp2
      have hp2s := hp2b
      try simp at hp2s
      cases hx5
      refine VW.ws tau_ok (Sound.none.add 7 (i_Doubling_size_ok hv1) rfl) [some 4, some 5, some 6, some 7, some 8, some 9, some 10, some 11, some 12, some 13, some 14, some 15, some 3] _ rfl ?_ hy
      simp [hp2b, hp2s] <;> simp [ieq, ilt, ile]
    · rw [if_neg hp2] at hx5
      have hp2b : ieq (a0.length : Int) v1 = true := by simpa [ieq, ilt, ile] using hp2
      have hp2s := hp2b
      try simp at hp2s
      obtain ⟨v3, hv3, hx5⟩ := bind_some hx5
      obtain ⟨v4, hv4, hx5⟩ := bind_some hx5
      cases hx5
      refine VW.ws tau_ok (((Sound.none.add 7 (i_Doubling_size_ok hv1) rfl).add 11 (i_Doubling_field_ok hv3) rfl).add 13 (i_field_is_ok hv4) rfl) [some 4, some 5, some 6, some 7, some 8, some 9, some 10, some 11, some 12, some 13, some 14, some 15, some 3] _ rfl ?_ hy
      simp [hp2b, hp2s] <;> simp [ieq, ilt, ile]
  cases h
  refine VW.ret ?_
  simp [Post, PostM, PostC, PostC2, Nx, Bk]

theorem g_slices_IndexFunc_LLI_LI_of_i_checkElements_c1_ok {a0 : List (List Int)} {a1_0_0 : Int} {a1_0_1 : List Int} {r : Int} (h : g_slices_IndexFunc_LLI_LI_of_i_checkElements_c1 a0 a1_0_0 a1_0_1 = some r) :
    VCall Try.prog 135 [dM a0, .fn 221 [.ptr [i64 a1_0_0, dI a1_0_1]]] [.sc (i64 r)] := by
  unfold g_slices_IndexFunc_LLI_LI_of_i_checkElements_c1 at h
  refine VCall.enter Try.call135 Try.func135 rfl 19 Try.ntmps135 (by simp) [.tmp 4] rfl ?_
  show VW _ _ _ (mk [(0, .val (dM a0)), (1, .val (.fn 221 [.ptr [i64 a1_0_0, dI a1_0_1]]))]) _
  -- region 0
  refine VW.ws tau_ok Sound.none [some 4] [(0, .val (dM a0)), (1, .val (.fn 221 [.ptr [i64 a1_0_0, dI a1_0_1]]))] rfl ?_ ?_
  · simp <;> simp [ieq, ilt, ile]
  refine VW.sqc fun K1 hK1 hCK1 => ?_
  -- region 1
  refine VW.ws tau_ok Sound.none [some 6, some 7, some 8] [(0, .val (dM a0)), (1, .val (.fn 221 [.ptr [i64 a1_0_0, dI a1_0_1]])), (7, .val (i64 (a0.length : Int))), (8, .val (i64 0))] rfl ?_ ?_
  · simp <;> simp [ieq, ilt, ile]
  obtain ⟨x2, hx2, h⟩ := bind_some h
  refine VW.tlO (fun y4 => []) x2 (hCK1) ?_ ?_
  · clear hx2
    rintro y4 rfl
    dsimp only at h
    refine hK1 _ ?_
    -- region 7
    refine VW.ws tau_ok Sound.none [some 4] [(4, .val (i64 (-1)))] rfl ?_ ?_
    · simp <;> simp [ieq, ilt, ile]
    cases h
    refine VW.ret ?_
    simp [Post, PostM, PostC, PostC2, Nx, Bk]
  refine VW.block ?_
  refine VW.loopF (g_slices_IndexFunc_LLI_LI_of_i_checkElements_c1_L0 a0 a1_0_0 a1_0_1) (fun s2 => [(0, .val (dM a0)), (1, .val (.fn 221 [.ptr [i64 a1_0_0, dI a1_0_1]])), (7, .val (i64 (a0.length : Int))), (8, .val (i64 s2))]) hx2 (Fits.of rfl) ?_
  clear hx2
  intro s2 ox2 hx2o hx2b
  unfold g_slices_IndexFunc_LLI_LI_of_i_checkElements_c1_L0 at hx2o
  -- region 2
  refine VW.ws tau_ok Sound.none [some 9] [(0, .val (dM a0)), (1, .val (.fn 221 [.ptr [i64 a1_0_0, dI a1_0_1]])), (7, .val (i64 (a0.length : Int))), (8, .val (i64 s2)), (9, .val (.bool (ilt s2 (a0.length : Int))))] rfl ?_ ?_
  · simp <;> simp [ieq, ilt, ile]
  refine VW.sqc fun K5 hK5 hCK5 => ?_
  refine VW.cond rfl (fun hb6 => ?_) (fun hb6 => ?_)
  rotate_left
  ·
    replace hb6 : ¬ (s2 < (a0.length : Int)) := by simpa [ieq, ilt, ile] using hb6
    rw [if_neg hb6] at hx2o
    refine VW.exit ?_
    cases hx2o
    have hq := hx2b _ rfl
    subst hq
    exact ⟨_, rfl, Fits.of rfl⟩
  replace hb6 : s2 < (a0.length : Int) := by simpa [ieq, ilt, ile] using hb6
  rw [if_pos hb6] at hx2o
  refine VW.skip ?_
  refine hK5 _ ?_
  refine VW.sqc fun K7 hK7 hCK7 => ?_
  refine VW.block ?_
  -- region 3
  refine VW.ws tau_ok Sound.none [some 10, some 5] [(0, .val (dM a0)), (1, .val (.fn 221 [.ptr [i64 a1_0_0, dI a1_0_1]])), (5, .val (i64 s2)), (7, .val (i64 (a0.length : Int))), (8, .val (i64 s2))] rfl ?_ ?_
  · simp <;> simp [ieq, ilt, ile]
  -- region 4
  obtain ⟨v8, hv8, hx2o⟩ := bind_some hx2o
  obtain ⟨hv8a, hv8b, hv8c, hv8d⟩ := idx_some hv8
  obtain ⟨v9, hv9, hx2o⟩ := bind_some hx2o
  refine VW.ws tau_ok (Sound.none.add 16 (i_checkElements_c1_ok hv9) rfl) [some 11, some 12, some 13, some 14, some 15, some 16] [(0, .val (dM a0)), (1, .val (.fn 221 [.ptr [i64 a1_0_0, dI a1_0_1]])), (5, .val (i64 s2)), (7, .val (i64 (a0.length : Int))), (8, .val (i64 s2)), (16, .val (.bool v9))] rfl ?_ ?_
  · simp [hv8a, hv8b, hv8c, hv8d] <;> simp [ieq, ilt, ile]
  refine VW.cond rfl (fun hb10 => ?_) (fun hb10 => ?_)
  rotate_left
  ·
    replace hb10 : ¬ (v9 = true) := by simpa [ieq, ilt, ile] using hb10
    rw [if_neg hb10] at hx2o
    refine VW.skip ?_
    refine hK7 _ ?_
    -- region 6
    refine VW.wr tau_ok Sound.none [some 18, some 8] [(0, .val (dM a0)), (1, .val (.fn 221 [.ptr [i64 a1_0_0, dI a1_0_1]])), (7, .val (i64 (a0.length : Int))), (8, .val (i64 (w64 (s2 + 1))))] rfl ?_ ?_
    · simp <;> simp [ieq, ilt, ile]
    cases hx2o
    exact ⟨_, rfl, Fits.of rfl⟩
  replace hb10 : v9 = true := by simpa [ieq, ilt, ile] using hb10
  rw [if_pos hb10] at hx2o
  -- region 5
  refine VW.ws tau_ok Sound.none [some 17, some 4] [(4, .val (i64 s2))] rfl ?_ ?_
  · simp <;> simp [ieq, ilt, ile]
  cases hx2o
  have hq := hx2b _ rfl
  subst hq
  dsimp only at h
  cases h
  refine VW.ret ?_
  simp [Post, PostM, PostC, PostC2, Nx, Bk]

theorem g_slices_ContainsFunc_LLI_LI_of_i_checkElements_c1_ok {a0 : List (List Int)} {a1_0_0 : Int} {a1_0_1 : List Int} {r : Bool} (h : g_slices_ContainsFunc_LLI_LI_of_i_checkElements_c1 a0 a1_0_0 a1_0_1 = some r) :
    VCall Try.prog 220 [dM a0, .fn 221 [.ptr [i64 a1_0_0, dI a1_0_1]]] [.sc (.bool r)] := by
  unfold g_slices_ContainsFunc_LLI_LI_of_i_checkElements_c1 at h
  refine VCall.enter Try.call220 Try.func220 rfl 9 Try.ntmps220 (by simp) [.tmp 4] rfl ?_
  show VW _ _ _ (mk [(0, .val (dM a0)), (1, .val (.fn 221 [.ptr [i64 a1_0_0, dI a1_0_1]]))]) _
  -- region 0
  refine VW.ws tau_ok Sound.none [some 4] [(0, .val (dM a0)), (1, .val (.fn 221 [.ptr [i64 a1_0_0, dI a1_0_1]]))] rfl ?_ ?_
  · simp <;> simp [ieq, ilt, ile]
  -- region 1
  obtain ⟨v1, hv1, h⟩ := bind_some h
  refine VW.ws tau_ok (Sound.none.add 7 (g_slices_IndexFunc_LLI_LI_of_i_checkElements_c1_ok hv1) rfl) [some 5, some 6, some 7, some 8, some 4] [(4, .val (.bool (ile 0 v1)))] rfl ?_ ?_
  · simp <;> simp [ieq, ilt, ile]
  cases h
  refine VW.ret ?_
  simp [Post, PostM, PostC, PostC2, Nx, Bk]

theorem i_checkElements_ok {a0_0 : Int} {a0_1 : List Int} {a1 : List (List Int)} {r : Int} (h : i_checkElements a0_0 a0_1 a1 = some r) :
    VCall Try.prog 161 [.agg [i64 a0_0, dI a0_1], dM a1] [.sc (i64 r)] := by
  unfold i_checkElements at h
  refine VCall.enter Try.call161 Try.func161 rfl 11 Try.ntmps161 (by simp) [.tmp 4] rfl ?_
  show VW _ _ _ (mk [(0, .val (.agg [i64 a0_0, dI a0_1])), (1, .val (dM a1))]) _
  -- region 0
  refine VW.ws tau_ok Sound.none [some 2, some 4] [(1, .val (dM a1)), (2, .val (.ptr [i64 a0_0, dI a0_1]))] rfl ?_ ?_
  · simp <;> simp [ieq, ilt, ile]
  refine VW.sqc fun K1 hK1 hCK1 => ?_
  -- region 1
  obtain ⟨v2, hv2, h⟩ := bind_some h
  refine VW.ws tau_ok (Sound.none.add 6 (i_IsDoubling_ok hv2) rfl) [some 5, some 6, some 7] [(1, .val (dM a1)), (2, .val (.ptr [i64 a0_0, dI a0_1])), (7, .val (.bool (!v2)))] rfl ?_ ?_
  · simp <;> simp [ieq, ilt, ile]
  refine VW.cond rfl (fun hb3 => ?_) (fun hb3 => ?_)
  ·
    replace hb3 : v2 = false := by simpa [ieq, ilt, ile] using hb3
    rw [if_pos hb3] at h
    -- region 2
    refine VW.ws tau_ok Sound.none [some 4] [(4, .val (i64 1))] rfl ?_ ?_
    · simp <;> simp [ieq, ilt, ile]
    cases h
    refine VW.ret ?_
    simp [Post, PostM, PostC, PostC2, Nx, Bk]
  replace hb3 : ¬ (v2 = false) := by simpa [ieq, ilt, ile] using hb3
  rw [if_neg hb3] at h
  refine VW.skip ?_
  refine hK1 _ ?_
  refine VW.sqc fun K4 hK4 hCK4 => ?_
  -- region 3
  obtain ⟨v5, hv5, h⟩ := bind_some h
  refine VW.ws tau_ok (Sound.none.add 10 (g_slices_ContainsFunc_LLI_LI_of_i_checkElements_c1_ok hv5) rfl) [some 8, some 9, some 10] [(10, .val (.bool v5))] rfl ?_ ?_
  · simp <;> simp [ieq, ilt, ile]
  refine VW.cond rfl (fun hb6 => ?_) (fun hb6 => ?_)
  ·
    replace hb6 : v5 = true := by simpa [ieq, ilt, ile] using hb6
    rw [if_pos hb6] at h
    -- region 4
    refine VW.ws tau_ok Sound.none [some 4] [(4, .val (i64 2))] rfl ?_ ?_
    · simp <;> simp [ieq, ilt, ile]
    cases h
    refine VW.ret ?_
    simp [Post, PostM, PostC, PostC2, Nx, Bk]
  replace hb6 : ¬ (v5 = true) := by simpa [ieq, ilt, ile] using hb6
  rw [if_neg hb6] at h
  refine VW.skip ?_
  refine hK4 _ ?_
  -- region 5
  refine VW.ws tau_ok Sound.none [some 4] [(4, .val (i64 0))] rfl ?_ ?_
  · simp <;> simp [ieq, ilt, ile]
  cases h
  refine VW.ret ?_
  simp [Post, PostM, PostC, PostC2, Nx, Bk]

theorem i_field_isTable_ok {a0 : Int} {a1 : List (List Int)} {r : Bool} (h : i_field_isTable a0 a1 = some r) :
    VCall Try.prog 141 [i64 a0, dM a1] [.sc (.bool r)] := by
  unfold i_field_isTable at h
  refine VCall.enter Try.call141 Try.func141 rfl 40 Try.ntmps141 (by simp) [.tmp 4] rfl ?_
  show VW _ _ _ (mk [(0, .val (i64 a0)), (1, .val (dM a1))]) _
  -- region 0
  refine VW.ws tau_ok Sound.none [some 4] [(0, .val (i64 a0)), (1, .val (dM a1))] rfl ?_ ?_
  · simp <;> simp [ieq, ilt, ile]
  refine VW.sqc fun K1 hK1 hCK1 => ?_
  -- region 1
  refine VW.ws tau_ok Sound.none [some 7, some 8, some 9] [(0, .val (i64 a0)), (1, .val (dM a1)), (9, .val (.bool (ilt 16 (a1.length : Int))))] rfl ?_ ?_
  · simp <;> simp [ieq, ilt, ile]
  refine VW.cond rfl (fun hb2 => ?_) (fun hb2 => ?_)
  ·
    replace hb2 : 16 < (a1.length : Int) := by simpa [ieq, ilt, ile] using hb2
    rw [if_pos hb2] at h
    -- region 2
    refine VW.ws tau_ok Sound.none [some 4] [(4, .val (.bool false))] rfl ?_ ?_
    · simp <;> simp [ieq, ilt, ile]
    cases h
    refine VW.ret ?_
    simp [Post, PostM, PostC, PostC2, Nx, Bk]
  replace hb2 : ¬ (16 < (a1.length : Int)) := by simpa [ieq, ilt, ile] using hb2
  rw [if_neg hb2] at h
  refine VW.skip ?_
  refine hK1 _ ?_
  refine VW.sqc fun K3 hK3 hCK3 => ?_
  -- region 3
  refine VW.ws tau_ok Sound.none [some 10, some 11, some 12] [(0, .val (i64 a0)), (1, .val (dM a1)), (10, .val (dM a1)), (11, .val (i64 (a1.length : Int))), (12, .val (i64 0))] rfl ?_ ?_
  · simp <;> simp [ieq, ilt, ile]
  obtain ⟨x4, hx4, h⟩ := bind_some h
  refine VW.tlO (fun y6 => []) x4 (hCK3) ?_ ?_
  · clear hx4
    rintro y6 rfl
    dsimp only at h
    refine hK3 _ ?_
    -- region 9
    refine VW.ws tau_ok Sound.none [some 4] [(4, .val (.bool true))] rfl ?_ ?_
    · simp <;> simp [ieq, ilt, ile]
    cases h
    refine VW.ret ?_
    simp [Post, PostM, PostC, PostC2, Nx, Bk]
  refine VW.block ?_
  refine VW.loopF (i_field_isTable_L0 a0 a1) (fun s4 => [(0, .val (i64 a0)), (1, .val (dM a1)), (10, .val (dM a1)), (11, .val (i64 (a1.length : Int))), (12, .val (i64 s4))]) hx4 (Fits.of rfl) ?_
  clear hx4
  intro s4 ox4 hx4o hx4b
  unfold i_field_isTable_L0 at hx4o
  -- region 4
  refine VW.ws tau_ok Sound.none [some 13] [(0, .val (i64 a0)), (1, .val (dM a1)), (10, .val (dM a1)), (11, .val (i64 (a1.length : Int))), (12, .val (i64 s4)), (13, .val (.bool (ilt s4 (a1.length : Int))))] rfl ?_ ?_
  · simp <;> simp [ieq, ilt, ile]
  refine VW.sqc fun K7 hK7 hCK7 => ?_
  refine VW.cond rfl (fun hb8 => ?_) (fun hb8 => ?_)
  rotate_left
  ·
    replace hb8 : ¬ (s4 < (a1.length : Int)) := by simpa [ieq, ilt, ile] using hb8
    rw [if_neg hb8] at hx4o
    refine VW.exit ?_
    cases hx4o
    have hq := hx4b _ rfl
    subst hq
    exact ⟨_, rfl, Fits.of rfl⟩
  replace hb8 : s4 < (a1.length : Int) := by simpa [ieq, ilt, ile] using hb8
  rw [if_pos hb8] at hx4o
  refine VW.skip ?_
  refine hK7 _ ?_
  refine VW.sqc fun K9 hK9 hCK9 => ?_
  refine VW.block ?_
  -- region 5
  obtain ⟨v10, hv10, hx4o⟩ := bind_some hx4o
  obtain ⟨hv10a, hv10b, hv10c, hv10d⟩ := idx_some hv10
  refine VW.ws tau_ok Sound.none [some 14, some 15, some 6] [(0, .val (i64 a0)), (1, .val (dM a1)), (6, .val (dI v10)), (10, .val (dM a1)), (11, .val (i64 (a1.length : Int))), (12, .val (i64 s4))] rfl ?_ ?_
  · simp [hv10a, hv10b, hv10c, hv10d] <;> simp [ieq, ilt, ile]
  -- region 6
  obtain ⟨x16, hx16, hx4o⟩ := bind_some hx4o
  refine VW.cut [(0, .val (i64 a0)), (1, .val (dM a1)), (10, .val (dM a1)), (11, .val (i64 (a1.length : Int))), (12, .val (i64 s4)), (38, .val (.bool x16))] ?_ fun hy => ?_
  rotate_left
  · clear hx4o
    obtain ⟨v11, hv11, hx16⟩ := bind_some hx16
    obtain ⟨hv11a, hv11b, hv11c, hv11d⟩ := idx_some hv11
    replace hv11b : 0 < a1.length := hv11b
    replace hv11c : a1[0]? = some v11 := hv11c
    replace hv11d : ∀ h, a1[0]'h = v11 := hv11d
    by_cases hp12 : ¬ (v10.length : Int) = (v11.length : Int)
    · rw [if_pos hp12] at hx16
      have hp12b : ieq (v10.length : Int) (v11.length : Int) = false := by simpa [ieq, ilt, ile] using hp12
      have hp12s := hp12b
      try simp at hp12s
      cases hx16
      refine VW.ws tau_ok Sound.none [some 16, some 17, some 18, some 19, some 20, some 21, some 22, some 23, some 24, some 25, some 26, some 27, some 28, some 29, some 30, some 31, some 32, some 33, some 34, some 35, some 36, some 37, some 38] _ rfl ?_ hy
      simp [hv11a, hv11b, hv11c, hv11d, hp12b, hp12s] <;> simp [ieq, ilt, ile]
    · rw [if_neg hp12] at hx16
      have hp12b : ieq (v10.length : Int) (v11.length : Int) = true := by simpa [ieq, ilt, ile] using hp12
      have hp12s := hp12b
      try simp at hp12s
      by_cases hp13 : (v10.length : Int) < 1
      · rw [if_pos hp13] at hx16
        have hp13b : ilt (v10.length : Int) 1 = true := by simpa [ieq, ilt, ile] using hp13
        have hp13s := hp13b
        try simp at hp13s
        cases hx16
        refine VW.ws tau_ok Sound.none [some 16, some 17, some 18, some 19, some 20, some 21, some 22, some 23, some 24, some 25, some 26, some 27, some 28, some 29, some 30, some 31, some 32, some 33, some 34, some 35, some 36, some 37, some 38] _ rfl ?_ hy
        simp [hv11a, hv11b, hv11c, hv11d, hp12b, hp12s, hp13b, hp13s] <;> simp [ieq, ilt, ile]
      · rw [if_neg hp13] at hx16
        have hp13b : ilt (v10.length : Int) 1 = false := by simpa [ieq, ilt, ile] using hp13
        have hp13s := hp13b
        try simp at hp13s
        by_cases hp14 : 16 < (v10.length : Int)
        · rw [if_pos hp14] at hx16
          have hp14b : ilt 16 (v10.length : Int) = true := by simpa [ieq, ilt, ile] using hp14
          have hp14s := hp14b
          try simp at hp14s
          cases hx16
          refine VW.ws tau_ok Sound.none [some 16, some 17, some 18, some 19, some 20, some 21, some 22, some 23, some 24, some 25, some 26, some 27, some 28, some 29, some 30, some 31, some 32, some 33, some 34, some 35, some 36, some 37, some 38] _ rfl ?_ hy
          simp [hv11a, hv11b, hv11c, hv11d, hp12b, hp12s, hp13b, hp13s, hp14b, hp14s] <;> simp [ieq, ilt, ile]
        · rw [if_neg hp14] at hx16
          have hp14b : ilt 16 (v10.length : Int) = false := by simpa [ieq, ilt, ile] using hp14
          have hp14s := hp14b
          try simp at hp14s
          obtain ⟨v15, hv15, hx16⟩ := bind_some hx16
          cases hx16
          refine VW.ws tau_ok (Sound.none.add 36 (i_field_is_ok hv15) rfl) [some 16, some 17, some 18, some 19, some 20, some 21, some 22, some 23, some 24, some 25, some 26, some 27, some 28, some 29, some 30, some 31, some 32, some 33, some 34, some 35, some 36, some 37, some 38] _ rfl ?_ hy
          simp [hv11a, hv11b, hv11c, hv11d, hp12b, hp12s, hp13b, hp13s, hp14b, hp14s] <;> simp [ieq, ilt, ile]
  refine VW.cond rfl (fun hb17 => ?_) (fun hb17 => ?_)
  rotate_left
  ·
    replace hb17 : ¬ (x16 = true) := by simpa [ieq, ilt, ile] using hb17
    rw [if_neg hb17] at hx4o
    refine VW.skip ?_
    refine hK9 _ ?_
    -- region 8
    refine VW.wr tau_ok Sound.none [some 39, some 12] [(0, .val (i64 a0)), (1, .val (dM a1)), (10, .val (dM a1)), (11, .val (i64 (a1.length : Int))), (12, .val (i64 (w64 (s4 + 1))))] rfl ?_ ?_
    · simp <;> simp [ieq, ilt, ile]
    cases hx4o
    exact ⟨_, rfl, Fits.of rfl⟩
  replace hb17 : x16 = true := by simpa [ieq, ilt, ile] using hb17
  rw [if_pos hb17] at hx4o
  -- region 7
  refine VW.ws tau_ok Sound.none [some 4] [(4, .val (.bool false))] rfl ?_ ?_
  · simp <;> simp [ieq, ilt, ile]
  cases hx4o
  have hq := hx4b _ rfl
  subst hq
  dsimp only at h
  cases h
  refine VW.ret ?_
  simp [Post, PostM, PostC, PostC2, Nx, Bk]

theorem i_field_isMatrix_ok {a0 : Int} {a1 : List (List Int)} {r : Bool} (h : i_field_isMatrix a0 a1 = some r) :
    VCall Try.prog 121 [i64 a0, dM a1] [.sc (.bool r)] := by
  unfold i_field_isMatrix at h
  refine VCall.enter Try.call121 Try.func121 rfl 13 Try.ntmps121 (by simp) [.tmp 4] rfl ?_
  show VW _ _ _ (mk [(0, .val (i64 a0)), (1, .val (dM a1))]) _
  -- region 0
  refine VW.ws tau_ok Sound.none [some 4] [(0, .val (i64 a0)), (1, .val (dM a1))] rfl ?_ ?_
  · simp <;> simp [ieq, ilt, ile]
  -- region 1
  obtain ⟨x3, hx3, h⟩ := bind_some h
  refine VW.cut [(4, .val (.bool x3))] ?_ fun hy => ?_
  rotate_left
  · clear h
    by_cases hp1 : 0 < (a1.length : Int)
    · rw [if_pos hp1] at hx3
      have hp1b : ilt 0 (a1.length : Int) = true := by simpa [ieq, ilt, ile] using hp1
      have hp1s := hp1b
      try simp at hp1s
      obtain ⟨v2, hv2, hx3⟩ := bind_some hx3
      cases hx3
      refine VW.ws tau_ok (Sound.none.add 11 (i_field_isTable_ok hv2) rfl) [some 5, some 6, some 7, some 8, some 9, some 10, some 11, some 12, some 4] _ rfl ?_ hy
      simp [hp1b, hp1s] <;> simp [ieq, ilt, ile]
    · rw [if_neg hp1] at hx3
      have hp1b : ilt 0 (a1.length : Int) = false := by simpa [ieq, ilt, ile] using hp1
      have hp1s := hp1b
      try simp at hp1s
      cases hx3
      refine VW.ws tau_ok Sound.none [some 5, some 6, some 7, some 8, some 9, some 10, some 11, some 12, some 4] _ rfl ?_ hy
      simp [hp1b, hp1s] <;> simp [ieq, ilt, ile]
  cases h
  refine VW.ret ?_
  simp [Post, PostM, PostC, PostC2, Nx, Bk]

theorem i_Doubling_isMatrix_ok {a0_0 : Int} {a0_1 : List Int} {a1 : List (List Int)} {r : Bool} (h : i_Doubling_isMatrix a0_0 a0_1 a1 = some r) :
    VCall Try.prog 184 [.agg [i64 a0_0, dI a0_1], dM a1] [.sc (.bool r)] := by
  unfold i_Doubling_isMatrix at h
  refine VCall.enter Try.call184 Try.func184 rfl 25 Try.ntmps184 (by simp) [.tmp 4] rfl ?_
  show VW _ _ _ (mk [(0, .val (.agg [i64 a0_0, dI a0_1])), (1, .val (dM a1))]) _
  -- region 0
  refine VW.ws tau_ok Sound.none [some 2, some 4] [(1, .val (dM a1)), (2, .val (.ptr [i64 a0_0, dI a0_1]))] rfl ?_ ?_
  · simp <;> simp [ieq, ilt, ile]
  -- region 1
  obtain ⟨x8, hx8, h⟩ := bind_some h
  refine VW.cut [(4, .val (.bool x8))] ?_ fun hy => ?_
  rotate_left
  · clear h
    obtain ⟨v1, hv1, hx8⟩ := bind_some hx8
    obtain ⟨v2, hv2, hx8⟩ := bind_some hx8
    by_cases hp3 : v2 = true
    · rw [if_pos hp3] at hx8
      have hp3b : v2 = true := by simpa [ieq, ilt, ile] using hp3
      have hp3s := hp3b
      try simp at hp3s
      obtain ⟨v4, hv4, hx8⟩ := bind_some hx8
      by_cases hp5 : (a1.length : Int) = v4
      · rw [if_pos hp5] at hx8
        have hp5b : ieq (a1.length : Int) v4 = true := by simpa [ieq, ilt, ile] using hp5
        have hp5s := hp5b
        try simp at hp5s
        obtain ⟨v6, hv6, hx8⟩ := bind_some hx8
        obtain ⟨hv6a, hv6b, hv6c, hv6d⟩ := idx_some hv6
        replace hv6b : 0 < a1.length := hv6b
        replace hv6c : a1[0]? = some v6 := hv6c
        replace hv6d : ∀ h, a1[0]'h = v6 := hv6d
        obtain ⟨v7, hv7, hx8⟩ := bind_some hx8
        cases hx8
        refine VW.wds tau_ok ((((Sound.none.add 6 (i_Doubling_field_ok hv1) rfl).add 8 (i_field_isMatrix_ok hv2) rfl).add 13 (i_Doubling_size_ok hv4) rfl).add 22 (i_Doubling_size_ok hv7) rfl) try_mixed [some 5, some 6, some 7, some 8, some 9, some 10, some 11, some 12, some 13, some 14, some 15, some 16, some 17, some 18, some 19, some 20, some 21, some 22, some 23, some 24, some 4] _ 21 rfl (by kernel_rfl) (by rfl) ?_ hy
        simp [hp3b, hp3s, hp5b, hp5s, hv6a, hv6b, hv6c, hv6d] <;> simp [ieq, ilt, ile]
      · rw [if_neg hp5] at hx8
        have hp5b : ieq (a1.length : Int) v4 = false := by simpa [ieq, ilt, ile] using hp5
        have hp5s := hp5b
        try simp at hp5s
        cases hx8
        refine VW.wds tau_ok (((Sound.none.add 6 (i_Doubling_field_ok hv1) rfl).add 8 (i_field_isMatrix_ok hv2) rfl).add 13 (i_Doubling_size_ok hv4) rfl) try_mixed [some 5, some 6, some 7, some 8, some 9, some 10, some 11, some 12, some 13, some 14, some 15, some 16, some 17, some 18, some 19, some 20, some 21, some 22, some 23, some 24, some 4] _ 21 rfl (by kernel_rfl) (by rfl) ?_ hy
        simp [hp3b, hp3s, hp5b, hp5s] <;> simp [ieq, ilt, ile]
    · rw [if_neg hp3] at hx8
      have hp3b : v2 = false := by simpa [ieq, ilt, ile] using hp3
      have hp3s := hp3b
      try simp at hp3s
      cases hx8
      refine VW.wds tau_ok ((Sound.none.add 6 (i_Doubling_field_ok hv1) rfl).add 8 (i_field_isMatrix_ok hv2) rfl) try_mixed [some 5, some 6, some 7, some 8, some 9, some 10, some 11, some 12, some 13, some 14, some 15, some 16, some 17, some 18, some 19, some 20, some 21, some 22, some 23, some 24, some 4] _ 21 rfl (by kernel_rfl) (by rfl) ?_ hy
      simp [hp3b, hp3s] <;> simp [ieq, ilt, ile]
  cases h
  refine VW.ret ?_
  simp [Post, PostM, PostC, PostC2, Nx, Bk]

theorem i_checkThree_c1_ok {a0 : List (List Int)} {a1_0 : Int} {a1_1 : List Int} {r : Bool} (h : i_checkThree_c1 a0 a1_0 a1_1 = some r) :
    VCall Try.prog 183 [dM a0, .ptr [i64 a1_0, dI a1_1]] [.sc (.bool r)] := by
  unfold i_checkThree_c1 at h
  refine VCall.enter Try.call183 Try.func183 rfl 8 Try.ntmps183 (by simp) [.tmp 3] rfl ?_
  show VW _ _ _ (mk [(0, .val (dM a0)), (1, .val (.ptr [i64 a1_0, dI a1_1]))]) _
  -- region 0
  refine VW.ws tau_ok Sound.none [some 3] [(0, .val (dM a0)), (1, .val (.ptr [i64 a1_0, dI a1_1]))] rfl ?_ ?_
  · simp <;> simp [ieq, ilt, ile]
  -- region 1
  obtain ⟨v1, hv1, h⟩ := bind_some h
  refine VW.ws tau_ok (Sound.none.add 6 (i_Doubling_isMatrix_ok hv1) rfl) [some 4, some 5, some 6, some 7, some 3] [(3, .val (.bool (!v1)))] rfl ?_ ?_
  · simp <;> simp [ieq, ilt, ile]
  cases h
  refine VW.ret ?_
  simp [Post, PostM, PostC, PostC2, Nx, Bk]

theorem g_slices_IndexFunc_LLLI_LLI_of_i_checkThree_c1_ok {a0 : List (List (List Int))} {a1_0_0 : Int} {a1_0_1 : List Int} {r : Int} (h : g_slices_IndexFunc_LLLI_LLI_of_i_checkThree_c1 a0 a1_0_0 a1_0_1 = some r) :
    VCall Try.prog 228 [dC a0, .fn 183 [.ptr [i64 a1_0_0, dI a1_0_1]]] [.sc (i64 r)] := by
  unfold g_slices_IndexFunc_LLLI_LLI_of_i_checkThree_c1 at h
  refine VCall.enter Try.call228 Try.func228 rfl 19 Try.ntmps228 (by simp) [.tmp 4] rfl ?_
  show VW _ _ _ (mk [(0, .val (dC a0)), (1, .val (.fn 183 [.ptr [i64 a1_0_0, dI a1_0_1]]))]) _
  -- region 0
  refine VW.ws tau_ok Sound.none [some 4] [(0, .val (dC a0)), (1, .val (.fn 183 [.ptr [i64 a1_0_0, dI a1_0_1]]))] rfl ?_ ?_
  · simp <;> simp [ieq, ilt, ile]
  refine VW.sqc fun K1 hK1 hCK1 => ?_
  -- region 1
  refine VW.ws tau_ok Sound.none [some 6, some 7, some 8] [(0, .val (dC a0)), (1, .val (.fn 183 [.ptr [i64 a1_0_0, dI a1_0_1]])), (7, .val (i64 (a0.length : Int))), (8, .val (i64 0))] rfl ?_ ?_
  · simp <;> simp [ieq, ilt, ile]
  obtain ⟨x2, hx2, h⟩ := bind_some h
  refine VW.tlO (fun y4 => []) x2 (hCK1) ?_ ?_
  · clear hx2
    rintro y4 rfl
    dsimp only at h
    refine hK1 _ ?_
    -- region 7
    refine VW.ws tau_ok Sound.none [some 4] [(4, .val (i64 (-1)))] rfl ?_ ?_
    · simp <;> simp [ieq, ilt, ile]
    cases h
    refine VW.ret ?_
    simp [Post, PostM, PostC, PostC2, Nx, Bk]
  refine VW.block ?_
  refine VW.loopF (g_slices_IndexFunc_LLLI_LLI_of_i_checkThree_c1_L0 a0 a1_0_0 a1_0_1) (fun s2 => [(0, .val (dC a0)), (1, .val (.fn 183 [.ptr [i64 a1_0_0, dI a1_0_1]])), (7, .val (i64 (a0.length : Int))), (8, .val (i64 s2))]) hx2 (Fits.of rfl) ?_
  clear hx2
  intro s2 ox2 hx2o hx2b
  unfold g_slices_IndexFunc_LLLI_LLI_of_i_checkThree_c1_L0 at hx2o
  -- region 2
  refine VW.ws tau_ok Sound.none [some 9] [(0, .val (dC a0)), (1, .val (.fn 183 [.ptr [i64 a1_0_0, dI a1_0_1]])), (7, .val (i64 (a0.length : Int))), (8, .val (i64 s2)), (9, .val (.bool (ilt s2 (a0.length : Int))))] rfl ?_ ?_
  · simp <;> simp [ieq, ilt, ile]
  refine VW.sqc fun K5 hK5 hCK5 => ?_
  refine VW.cond rfl (fun hb6 => ?_) (fun hb6 => ?_)
  rotate_left
  ·
    replace hb6 : ¬ (s2 < (a0.length : Int)) := by simpa [ieq, ilt, ile] using hb6
    rw [if_neg hb6] at hx2o
    refine VW.exit ?_
    cases hx2o
    have hq := hx2b _ rfl
    subst hq
    exact ⟨_, rfl, Fits.of rfl⟩
  replace hb6 : s2 < (a0.length : Int) := by simpa [ieq, ilt, ile] using hb6
  rw [if_pos hb6] at hx2o
  refine VW.skip ?_
  refine hK5 _ ?_
  refine VW.sqc fun K7 hK7 hCK7 => ?_
  refine VW.block ?_
  -- region 3
  refine VW.ws tau_ok Sound.none [some 10, some 5] [(0, .val (dC a0)), (1, .val (.fn 183 [.ptr [i64 a1_0_0, dI a1_0_1]])), (5, .val (i64 s2)), (7, .val (i64 (a0.length : Int))), (8, .val (i64 s2))] rfl ?_ ?_
  · simp <;> simp [ieq, ilt, ile]
  -- region 4
  obtain ⟨v8, hv8, hx2o⟩ := bind_some hx2o
  obtain ⟨hv8a, hv8b, hv8c, hv8d⟩ := idx_some hv8
  obtain ⟨v9, hv9, hx2o⟩ := bind_some hx2o
  refine VW.ws tau_ok (Sound.none.add 16 (i_checkThree_c1_ok hv9) rfl) [some 11, some 12, some 13, some 14, some 15, some 16] [(0, .val (dC a0)), (1, .val (.fn 183 [.ptr [i64 a1_0_0, dI a1_0_1]])), (5, .val (i64 s2)), (7, .val (i64 (a0.length : Int))), (8, .val (i64 s2)), (16, .val (.bool v9))] rfl ?_ ?_
  · simp [hv8a, hv8b, hv8c, hv8d] <;> simp [ieq, ilt, ile]
  refine VW.cond rfl (fun hb10 => ?_) (fun hb10 => ?_)
  rotate_left
  ·
    replace hb10 : ¬ (v9 = true) := by simpa [ieq, ilt, ile] using hb10
    rw [if_neg hb10] at hx2o
    refine VW.skip ?_
    refine hK7 _ ?_
    -- region 6
    refine VW.wr tau_ok Sound.none [some 18, some 8] [(0, .val (dC a0)), (1, .val (.fn 183 [.ptr [i64 a1_0_0, dI a1_0_1]])), (7, .val (i64 (a0.length : Int))), (8, .val (i64 (w64 (s2 + 1))))] rfl ?_ ?_
    · simp <;> simp [ieq, ilt, ile]
    cases hx2o
    exact ⟨_, rfl, Fits.of rfl⟩
  replace hb10 : v9 = true := by simpa [ieq, ilt, ile] using hb10
  rw [if_pos hb10] at hx2o
  -- region 5
  refine VW.ws tau_ok Sound.none [some 17, some 4] [(4, .val (i64 s2))] rfl ?_ ?_
  · simp <;> simp [ieq, ilt, ile]
  cases hx2o
  have hq := hx2b _ rfl
  subst hq
  dsimp only at h
  cases h
  refine VW.ret ?_
  simp [Post, PostM, PostC, PostC2, Nx, Bk]

theorem g_slices_ContainsFunc_LLLI_LLI_of_i_checkThree_c1_ok {a0 : List (List (List Int))} {a1_0_0 : Int} {a1_0_1 : List Int} {r : Bool} (h : g_slices_ContainsFunc_LLLI_LLI_of_i_checkThree_c1 a0 a1_0_0 a1_0_1 = some r) :
    VCall Try.prog 182 [dC a0, .fn 183 [.ptr [i64 a1_0_0, dI a1_0_1]]] [.sc (.bool r)] := by
  unfold g_slices_ContainsFunc_LLLI_LLI_of_i_checkThree_c1 at h
  refine VCall.enter Try.call182 Try.func182 rfl 9 Try.ntmps182 (by simp) [.tmp 4] rfl ?_
  show VW _ _ _ (mk [(0, .val (dC a0)), (1, .val (.fn 183 [.ptr [i64 a1_0_0, dI a1_0_1]]))]) _
  -- region 0
  refine VW.ws tau_ok Sound.none [some 4] [(0, .val (dC a0)), (1, .val (.fn 183 [.ptr [i64 a1_0_0, dI a1_0_1]]))] rfl ?_ ?_
  · simp <;> simp [ieq, ilt, ile]
  -- region 1
  obtain ⟨v1, hv1, h⟩ := bind_some h
  refine VW.ws tau_ok (Sound.none.add 7 (g_slices_IndexFunc_LLLI_LLI_of_i_checkThree_c1_ok hv1) rfl) [some 5, some 6, some 7, some 8, some 4] [(4, .val (.bool (ile 0 v1)))] rfl ?_ ?_
  · simp <;> simp [ieq, ilt, ile]
  cases h
  refine VW.ret ?_
  simp [Post, PostM, PostC, PostC2, Nx, Bk]

theorem i_checkThree_ok {a0_0 : Int} {a0_1 : List Int} {a1 : List (List Int)} {a2 : List (List (List Int))} {r : Int} (h : i_checkThree a0_0 a0_1 a1 a2 = some r) :
    VCall Try.prog 90 [.agg [i64 a0_0, dI a0_1], dM a1, dC a2] [.sc (i64 r)] := by
  unfold i_checkThree at h
  refine VCall.enter Try.call90 Try.func90 rfl 26 Try.ntmps90 (by simp) [.tmp 6] rfl ?_
  show VW _ _ _ (mk [(0, .val (.agg [i64 a0_0, dI a0_1])), (1, .val (dM a1)), (2, .val (dC a2))]) _
  -- region 0
  refine VW.ws tau_ok Sound.none [some 3, some 6] [(1, .val (dM a1)), (2, .val (dC a2)), (3, .val (.ptr [i64 a0_0, dI a0_1]))] rfl ?_ ?_
  · simp <;> simp [ieq, ilt, ile]
  refine VW.sqc fun K1 hK1 hCK1 => ?_
  refine VW.block ?_
  -- region 1
  obtain ⟨v2, hv2, h⟩ := bind_some h
  refine VW.ws tau_ok (Sound.none.add 9 (i_IsDoubling_ok hv2) rfl) [some 8, some 9, some 10, some 7] [(1, .val (dM a1)), (2, .val (dC a2)), (3, .val (.ptr [i64 a0_0, dI a0_1])), (7, .val (.bool (!v2)))] rfl ?_ ?_
  · simp <;> simp [ieq, ilt, ile]
  refine VW.cond rfl (fun hb3 => ?_) (fun hb3 => ?_)
  ·
    replace hb3 : v2 = false := by simpa [ieq, ilt, ile] using hb3
    rw [if_pos hb3] at h
    -- region 2
    refine VW.ws tau_ok Sound.none [some 6] [(6, .val (i64 1))] rfl ?_ ?_
    · simp <;> simp [ieq, ilt, ile]
    cases h
    refine VW.ret ?_
    simp [Post, PostM, PostC, PostC2, Nx, Bk]
  replace hb3 : ¬ (v2 = false) := by simpa [ieq, ilt, ile] using hb3
  rw [if_neg hb3] at h
  -- region 3
  refine VW.ws tau_ok Sound.none [some 12, some 13, some 14, some 15, some 11] [(1, .val (dM a1)), (2, .val (dC a2)), (3, .val (.ptr [i64 a0_0, dI a0_1])), (11, .val (.bool (ilt 3 (a0_1.length : Int))))] rfl ?_ ?_
  · simp <;> simp [ieq, ilt, ile]
  refine VW.cond rfl (fun hb4 => ?_) (fun hb4 => ?_)
  ·
    replace hb4 : 3 < (a0_1.length : Int) := by simpa [ieq, ilt, ile] using hb4
    rw [if_pos hb4] at h
    -- region 4
    refine VW.ws tau_ok Sound.none [some 6] [(6, .val (i64 3))] rfl ?_ ?_
    · simp <;> simp [ieq, ilt, ile]
    cases h
    refine VW.ret ?_
    simp [Post, PostM, PostC, PostC2, Nx, Bk]
  replace hb4 : ¬ (3 < (a0_1.length : Int)) := by simpa [ieq, ilt, ile] using hb4
  rw [if_neg hb4] at h
  -- region 5
  obtain ⟨x8, hx8, h⟩ := bind_some h
  refine VW.cut [(16, .val (.bool x8))] ?_ fun hy => ?_
  rotate_left
  · clear h
    obtain ⟨v5, hv5, hx8⟩ := bind_some hx8
    by_cases hp6 : ¬ v5 = 0
    · rw [if_pos hp6] at hx8
      have hp6b : ieq v5 0 = false := by simpa [ieq, ilt, ile] using hp6
      have hp6s := hp6b
      try simp at hp6s
      cases hx8
      refine VW.ws tau_ok (Sound.none.add 19 (i_checkElements_ok hv5) rfl) [some 17, some 18, some 19, some 20, some 21, some 22, some 23, some 24, some 25, some 16] _ rfl ?_ hy
      simp [hp6b, hp6s] <;> simp [ieq, ilt, ile]
    · rw [if_neg hp6] at hx8
      have hp6b : ieq v5 0 = true := by simpa [ieq, ilt, ile] using hp6
      have hp6s := hp6b
      try simp at hp6s
      obtain ⟨v7, hv7, hx8⟩ := bind_some hx8
      cases hx8
      refine VW.ws tau_ok ((Sound.none.add 19 (i_checkElements_ok hv5) rfl).add 24 (g_slices_ContainsFunc_LLLI_LLI_of_i_checkThree_c1_ok hv7) rfl) [some 17, some 18, some 19, some 20, some 21, some 22, some 23, some 24, some 25, some 16] _ rfl ?_ hy
      simp [hp6b, hp6s] <;> simp [ieq, ilt, ile]
  refine VW.cond rfl (fun hb9 => ?_) (fun hb9 => ?_)
  ·
    replace hb9 : x8 = true := by simpa [ieq, ilt, ile] using hb9
    rw [if_pos hb9] at h
    -- region 6
    refine VW.ws tau_ok Sound.none [some 6] [(6, .val (i64 2))] rfl ?_ ?_
    · simp <;> simp [ieq, ilt, ile]
    cases h
    refine VW.ret ?_
    simp [Post, PostM, PostC, PostC2, Nx, Bk]
  replace hb9 : ¬ (x8 = true) := by simpa [ieq, ilt, ile] using hb9
  rw [if_neg hb9] at h
  refine VW.skip ?_
  refine hK1 _ ?_
  -- region 7
  refine VW.ws tau_ok Sound.none [some 6] [(6, .val (i64 0))] rfl ?_ ?_
  · simp <;> simp [ieq, ilt, ile]
  cases h
  refine VW.ret ?_
  simp [Post, PostM, PostC, PostC2, Nx, Bk]

theorem i_checkTriples_ok {a0_0 : Int} {a0_1 : List Int} {a1 : List ((List (List Int)) × (List (List Int)) × (List (List Int)))} {r : Int} (h : i_checkTriples a0_0 a0_1 a1 = some r) :
    VCall Try.prog 94 [.agg [i64 a0_0, dI a0_1], .recs 3 (a1.map (fun x => .agg [dM x.1, dM x.2.1, dM x.2.2]))] [.sc (i64 r)] := by
  unfold i_checkTriples at h
  refine VCall.enter Try.call94 Try.func94 rfl 28 Try.ntmps94 (by simp) [.tmp 4] rfl ?_
  show VW _ _ _ (mk [(0, .val (.agg [i64 a0_0, dI a0_1])), (1, .val (.recs 3 (a1.map (fun x => .agg [dM x.1, dM x.2.1, dM x.2.2]))))]) _
  -- region 0
  refine VW.ws tau_ok Sound.none [some 2, some 4] [(1, .val (.recs 3 (a1.map (fun x => .agg [dM x.1, dM x.2.1, dM x.2.2])))), (2, .val (.ptr [i64 a0_0, dI a0_1]))] rfl ?_ ?_
  · simp <;> simp [ieq, ilt, ile]
  -- region 1
  refine VW.ws tau_ok Sound.none [some 8, some 5] [(1, .val (.recs 3 (a1.map (fun x => .agg [dM x.1, dM x.2.1, dM x.2.2])))), (2, .val (.ptr [i64 a0_0, dI a0_1])), (5, .ref 5 [] true (dC []))] rfl ?_ ?_
  · simp <;> simp [ieq, ilt, ile]
  refine VW.sqc fun K1 hK1 hCK1 => ?_
  -- region 2
  refine VW.ws tau_ok Sound.none [some 9, some 10, some 11] [(2, .val (.ptr [i64 a0_0, dI a0_1])), (5, .ref 5 [] true (dC [])), (9, .val (.recs 3 (a1.map (fun x => .agg [dM x.1, dM x.2.1, dM x.2.2])))), (10, .val (i64 (a1.length : Int))), (11, .val (i64 0))] rfl ?_ ?_
  · simp <;> simp [ieq, ilt, ile]
  obtain ⟨x2, hx2, h⟩ := bind_some h
  refine VW.tlE [(2, .val (.ptr [i64 a0_0, dI a0_1])), (5, .ref 5 [] false (dC x2))] (hCK1) ?_ ?_
  · clear hx2
    refine hK1 _ ?_
    -- region 7
    obtain ⟨v9, hv9, h⟩ := bind_some h
    refine VW.ws tau_ok (Sound.none.add 27 (i_checkThree_ok hv9) rfl) [some 25, some 26, some 27, some 4] [(4, .val (i64 v9))] rfl ?_ ?_
    · simp <;> simp [ieq, ilt, ile]
    cases h
    refine VW.ret ?_
    simp [Post, PostM, PostC, PostC2, Nx, Bk]
  refine VW.block ?_
  refine VW.loopF (i_checkTriples_L0 a1) (fun s2 => [(2, .val (.ptr [i64 a0_0, dI a0_1])), (5, .ref 5 [] false (dC s2.1)), (9, .val (.recs 3 (a1.map (fun x => .agg [dM x.1, dM x.2.1, dM x.2.2])))), (10, .val (i64 (a1.length : Int))), (11, .val (i64 s2.2))]) hx2 (Fits.weak (s := 5) rfl (by simp) (Fits.of rfl)) ?_
  clear hx2
  intro s2 ox2 hx2o hx2b
  unfold i_checkTriples_L0 at hx2o
  -- region 3
  refine VW.ws tau_ok Sound.none [some 12] [(2, .val (.ptr [i64 a0_0, dI a0_1])), (5, .ref 5 [] false (dC s2.1)), (9, .val (.recs 3 (a1.map (fun x => .agg [dM x.1, dM x.2.1, dM x.2.2])))), (10, .val (i64 (a1.length : Int))), (11, .val (i64 s2.2)), (12, .val (.bool (ilt s2.2 (a1.length : Int))))] rfl ?_ ?_
  · simp <;> simp [ieq, ilt, ile]
  refine VW.sqc fun K4 hK4 hCK4 => ?_
  refine VW.cond rfl (fun hb5 => ?_) (fun hb5 => ?_)
  rotate_left
  ·
    replace hb5 : ¬ (s2.2 < (a1.length : Int)) := by simpa [ieq, ilt, ile] using hb5
    rw [if_neg hb5] at hx2o
    refine VW.exit ?_
    cases hx2o
    have hq := hx2b _ rfl
    subst hq
    exact Fits.of rfl
  replace hb5 : s2.2 < (a1.length : Int) := by simpa [ieq, ilt, ile] using hb5
  rw [if_pos hb5] at hx2o
  refine VW.skip ?_
  refine hK4 _ ?_
  refine VW.sqc fun K6 hK6 hCK6 => ?_
  refine VW.block ?_
  -- region 4
  obtain ⟨v7, hv7, hx2o⟩ := bind_some hx2o
  obtain ⟨hv7a, hv7b, hv7c, hv7d⟩ := idx_some hv7
  refine VW.ws tau_ok Sound.none [some 13, some 14, some 7, none] [(2, .val (.ptr [i64 a0_0, dI a0_1])), (5, .ref 5 [] false (dC s2.1)), (7, .val (.ptr [dM v7.1, dM v7.2.1, dM v7.2.2])), (9, .val (.recs 3 (a1.map (fun x => .agg [dM x.1, dM x.2.1, dM x.2.2])))), (10, .val (i64 (a1.length : Int))), (11, .val (i64 s2.2))] rfl ?_ ?_
  · simp [hv7a, hv7b, hv7c, hv7d] <;> simp [ieq, ilt, ile]
  -- region 5
  obtain ⟨hc8, hx2o⟩ := chk_some hx2o
  have hc8s := hc8
  try simp at hc8s
  refine VW.wr tau_ok Sound.none [some 15, some 16, some 17, some 18, some 19, some 20, some 21, some 22, some 23, some 5] [(2, .val (.ptr [i64 a0_0, dI a0_1])), (5, .ref 5 [] false (dC (s2.1 ++ [v7.1, v7.2.1, v7.2.2]))), (9, .val (.recs 3 (a1.map (fun x => .agg [dM x.1, dM x.2.1, dM x.2.2])))), (10, .val (i64 (a1.length : Int))), (11, .val (i64 s2.2))] rfl ?_ ?_
  · simp [hc8, hc8s] <;> simp [ieq, ilt, ile]
  refine hK6 _ ?_
  -- region 6
  refine VW.wr tau_ok Sound.none [some 24, some 11] [(2, .val (.ptr [i64 a0_0, dI a0_1])), (5, .ref 5 [] false (dC (s2.1 ++ [v7.1, v7.2.1, v7.2.2]))), (9, .val (.recs 3 (a1.map (fun x => .agg [dM x.1, dM x.2.1, dM x.2.2])))), (10, .val (i64 (a1.length : Int))), (11, .val (i64 (w64 (s2.2 + 1))))] rfl ?_ ?_
  · simp <;> simp [ieq, ilt, ile]
  cases hx2o
  exact ⟨_, rfl, Fits.of rfl⟩

theorem i_transpose_ok {a0 : List (List Int)} {r : List (List Int)} (h : i_transpose a0 = some r) :
    VCall Try.prog 123 [dM a0] [.own true (dM r)] := by
  unfold i_transpose at h
  refine VCall.enter Try.call123 Try.func123 rfl 38 Try.ntmps123 (by simp) [.tmp 2] rfl ?_
  show VW _ _ _ (mk [(0, .val (dM a0))]) _
  -- region 0
  refine VW.ws tau_ok Sound.none [some 2] [(0, .val (dM a0))] rfl ?_ ?_
  · simp <;> simp [ieq, ilt, ile]
  -- region 1
  refine VW.ws tau_ok Sound.none [some 7, some 3] [(0, .val (dM a0)), (3, .ref 3 [] true (dM []))] rfl ?_ ?_
  · simp <;> simp [ieq, ilt, ile]
  refine VW.sqc fun K1 hK1 hCK1 => ?_
  -- region 2
  obtain ⟨v2, hv2, h⟩ := bind_some h
  obtain ⟨hv2a, hv2b, hv2c, hv2d⟩ := idx_some hv2
  replace hv2b : 0 < a0.length := hv2b
  replace hv2c : a0[0]? = some v2 := hv2c
  replace hv2d : ∀ h, a0[0]'h = v2 := hv2d
  refine VW.ws tau_ok Sound.none [some 8, some 9, some 10, some 11, some 12] [(0, .val (dM a0)), (3, .ref 3 [] true (dM [])), (11, .val (i64 (v2.length : Int))), (12, .val (i64 0))] rfl ?_ ?_
  · simp [hv2a, hv2b, hv2c, hv2d] <;> simp [ieq, ilt, ile]
  obtain ⟨x3, hx3, h⟩ := bind_some h
  refine VW.tlE [(3, .ref 3 [] true (dM x3))] (hCK1) ?_ ?_
  · clear hx3
    refine hK1 _ ?_
    -- region 13
    refine VW.ws tau_ok Sound.none [some 37, some 2] [(2, .ref 2 [] true (dM x3))] rfl ?_ ?_
    · simp <;> simp [ieq, ilt, ile]
    cases h
    refine VW.ret ?_
    simp [Post, PostM, PostC, PostC2, Nx, Bk]
  refine VW.block ?_
  refine VW.loopF (i_transpose_L0 a0 v2) (fun s3 => [(0, .val (dM a0)), (3, .ref 3 [] true (dM s3.1)), (11, .val (i64 (v2.length : Int))), (12, .val (i64 s3.2))]) hx3 (Fits.of rfl) ?_
  clear hx3
  intro s3 ox3 hx3o hx3b
  unfold i_transpose_L0 at hx3o
  -- region 3
  refine VW.ws tau_ok Sound.none [some 13] [(0, .val (dM a0)), (3, .ref 3 [] true (dM s3.1)), (11, .val (i64 (v2.length : Int))), (12, .val (i64 s3.2)), (13, .val (.bool (ilt s3.2 (v2.length : Int))))] rfl ?_ ?_
  · simp <;> simp [ieq, ilt, ile]
  refine VW.sqc fun K5 hK5 hCK5 => ?_
  refine VW.cond rfl (fun hb6 => ?_) (fun hb6 => ?_)
  rotate_left
  ·
    replace hb6 : ¬ (s3.2 < (v2.length : Int)) := by simpa [ieq, ilt, ile] using hb6
    rw [if_neg hb6] at hx3o
    refine VW.exit ?_
    cases hx3o
    have hq := hx3b _ rfl
    subst hq
    exact Fits.of rfl
  replace hb6 : s3.2 < (v2.length : Int) := by simpa [ieq, ilt, ile] using hb6
  rw [if_pos hb6] at hx3o
  refine VW.skip ?_
  refine hK5 _ ?_
  refine VW.sqc fun K7 hK7 hCK7 => ?_
  refine VW.block ?_
  -- region 4
  refine VW.ws tau_ok Sound.none [some 14, some 4] [(0, .val (dM a0)), (3, .ref 3 [] true (dM s3.1)), (4, .val (i64 s3.2)), (11, .val (i64 (v2.length : Int))), (12, .val (i64 s3.2))] rfl ?_ ?_
  · simp <;> simp [ieq, ilt, ile]
  -- region 5
  refine VW.ws tau_ok Sound.none [some 15, some 5] [(0, .val (dM a0)), (3, .ref 3 [] true (dM s3.1)), (4, .val (i64 s3.2)), (5, .ref 5 [] true (dI [])), (11, .val (i64 (v2.length : Int))), (12, .val (i64 s3.2))] rfl ?_ ?_
  · simp <;> simp [ieq, ilt, ile]
  refine VW.sqc fun K8 hK8 hCK8 => ?_
  -- region 6
  refine VW.ws tau_ok Sound.none [some 16, some 17, some 18] [(0, .val (dM a0)), (3, .ref 3 [] true (dM s3.1)), (4, .val (i64 s3.2)), (5, .ref 5 [] true (dI [])), (11, .val (i64 (v2.length : Int))), (12, .val (i64 s3.2)), (17, .val (i64 (a0.length : Int))), (18, .val (i64 0))] rfl ?_ ?_
  · simp <;> simp [ieq, ilt, ile]
  obtain ⟨x9, hx9, hx3o⟩ := bind_some hx3o
  refine VW.tlE [(0, .val (dM a0)), (3, .ref 3 [] true (dM s3.1)), (5, .ref 5 [] true (dI x9)), (11, .val (i64 (v2.length : Int))), (12, .val (i64 s3.2))] (hCK8) ?_ ?_
  · clear hx9
    refine hK8 _ ?_
    -- region 11
    obtain ⟨hc17, hx3o⟩ := chk_some hx3o
    have hc17s := hc17
    try simp at hc17s
    refine VW.wr tau_ok Sound.none [some 32, some 33, some 34, some 35, some 3] [(0, .val (dM a0)), (3, .ref 3 [] true (dM (s3.1 ++ [x9]))), (11, .val (i64 (v2.length : Int))), (12, .val (i64 s3.2))] rfl ?_ ?_
    · simp [hc17, hc17s] <;> simp [ieq, ilt, ile]
    refine hK7 _ ?_
    -- region 12
    refine VW.wr tau_ok Sound.none [some 36, some 12] [(0, .val (dM a0)), (3, .ref 3 [] true (dM (s3.1 ++ [x9]))), (11, .val (i64 (v2.length : Int))), (12, .val (i64 (w64 (s3.2 + 1))))] rfl ?_ ?_
    · simp <;> simp [ieq, ilt, ile]
    cases hx3o
    exact ⟨_, rfl, Fits.of rfl⟩
  refine VW.block ?_
  refine VW.loopF (i_transpose_L1 a0 s3) (fun s9 => [(0, .val (dM a0)), (3, .ref 3 [] true (dM s3.1)), (4, .val (i64 s3.2)), (5, .ref 5 [] true (dI s9.1)), (11, .val (i64 (v2.length : Int))), (12, .val (i64 s3.2)), (17, .val (i64 (a0.length : Int))), (18, .val (i64 s9.2))]) hx9 (Fits.of rfl) ?_
  clear hx9
  intro s9 ox9 hx9o hx9b
  unfold i_transpose_L1 at hx9o
  -- region 7
  refine VW.ws tau_ok Sound.none [some 19] [(0, .val (dM a0)), (3, .ref 3 [] true (dM s3.1)), (4, .val (i64 s3.2)), (5, .ref 5 [] true (dI s9.1)), (11, .val (i64 (v2.length : Int))), (12, .val (i64 s3.2)), (17, .val (i64 (a0.length : Int))), (18, .val (i64 s9.2)), (19, .val (.bool (ilt s9.2 (a0.length : Int))))] rfl ?_ ?_
  · simp <;> simp [ieq, ilt, ile]
  refine VW.sqc fun K11 hK11 hCK11 => ?_
  refine VW.cond rfl (fun hb12 => ?_) (fun hb12 => ?_)
  rotate_left
  ·
    replace hb12 : ¬ (s9.2 < (a0.length : Int)) := by simpa [ieq, ilt, ile] using hb12
    rw [if_neg hb12] at hx9o
    refine VW.exit ?_
    cases hx9o
    have hq := hx9b _ rfl
    subst hq
    exact Fits.of rfl
  replace hb12 : s9.2 < (a0.length : Int) := by simpa [ieq, ilt, ile] using hb12
  rw [if_pos hb12] at hx9o
  refine VW.skip ?_
  refine hK11 _ ?_
  refine VW.sqc fun K13 hK13 hCK13 => ?_
  refine VW.block ?_
  -- region 8
  refine VW.ws tau_ok Sound.none [some 20, some 6] [(0, .val (dM a0)), (3, .ref 3 [] true (dM s3.1)), (4, .val (i64 s3.2)), (5, .ref 5 [] true (dI s9.1)), (6, .val (i64 s9.2)), (11, .val (i64 (v2.length : Int))), (12, .val (i64 s3.2)), (17, .val (i64 (a0.length : Int))), (18, .val (i64 s9.2))] rfl ?_ ?_
  · simp <;> simp [ieq, ilt, ile]
  -- region 9
  obtain ⟨v14, hv14, hx9o⟩ := bind_some hx9o
  obtain ⟨hv14a, hv14b, hv14c, hv14d⟩ := idx_some hv14
  obtain ⟨v15, hv15, hx9o⟩ := bind_some hx9o
  obtain ⟨hv15a, hv15b, hv15c, hv15d⟩ := idx_some hv15
  obtain ⟨hc16, hx9o⟩ := chk_some hx9o
  have hc16s := hc16
  try simp at hc16s
  refine VW.wr tau_ok Sound.none [some 21, some 22, some 23, some 24, some 25, some 26, some 27, some 28, some 29, some 30, some 5] [(0, .val (dM a0)), (3, .ref 3 [] true (dM s3.1)), (4, .val (i64 s3.2)), (5, .ref 5 [] true (dI (s9.1 ++ [v15]))), (11, .val (i64 (v2.length : Int))), (12, .val (i64 s3.2)), (17, .val (i64 (a0.length : Int))), (18, .val (i64 s9.2))] rfl ?_ ?_
  · simp [hv14a, hv14b, hv14c, hv14d, hv15a, hv15b, hv15c, hv15d, hc16, hc16s] <;> simp [ieq, ilt, ile]
  refine hK13 _ ?_
  -- region 10
  refine VW.wr tau_ok Sound.none [some 31, some 18] [(0, .val (dM a0)), (3, .ref 3 [] true (dM s3.1)), (4, .val (i64 s3.2)), (5, .ref 5 [] true (dI (s9.1 ++ [v15]))), (11, .val (i64 (v2.length : Int))), (12, .val (i64 s3.2)), (17, .val (i64 (a0.length : Int))), (18, .val (i64 (w64 (s9.2 + 1))))] rfl ?_ ?_
  · simp <;> simp [ieq, ilt, ile]
  cases hx9o
  exact ⟨_, rfl, Fits.of rfl⟩

theorem i_field_num_ok {a0 : Int} {a1 : Int} {r : Int} (h : i_field_num a0 a1 = some r) :
    VCall Try.prog 201 [i64 a0, i64 a1] [.sc (i64 r)] := by
  unfold i_field_num at h
  refine VCall.enter Try.call201 Try.func201 rfl 14 Try.ntmps201 (by simp) [.tmp 4] rfl ?_
  show VW _ _ _ (mk [(0, .val (i64 a0)), (1, .val (i64 a1))]) _
  -- region 0
  refine VW.ws tau_ok Sound.none [some 4] [(0, .val (i64 a0)), (1, .val (i64 a1))] rfl ?_ ?_
  · simp <;> simp [ieq, ilt, ile]
  -- region 1
  refine VW.ws tau_ok Sound.none [some 6, some 5] [(1, .val (i64 a1)), (5, .val (i64 a0))] rfl ?_ ?_
  · simp <;> simp [ieq, ilt, ile]
  -- region 2
  obtain ⟨hc1, h⟩ := chk_some h
  have hc1s := hc1
  try simp at hc1s
  obtain ⟨hc2, h⟩ := chk_some h
  have hc2s := hc2
  try simp at hc2s
  refine VW.ws tau_ok Sound.none [some 7, some 8, some 9, some 10, some 11, some 12, some 13, some 4] [(4, .val (i64 ((w64 ((a1.tmod a0) + a0)).tmod a0)))] rfl ?_ ?_
  · simp [hc1, hc1s, hc2, hc2s] <;> simp [ieq, ilt, ile]
  cases h
  refine VW.ret ?_
  simp [Post, PostM, PostC, PostC2, Nx, Bk]
end Go.Vam
