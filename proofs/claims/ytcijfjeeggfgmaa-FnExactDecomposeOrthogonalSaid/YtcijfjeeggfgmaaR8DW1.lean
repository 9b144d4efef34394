import Derived.Test.YtcijfjeeggfgmaaR8T
import Derived.Test.YtcijfjeeggfgmaaFmG0
namespace Go.Vam
open Go Go.RowKit Go.Proofs
set_option maxRecDepth 100000
set_option linter.unusedSimpArgs false
set_option linter.unusedVariables false

theorem l_szInt64S_ok {a0 : List Int} {a1 : Int} {r : Int} (h : l_szInt64S a0 a1 = some r) :
    VCall Try.prog 88 [dI a0, i64 a1] [.sc (i64 r)] := by
  unfold l_szInt64S at h
  refine VCall.enter Try.call88 Try.func88 rfl 12 Try.ntmps88 (by simp) [.tmp 4] rfl ?_
  show VW _ _ _ (mk [(0, .val (dI a0)), (1, .val (i64 a1))]) _
  -- region 0
  refine VW.ws tau_ok Sound.none [some 4] [(0, .val (dI a0)), (1, .val (i64 a1))] rfl ?_ ?_
  · simp <;> simp [ieq, ilt, ile]
  -- region 1
  refine VW.ws tau_ok Sound.none [some 5, some 6, some 7, some 8, some 1] [(1, .val (i64 (w64 (a1 - (a0.length : Int)))))] rfl ?_ ?_
  · simp <;> simp [ieq, ilt, ile]
  refine VW.sqc fun K1 hK1 hCK1 => ?_
  -- region 2
  refine VW.ws tau_ok Sound.none [some 9, some 10] [(1, .val (i64 (w64 (a1 - (a0.length : Int))))), (10, .val (.bool (ilt (w64 (a1 - (a0.length : Int))) 0)))] rfl ?_ ?_
  · simp <;> simp [ieq, ilt, ile]
  refine VW.cond rfl (fun hb2 => ?_) (fun hb2 => ?_)
  ·
    replace hb2 : (w64 (a1 - (a0.length : Int))) < 0 := by simpa [ieq, ilt, ile] using hb2
    rw [if_pos hb2] at h
    -- region 3
    refine VW.ws tau_ok Sound.none [some 4] [(4, .val (i64 (-1)))] rfl ?_ ?_
    · simp <;> simp [ieq, ilt, ile]
    cases h
    refine VW.ret ?_
    simp [Post, PostM, PostC, PostC2, Nx, Bk]
  replace hb2 : ¬ ((w64 (a1 - (a0.length : Int))) < 0) := by simpa [ieq, ilt, ile] using hb2
  rw [if_neg hb2] at h
  refine VW.skip ?_
  refine hK1 _ ?_
  -- region 4
  refine VW.ws tau_ok Sound.none [some 11, some 4] [(4, .val (i64 (w64 (a1 - (a0.length : Int)))))] rfl ?_ ?_
  · simp <;> simp [ieq, ilt, ile]
  cases h
  refine VW.ret ?_
  simp [Post, PostM, PostC, PostC2, Nx, Bk]

theorem l_szSpace_ok {a0_0 : Int} {a0_1 : List Int} {a1 : Int} {r : Int} (h : l_szSpace a0_0 a0_1 a1 = some r) :
    VCall Try.prog 15 [.agg [i64 a0_0, dI a0_1], i64 a1] [.sc (i64 r)] := by
  unfold l_szSpace at h
  refine VCall.enter Try.call15 Try.func15 rfl 12 Try.ntmps15 (by simp) [.tmp 4] rfl ?_
  show VW _ _ _ (mk [(0, .val (.agg [i64 a0_0, dI a0_1])), (1, .val (i64 a1))]) _
  -- region 0
  refine VW.ws tau_ok Sound.none [some 2, some 4] [(1, .val (i64 a1)), (2, .val (.ptr [i64 a0_0, dI a0_1]))] rfl ?_ ?_
  · simp <;> simp [ieq, ilt, ile]
  -- region 1
  obtain ⟨v1, hv1, h⟩ := bind_some h
  refine VW.ws tau_ok (Sound.none.add 8 (l_szInt64S_ok hv1) rfl) [some 5, some 6, some 7, some 8, some 1] [(1, .val (i64 v1))] rfl ?_ ?_
  · simp <;> simp [ieq, ilt, ile]
  refine VW.sqc fun K2 hK2 hCK2 => ?_
  -- region 2
  refine VW.ws tau_ok Sound.none [some 9, some 10] [(1, .val (i64 v1)), (10, .val (.bool (ilt v1 0)))] rfl ?_ ?_
  · simp <;> simp [ieq, ilt, ile]
  refine VW.cond rfl (fun hb3 => ?_) (fun hb3 => ?_)
  ·
    replace hb3 : v1 < 0 := by simpa [ieq, ilt, ile] using hb3
    rw [if_pos hb3] at h
    -- region 3
    refine VW.ws tau_ok Sound.none [some 4] [(4, .val (i64 (-1)))] rfl ?_ ?_
    · simp <;> simp [ieq, ilt, ile]
    cases h
    refine VW.ret ?_
    simp [Post, PostM, PostC, PostC2, Nx, Bk]
  replace hb3 : ¬ (v1 < 0) := by simpa [ieq, ilt, ile] using hb3
  rw [if_neg hb3] at h
  refine VW.skip ?_
  refine hK2 _ ?_
  -- region 4
  refine VW.ws tau_ok Sound.none [some 11, some 4] [(4, .val (i64 v1))] rfl ?_ ?_
  · simp <;> simp [ieq, ilt, ile]
  cases h
  refine VW.ret ?_
  simp [Post, PostM, PostC, PostC2, Nx, Bk]

theorem l_szInt64SS_ok {a0 : List (List Int)} {a1 : Int} {r : Int} (h : l_szInt64SS a0 a1 = some r) :
    VCall Try.prog 16 [dM a0, i64 a1] [.sc (i64 r)] := by
  unfold l_szInt64SS at h
  refine VCall.enter Try.call16 Try.func16 rfl 27 Try.ntmps16 (by simp) [.tmp 4] rfl ?_
  show VW _ _ _ (mk [(0, .val (dM a0)), (1, .val (i64 a1))]) _
  -- region 0
  refine VW.ws tau_ok Sound.none [some 4] [(0, .val (dM a0)), (1, .val (i64 a1))] rfl ?_ ?_
  · simp <;> simp [ieq, ilt, ile]
  -- region 1
  refine VW.ws tau_ok Sound.none [some 6, some 7, some 8, some 9, some 1] [(0, .val (dM a0)), (1, .val (i64 (w64 (a1 - (a0.length : Int)))))] rfl ?_ ?_
  · simp <;> simp [ieq, ilt, ile]
  refine VW.sqc fun K1 hK1 hCK1 => ?_
  -- region 2
  refine VW.ws tau_ok Sound.none [some 10, some 11] [(0, .val (dM a0)), (1, .val (i64 (w64 (a1 - (a0.length : Int))))), (11, .val (.bool (ilt (w64 (a1 - (a0.length : Int))) 0)))] rfl ?_ ?_
  · simp <;> simp [ieq, ilt, ile]
  refine VW.cond rfl (fun hb2 => ?_) (fun hb2 => ?_)
  ·
    replace hb2 : (w64 (a1 - (a0.length : Int))) < 0 := by simpa [ieq, ilt, ile] using hb2
    rw [if_pos hb2] at h
    -- region 3
    refine VW.ws tau_ok Sound.none [some 4] [(4, .val (i64 (-1)))] rfl ?_ ?_
    · simp <;> simp [ieq, ilt, ile]
    cases h
    refine VW.ret ?_
    simp [Post, PostM, PostC, PostC2, Nx, Bk]
  replace hb2 : ¬ ((w64 (a1 - (a0.length : Int))) < 0) := by simpa [ieq, ilt, ile] using hb2
  rw [if_neg hb2] at h
  refine VW.skip ?_
  refine hK1 _ ?_
  refine VW.sqc fun K3 hK3 hCK3 => ?_
  -- region 4
  refine VW.ws tau_ok Sound.none [some 5] [(0, .val (dM a0)), (1, .val (i64 (w64 (a1 - (a0.length : Int))))), (5, .val (i64 0))] rfl ?_ ?_
  · simp <;> simp [ieq, ilt, ile]
  obtain ⟨x4, hx4, h⟩ := bind_some h
  refine VW.tlO (fun y6 => [(1, .val (i64 y6))]) x4 (hCK3) ?_ ?_
  · clear hx4
    rintro y6 rfl
    dsimp only at h
    refine hK3 _ ?_
    -- region 10
    refine VW.ws tau_ok Sound.none [some 26, some 4] [(4, .val (i64 y6))] rfl ?_ ?_
    · simp <;> simp [ieq, ilt, ile]
    cases h
    refine VW.ret ?_
    simp [Post, PostM, PostC, PostC2, Nx, Bk]
  refine VW.block ?_
  refine VW.loopF (l_szInt64SS_L0 a0) (fun s4 => [(0, .val (dM a0)), (1, .val (i64 s4.1)), (5, .val (i64 s4.2))]) hx4 (Fits.of rfl) ?_
  clear hx4
  intro s4 ox4 hx4o hx4b
  unfold l_szInt64SS_L0 at hx4o
  refine VW.sqc fun K7 hK7 hCK7 => ?_
  -- region 5
  refine VW.ws tau_ok Sound.none [some 12, some 13, some 14, some 15] [(0, .val (dM a0)), (1, .val (i64 s4.1)), (5, .val (i64 s4.2)), (15, .val (.bool (ilt s4.2 (a0.length : Int))))] rfl ?_ ?_
  · simp <;> simp [ieq, ilt, ile]
  refine VW.cond rfl (fun hb8 => ?_) (fun hb8 => ?_)
  rotate_left
  ·
    replace hb8 : ¬ (s4.2 < (a0.length : Int)) := by simpa [ieq, ilt, ile] using hb8
    rw [if_neg hb8] at hx4o
    refine VW.exit ?_
    cases hx4o
    have hq := hx4b _ rfl
    subst hq
    exact ⟨_, rfl, Fits.of rfl⟩
  replace hb8 : s4.2 < (a0.length : Int) := by simpa [ieq, ilt, ile] using hb8
  rw [if_pos hb8] at hx4o
  refine VW.skip ?_
  refine hK7 _ ?_
  refine VW.sqc fun K9 hK9 hCK9 => ?_
  refine VW.block ?_
  -- region 7
  obtain ⟨v10, hv10, hx4o⟩ := bind_some hx4o
  obtain ⟨hv10a, hv10b, hv10c, hv10d⟩ := idx_some hv10
  obtain ⟨v11, hv11, hx4o⟩ := bind_some hx4o
  refine VW.ws tau_ok (Sound.none.add 23 (l_szInt64S_ok hv11) rfl) [some 18, some 19, some 20, some 21, some 22, some 23, some 1] [(0, .val (dM a0)), (1, .val (i64 v11)), (5, .val (i64 s4.2))] rfl ?_ ?_
  · simp [hv10a, hv10b, hv10c, hv10d] <;> simp [ieq, ilt, ile]
  -- region 8
  refine VW.ws tau_ok Sound.none [some 24, some 25] [(0, .val (dM a0)), (1, .val (i64 v11)), (5, .val (i64 s4.2)), (25, .val (.bool (ilt v11 0)))] rfl ?_ ?_
  · simp <;> simp [ieq, ilt, ile]
  refine VW.cond rfl (fun hb12 => ?_) (fun hb12 => ?_)
  rotate_left
  ·
    replace hb12 : ¬ (v11 < 0) := by simpa [ieq, ilt, ile] using hb12
    rw [if_neg hb12] at hx4o
    refine VW.skip ?_
    refine hK9 _ ?_
    -- region 6
    refine VW.wr tau_ok Sound.none [some 16, some 17, some 5] [(0, .val (dM a0)), (1, .val (i64 v11)), (5, .val (i64 (w64 (s4.2 + 1))))] rfl ?_ ?_
    · simp <;> simp [ieq, ilt, ile]
    cases hx4o
    exact ⟨_, rfl, Fits.of rfl⟩
  replace hb12 : v11 < 0 := by simpa [ieq, ilt, ile] using hb12
  rw [if_pos hb12] at hx4o
  -- region 9
  refine VW.ws tau_ok Sound.none [some 4] [(4, .val (i64 (-1)))] rfl ?_ ?_
  · simp <;> simp [ieq, ilt, ile]
  cases hx4o
  have hq := hx4b _ rfl
  subst hq
  dsimp only at h
  cases h
  refine VW.ret ?_
  simp [Post, PostM, PostC, PostC2, Nx, Bk]

theorem l_toInt64S_ok {a0 : List Int} {r : List Int} (h : l_toInt64S a0 = some r) :
    VCall Try.prog 46 [dI a0] [.own true (dI r)] := by
  unfold l_toInt64S at h
  refine VCall.enter Try.call46 Try.func46 rfl 22 Try.ntmps46 (by simp) [.tmp 2] rfl ?_
  show VW _ _ _ (mk [(0, .val (dI a0))]) _
  -- region 0
  refine VW.ws tau_ok Sound.none [some 2] [(0, .val (dI a0))] rfl ?_ ?_
  · simp <;> simp [ieq, ilt, ile]
  -- region 1
  obtain ⟨hc1, h⟩ := chk_some h
  have hc1s := hc1
  try simp at hc1s
  refine VW.ws tau_ok Sound.none [some 5, some 6, some 7, some 3] [(0, .val (dI a0)), (3, .ref 3 [] true (dI (List.replicate (a0.length : Int).toNat 0)))] rfl ?_ ?_
  · simp [hc1, hc1s] <;> simp [ieq, ilt, ile]
  refine VW.sqc fun K2 hK2 hCK2 => ?_
  -- region 2
  refine VW.ws tau_ok Sound.none [some 4] [(0, .val (dI a0)), (3, .ref 3 [] true (dI (List.replicate (a0.length : Int).toNat 0))), (4, .val (i64 0))] rfl ?_ ?_
  · simp <;> simp [ieq, ilt, ile]
  obtain ⟨x3, hx3, h⟩ := bind_some h
  refine VW.tlE [(3, .ref 3 [] true (dI x3))] (hCK2) ?_ ?_
  · clear hx3
    refine hK2 _ ?_
    -- region 6
    refine VW.ws tau_ok Sound.none [some 21, some 2] [(2, .ref 2 [] true (dI x3))] rfl ?_ ?_
    · simp <;> simp [ieq, ilt, ile]
    cases h
    refine VW.ret ?_
    simp [Post, PostM, PostC, PostC2, Nx, Bk]
  refine VW.block ?_
  refine VW.loopF (l_toInt64S_L0 a0) (fun s3 => [(0, .val (dI a0)), (3, .ref 3 [] true (dI s3.1)), (4, .val (i64 s3.2))]) hx3 (Fits.of rfl) ?_
  clear hx3
  intro s3 ox3 hx3o hx3b
  unfold l_toInt64S_L0 at hx3o
  refine VW.sqc fun K5 hK5 hCK5 => ?_
  -- region 3
  refine VW.ws tau_ok Sound.none [some 8, some 9, some 10, some 11] [(0, .val (dI a0)), (3, .ref 3 [] true (dI s3.1)), (4, .val (i64 s3.2)), (11, .val (.bool (ilt s3.2 (a0.length : Int))))] rfl ?_ ?_
  · simp <;> simp [ieq, ilt, ile]
  refine VW.cond rfl (fun hb6 => ?_) (fun hb6 => ?_)
  rotate_left
  ·
    replace hb6 : ¬ (s3.2 < (a0.length : Int)) := by simpa [ieq, ilt, ile] using hb6
    rw [if_neg hb6] at hx3o
    refine VW.exit ?_
    cases hx3o
    have hq := hx3b _ rfl
    subst hq
    exact Fits.of rfl
  replace hb6 : s3.2 < (a0.length : Int) := by simpa [ieq, ilt, ile] using hb6
  rw [if_pos hb6] at hx3o
  refine VW.skip ?_
  refine hK5 _ ?_
  refine VW.sqc fun K7 hK7 hCK7 => ?_
  refine VW.block ?_
  -- region 5
  obtain ⟨v8, hv8, hx3o⟩ := bind_some hx3o
  obtain ⟨hv8a, hv8b, hv8c, hv8d⟩ := idx_some hv8
  obtain ⟨v9, hv9, hx3o⟩ := bind_some hx3o
  obtain ⟨hv9a, hv9b, hv9c, hv9d⟩ := idx_some hv9
  refine VW.wr tau_ok Sound.none [some 14, some 15, some 16, some 17, some 18, some 19, some 20, none] [(0, .val (dI a0)), (3, .ref 3 [] true (dI (s3.1.set s3.2.toNat v8))), (4, .val (i64 s3.2))] rfl ?_ ?_
  · simp [hv8a, hv8b, hv8c, hv8d, hv9a, hv9b, hv9c, hv9d] <;> simp [ieq, ilt, ile]
  refine hK7 _ ?_
  -- region 4
  refine VW.wr tau_ok Sound.none [some 12, some 13, some 4] [(0, .val (dI a0)), (3, .ref 3 [] true (dI (s3.1.set s3.2.toNat v8))), (4, .val (i64 (w64 (s3.2 + 1))))] rfl ?_ ?_
  · simp <;> simp [ieq, ilt, ile]
  cases hx3o
  exact ⟨_, rfl, Fits.of rfl⟩

theorem l_toSpace_ok {a0_0 : Int} {a0_1 : List Int} {r : Int × (List Int)} (h : l_toSpace a0_0 a0_1 = some r) :
    VCall Try.prog 18 [.agg [i64 a0_0, dI a0_1]] [.own true (.agg [i64 r.1, dI r.2])] := by
  unfold l_toSpace at h
  refine VCall.enterC Try.call18 Try.func18 rfl 12 Try.ntmps18 (by simp) (tau_ok 30) 2 rfl ?_
  show VW _ _ _ (mk [(0, .val (.agg [i64 a0_0, dI a0_1]))]) _
  -- region 0
  refine VW.ws tau_ok Sound.none [some 1, some 2] [(1, .val (.ptr [i64 a0_0, dI a0_1])), (2, .ref 2 [] true (.ptr [i64 0, dI []]))] rfl ?_ ?_
  · simp <;> simp [ieq, ilt, ile]
  -- region 1
  refine VW.ws tau_ok Sound.none [some 3] [(1, .val (.ptr [i64 a0_0, dI a0_1])), (2, .ref 2 [] true (.ptr [i64 0, dI []])), (3, .ref 3 [] true (.ptr [i64 0, dI []]))] rfl ?_ ?_
  · simp <;> simp [ieq, ilt, ile]
  -- region 2
  refine VW.ws tau_ok Sound.none [some 4, some 5, some 6, none] [(1, .val (.ptr [i64 a0_0, dI a0_1])), (2, .ref 2 [] true (.ptr [i64 0, dI []])), (3, .ref 3 [] true (.ptr [i64 a0_0, dI []]))] rfl ?_ ?_
  · simp <;> simp [ieq, ilt, ile]
  -- region 3
  obtain ⟨v1, hv1, h⟩ := bind_some h
  refine VW.ws tau_ok (Sound.none.add 9 (l_toInt64S_ok hv1) rfl) [some 7, some 8, some 9, some 10, none] [(2, .ref 2 [] true (.ptr [i64 0, dI []])), (3, .ref 3 [] true (.ptr [i64 a0_0, dI v1]))] rfl ?_ ?_
  · simp <;> simp [ieq, ilt, ile]
  -- region 4
  refine VW.ws tau_ok Sound.none [some 11, none] [(2, .ref 2 [] true (.ptr [i64 a0_0, dI v1]))] rfl ?_ ?_
  · simp <;> simp [ieq, ilt, ile]
  cases h
  refine VW.ret ?_
  simp [Post, PostM, PostC, PostC2, Nx, Bk]

theorem l_toInt64SS_ok {a0 : List (List Int)} {r : List (List Int)} (h : l_toInt64SS a0 = some r) :
    VCall Try.prog 19 [dM a0] [.own true (dM r)] := by
  unfold l_toInt64SS at h
  refine VCall.enter Try.call19 Try.func19 rfl 23 Try.ntmps19 (by simp) [.tmp 2] rfl ?_
  show VW _ _ _ (mk [(0, .val (dM a0))]) _
  -- region 0
  refine VW.ws tau_ok Sound.none [some 2] [(0, .val (dM a0))] rfl ?_ ?_
  · simp <;> simp [ieq, ilt, ile]
  -- region 1
  obtain ⟨hc1, h⟩ := chk_some h
  have hc1s := hc1
  try simp at hc1s
  refine VW.ws tau_ok Sound.none [some 5, some 6, some 7, some 3] [(0, .val (dM a0)), (3, .ref 3 [] true (dM (List.replicate (a0.length : Int).toNat [])))] rfl ?_ ?_
  · simp [hc1, hc1s] <;> simp [ieq, ilt, ile]
  refine VW.sqc fun K2 hK2 hCK2 => ?_
  -- region 2
  refine VW.ws tau_ok Sound.none [some 4] [(0, .val (dM a0)), (3, .ref 3 [] true (dM (List.replicate (a0.length : Int).toNat []))), (4, .val (i64 0))] rfl ?_ ?_
  · simp <;> simp [ieq, ilt, ile]
  obtain ⟨x3, hx3, h⟩ := bind_some h
  refine VW.tlE [(3, .ref 3 [] true (dM x3))] (hCK2) ?_ ?_
  · clear hx3
    refine hK2 _ ?_
    -- region 6
    refine VW.ws tau_ok Sound.none [some 22, some 2] [(2, .ref 2 [] true (dM x3))] rfl ?_ ?_
    · simp <;> simp [ieq, ilt, ile]
    cases h
    refine VW.ret ?_
    simp [Post, PostM, PostC, PostC2, Nx, Bk]
  refine VW.block ?_
  refine VW.loopF (l_toInt64SS_L0 a0) (fun s3 => [(0, .val (dM a0)), (3, .ref 3 [] true (dM s3.1)), (4, .val (i64 s3.2))]) hx3 (Fits.of rfl) ?_
  clear hx3
  intro s3 ox3 hx3o hx3b
  unfold l_toInt64SS_L0 at hx3o
  refine VW.sqc fun K5 hK5 hCK5 => ?_
  -- region 3
  refine VW.ws tau_ok Sound.none [some 8, some 9, some 10, some 11] [(0, .val (dM a0)), (3, .ref 3 [] true (dM s3.1)), (4, .val (i64 s3.2)), (11, .val (.bool (ilt s3.2 (a0.length : Int))))] rfl ?_ ?_
  · simp <;> simp [ieq, ilt, ile]
  refine VW.cond rfl (fun hb6 => ?_) (fun hb6 => ?_)
  rotate_left
  ·
    replace hb6 : ¬ (s3.2 < (a0.length : Int)) := by simpa [ieq, ilt, ile] using hb6
    rw [if_neg hb6] at hx3o
    refine VW.exit ?_
    cases hx3o
    have hq := hx3b _ rfl
    subst hq
    exact Fits.of rfl
  replace hb6 : s3.2 < (a0.length : Int) := by simpa [ieq, ilt, ile] using hb6
  rw [if_pos hb6] at hx3o
  refine VW.skip ?_
  refine hK5 _ ?_
  refine VW.sqc fun K7 hK7 hCK7 => ?_
  refine VW.block ?_
  -- region 5
  obtain ⟨v8, hv8, hx3o⟩ := bind_some hx3o
  obtain ⟨hv8a, hv8b, hv8c, hv8d⟩ := idx_some hv8
  obtain ⟨v9, hv9, hx3o⟩ := bind_some hx3o
  obtain ⟨v10, hv10, hx3o⟩ := bind_some hx3o
  obtain ⟨hv10a, hv10b, hv10c, hv10d⟩ := idx_some hv10
  refine VW.wr tau_ok (Sound.none.add 20 (l_toInt64S_ok hv9) rfl) [some 14, some 15, some 16, some 17, some 18, some 19, some 20, some 21, none] [(0, .val (dM a0)), (3, .ref 3 [] true (dM (s3.1.set s3.2.toNat v9))), (4, .val (i64 s3.2))] rfl ?_ ?_
  · simp [hv8a, hv8b, hv8c, hv8d, hv10a, hv10b, hv10c, hv10d] <;> simp [ieq, ilt, ile]
  refine hK7 _ ?_
  -- region 4
  refine VW.wr tau_ok Sound.none [some 12, some 13, some 4] [(0, .val (dM a0)), (3, .ref 3 [] true (dM (s3.1.set s3.2.toNat v9))), (4, .val (i64 (w64 (s3.2 + 1))))] rfl ?_ ?_
  · simp <;> simp [ieq, ilt, ile]
  cases hx3o
  exact ⟨_, rfl, Fits.of rfl⟩

theorem s_l01Prime_ok {a0 : Int} {r : Bool} (h : s_l01Prime a0 = some r) :
    VCall Try.prog 200 [i64 a0] [.sc (.bool r)] := by
  unfold s_l01Prime at h
  refine VCall.enter Try.call200 Try.func200 rfl 21 Try.ntmps200 (by simp) [.tmp 2] rfl ?_
  show VW _ _ _ (mk [(0, .val (i64 a0))]) _
  -- region 0
  refine VW.ws tau_ok Sound.none [some 2] [(0, .val (i64 a0))] rfl ?_ ?_
  · simp <;> simp [ieq, ilt, ile]
  -- region 1
  obtain ⟨x5, hx5, h⟩ := bind_some h
  refine VW.cut [(2, .val (.bool x5))] ?_ fun hy => ?_
  rotate_left
  · clear h
    by_cases hp1 : a0 = 3
    · rw [if_pos hp1] at hx5
      have hp1b : ieq a0 3 = true := by simpa [ieq, ilt, ile] using hp1
      have hp1s := hp1b
      try simp at hp1s
      cases hx5
      refine VW.ws tau_ok Sound.none [some 3, some 4, some 5, some 6, some 7, some 8, some 9, some 10, some 11, some 12, some 13, some 14, some 15, some 16, some 17, some 18, some 19, some 20, some 2] _ rfl ?_ hy
      simp [hp1b, hp1s] <;> simp [ieq, ilt, ile]
    · rw [if_neg hp1] at hx5
      have hp1b : ieq a0 3 = false := by simpa [ieq, ilt, ile] using hp1
      have hp1s := hp1b
      try simp at hp1s
      by_cases hp2 : a0 = 5
      · rw [if_pos hp2] at hx5
        have hp2b : ieq a0 5 = true := by simpa [ieq, ilt, ile] using hp2
        have hp2s := hp2b
        try simp at hp2s
        cases hx5
        refine VW.ws tau_ok Sound.none [some 3, some 4, some 5, some 6, some 7, some 8, some 9, some 10, some 11, some 12, some 13, some 14, some 15, some 16, some 17, some 18, some 19, some 20, some 2] _ rfl ?_ hy
        simp [hp1b, hp1s, hp2b, hp2s] <;> simp [ieq, ilt, ile]
      · rw [if_neg hp2] at hx5
        have hp2b : ieq a0 5 = false := by simpa [ieq, ilt, ile] using hp2
        have hp2s := hp2b
        try simp at hp2s
        by_cases hp3 : a0 = 7
        · rw [if_pos hp3] at hx5
          have hp3b : ieq a0 7 = true := by simpa [ieq, ilt, ile] using hp3
          have hp3s := hp3b
          try simp at hp3s
          cases hx5
          refine VW.ws tau_ok Sound.none [some 3, some 4, some 5, some 6, some 7, some 8, some 9, some 10, some 11, some 12, some 13, some 14, some 15, some 16, some 17, some 18, some 19, some 20, some 2] _ rfl ?_ hy
          simp [hp1b, hp1s, hp2b, hp2s, hp3b, hp3s] <;> simp [ieq, ilt, ile]
        · rw [if_neg hp3] at hx5
          have hp3b : ieq a0 7 = false := by simpa [ieq, ilt, ile] using hp3
          have hp3s := hp3b
          try simp at hp3s
          by_cases hp4 : a0 = 11
          · rw [if_pos hp4] at hx5
            have hp4b : ieq a0 11 = true := by simpa [ieq, ilt, ile] using hp4
            have hp4s := hp4b
            try simp at hp4s
            cases hx5
            refine VW.ws tau_ok Sound.none [some 3, some 4, some 5, some 6, some 7, some 8, some 9, some 10, some 11, some 12, some 13, some 14, some 15, some 16, some 17, some 18, some 19, some 20, some 2] _ rfl ?_ hy
            simp [hp1b, hp1s, hp2b, hp2s, hp3b, hp3s, hp4b, hp4s] <;> simp [ieq, ilt, ile]
          · rw [if_neg hp4] at hx5
            have hp4b : ieq a0 11 = false := by simpa [ieq, ilt, ile] using hp4
            have hp4s := hp4b
            try simp at hp4s
            cases hx5
            refine VW.ws tau_ok Sound.none [some 3, some 4, some 5, some 6, some 7, some 8, some 9, some 10, some 11, some 12, some 13, some 14, some 15, some 16, some 17, some 18, some 19, some 20, some 2] _ rfl ?_ hy
            simp [hp1b, hp1s, hp2b, hp2s, hp3b, hp3s, hp4b, hp4s] <;> simp [ieq, ilt, ile]
  cases h
  refine VW.ret ?_
  simp [Post, PostM, PostC, PostC2, Nx, Bk]

theorem s_l01In_ok {a0 : Int} {a1 : Int} {a2 : Int} {r : Bool} (h : s_l01In a0 a1 a2 = some r) :
    VCall Try.prog 116 [i64 a0, i64 a1, i64 a2] [.sc (.bool r)] := by
  unfold s_l01In at h
  refine VCall.enter Try.call116 Try.func116 rfl 15 Try.ntmps116 (by simp) [.tmp 6] rfl ?_
  show VW _ _ _ (mk [(0, .val (i64 a0)), (1, .val (i64 a1)), (2, .val (i64 a2))]) _
  -- region 0
  refine VW.ws tau_ok Sound.none [some 6] [(0, .val (i64 a0)), (1, .val (i64 a1)), (2, .val (i64 a2))] rfl ?_ ?_
  · simp <;> simp [ieq, ilt, ile]
  -- region 1
  obtain ⟨x2, hx2, h⟩ := bind_some h
  refine VW.cut [(6, .val (.bool x2))] ?_ fun hy => ?_
  rotate_left
  · clear h
    by_cases hp1 : a1 ≤ a0
    · rw [if_pos hp1] at hx2
      have hp1b : ile a1 a0 = true := by simpa [ieq, ilt, ile] using hp1
      have hp1s := hp1b
      try simp at hp1s
      cases hx2
      refine VW.ws tau_ok Sound.none [some 7, some 8, some 9, some 10, some 11, some 12, some 13, some 14, some 6] _ rfl ?_ hy
      simp [hp1b, hp1s] <;> simp [ieq, ilt, ile]
    · rw [if_neg hp1] at hx2
      have hp1b : ile a1 a0 = false := by simpa [ieq, ilt, ile] using hp1
      have hp1s := hp1b
      try simp at hp1s
      cases hx2
      refine VW.ws tau_ok Sound.none [some 7, some 8, some 9, some 10, some 11, some 12, some 13, some 14, some 6] _ rfl ?_ hy
      simp [hp1b, hp1s] <;> simp [ieq, ilt, ile]
  cases h
  refine VW.ret ?_
  simp [Post, PostM, PostC, PostC2, Nx, Bk]

theorem s_l01Numbers_ok {a0 : Int} {a1 : List Int} {r : Bool} (h : s_l01Numbers a0 a1 = some r) :
    VCall Try.prog 225 [i64 a0, dI a1] [.sc (.bool r)] := by
  unfold s_l01Numbers at h
  refine VCall.enter Try.call225 Try.func225 rfl 20 Try.ntmps225 (by simp) [.tmp 4] rfl ?_
  show VW _ _ _ (mk [(0, .val (i64 a0)), (1, .val (dI a1))]) _
  -- region 0
  refine VW.ws tau_ok Sound.none [some 4] [(0, .val (i64 a0)), (1, .val (dI a1))] rfl ?_ ?_
  · simp <;> simp [ieq, ilt, ile]
  refine VW.sqc fun K1 hK1 hCK1 => ?_
  -- region 1
  refine VW.ws tau_ok Sound.none [some 5] [(0, .val (i64 a0)), (1, .val (dI a1)), (5, .val (i64 0))] rfl ?_ ?_
  · simp <;> simp [ieq, ilt, ile]
  obtain ⟨x2, hx2, h⟩ := bind_some h
  refine VW.tlO (fun y4 => []) x2 (hCK1) ?_ ?_
  · clear hx2
    rintro y4 rfl
    dsimp only at h
    refine hK1 _ ?_
    -- region 6
    refine VW.ws tau_ok Sound.none [some 4] [(4, .val (.bool true))] rfl ?_ ?_
    · simp <;> simp [ieq, ilt, ile]
    cases h
    refine VW.ret ?_
    simp [Post, PostM, PostC, PostC2, Nx, Bk]
  refine VW.block ?_
  refine VW.loopF (s_l01Numbers_L0 a0 a1) (fun s2 => [(0, .val (i64 a0)), (1, .val (dI a1)), (5, .val (i64 s2))]) hx2 (Fits.of rfl) ?_
  clear hx2
  intro s2 ox2 hx2o hx2b
  unfold s_l01Numbers_L0 at hx2o
  refine VW.sqc fun K5 hK5 hCK5 => ?_
  -- region 2
  refine VW.ws tau_ok Sound.none [some 6, some 7, some 8, some 9] [(0, .val (i64 a0)), (1, .val (dI a1)), (5, .val (i64 s2)), (9, .val (.bool (ilt s2 (a1.length : Int))))] rfl ?_ ?_
  · simp <;> simp [ieq, ilt, ile]
  refine VW.cond rfl (fun hb6 => ?_) (fun hb6 => ?_)
  rotate_left
  ·
    replace hb6 : ¬ (s2 < (a1.length : Int)) := by simpa [ieq, ilt, ile] using hb6
    rw [if_neg hb6] at hx2o
    refine VW.exit ?_
    cases hx2o
    have hq := hx2b _ rfl
    subst hq
    exact ⟨_, rfl, Fits.of rfl⟩
  replace hb6 : s2 < (a1.length : Int) := by simpa [ieq, ilt, ile] using hb6
  rw [if_pos hb6] at hx2o
  refine VW.skip ?_
  refine hK5 _ ?_
  refine VW.sqc fun K7 hK7 hCK7 => ?_
  refine VW.block ?_
  -- region 4
  obtain ⟨v8, hv8, hx2o⟩ := bind_some hx2o
  obtain ⟨hv8a, hv8b, hv8c, hv8d⟩ := idx_some hv8
  obtain ⟨v9, hv9, hx2o⟩ := bind_some hx2o
  refine VW.ws tau_ok (Sound.none.add 18 (s_l01In_ok hv9) rfl) [some 12, some 13, some 14, some 15, some 16, some 17, some 18, some 19] [(0, .val (i64 a0)), (1, .val (dI a1)), (5, .val (i64 s2)), (19, .val (.bool (!v9)))] rfl ?_ ?_
  · simp [hv8a, hv8b, hv8c, hv8d] <;> simp [ieq, ilt, ile]
  refine VW.cond rfl (fun hb10 => ?_) (fun hb10 => ?_)
  rotate_left
  ·
    replace hb10 : ¬ (v9 = false) := by simpa [ieq, ilt, ile] using hb10
    rw [if_neg hb10] at hx2o
    refine VW.skip ?_
    refine hK7 _ ?_
    -- region 3
    refine VW.wr tau_ok Sound.none [some 10, some 11, some 5] [(0, .val (i64 a0)), (1, .val (dI a1)), (5, .val (i64 (w64 (s2 + 1))))] rfl ?_ ?_
    · simp <;> simp [ieq, ilt, ile]
    cases hx2o
    exact ⟨_, rfl, Fits.of rfl⟩
  replace hb10 : v9 = false := by simpa [ieq, ilt, ile] using hb10
  rw [if_pos hb10] at hx2o
  -- region 5
  refine VW.ws tau_ok Sound.none [some 4] [(4, .val (.bool false))] rfl ?_ ?_
  · simp <;> simp [ieq, ilt, ile]
  cases hx2o
  have hq := hx2b _ rfl
  subst hq
  dsimp only at h
  cases h
  refine VW.ret ?_
  simp [Post, PostM, PostC, PostC2, Nx, Bk]

theorem s_l03Is_ok {a0_0 : Int} {a0_1 : List Int} {r : Bool} (h : s_l03Is a0_0 a0_1 = some r) :
    VCall Try.prog 159 [.agg [i64 a0_0, dI a0_1]] [.sc (.bool r)] := by
  unfold s_l03Is at h
  refine VCall.enter Try.call159 Try.func159 rfl 19 Try.ntmps159 (by simp) [.tmp 2] rfl ?_
  show VW _ _ _ (mk [(0, .val (.agg [i64 a0_0, dI a0_1]))]) _
  -- region 0
  refine VW.ws tau_ok Sound.none [some 1, some 2] [(1, .val (.ptr [i64 a0_0, dI a0_1]))] rfl ?_ ?_
  · simp <;> simp [ieq, ilt, ile]
  -- region 1
  obtain ⟨x6, hx6, h⟩ := bind_some h
  refine VW.cut [(2, .val (.bool x6))] ?_ fun hy => ?_
  rotate_left
  · clear h
    obtain ⟨v1, hv1, hx6⟩ := bind_some hx6
    by_cases hp2 : v1 = true
    · rw [if_pos hp2] at hx6
      have hp2b : v1 = true := by simpa [ieq, ilt, ile] using hp2
      have hp2s := hp2b
      try simp at hp2s
      obtain ⟨v3, hv3, hx6⟩ := bind_some hx6
      by_cases hp4 : v3 = true
      · rw [if_pos hp4] at hx6
        have hp4b : v3 = true := by simpa [ieq, ilt, ile] using hp4
        have hp4s := hp4b
        try simp at hp4s
        obtain ⟨v5, hv5, hx6⟩ := bind_some hx6
        cases hx6
        refine VW.ws tau_ok (((Sound.none.add 5 (s_l01Prime_ok hv1) rfl).add 10 (s_l01In_ok hv3) rfl).add 17 (s_l01Numbers_ok hv5) rfl) [some 3, some 4, some 5, some 6, some 7, some 8, some 9, some 10, some 11, some 12, some 13, some 14, some 15, some 16, some 17, some 18, some 2] _ rfl ?_ hy
        simp [hp2b, hp2s, hp4b, hp4s] <;> simp [ieq, ilt, ile]
      · rw [if_neg hp4] at hx6
        have hp4b : v3 = false := by simpa [ieq, ilt, ile] using hp4
        have hp4s := hp4b
        try simp at hp4s
        cases hx6
        refine VW.ws tau_ok ((Sound.none.add 5 (s_l01Prime_ok hv1) rfl).add 10 (s_l01In_ok hv3) rfl) [some 3, some 4, some 5, some 6, some 7, some 8, some 9, some 10, some 11, some 12, some 13, some 14, some 15, some 16, some 17, some 18, some 2] _ rfl ?_ hy
        simp [hp2b, hp2s, hp4b, hp4s] <;> simp [ieq, ilt, ile]
    · rw [if_neg hp2] at hx6
      have hp2b : v1 = false := by simpa [ieq, ilt, ile] using hp2
      have hp2s := hp2b
      try simp at hp2s
      cases hx6
      refine VW.ws tau_ok (Sound.none.add 5 (s_l01Prime_ok hv1) rfl) [some 3, some 4, some 5, some 6, some 7, some 8, some 9, some 10, some 11, some 12, some 13, some 14, some 15, some 16, some 17, some 18, some 2] _ rfl ?_ hy
      simp [hp2b, hp2s] <;> simp [ieq, ilt, ile]
  cases h
  refine VW.ret ?_
  simp [Post, PostM, PostC, PostC2, Nx, Bk]

theorem s_l03Disc_ok {a0_0 : Int} {a0_1 : List Int} {r : Int} (h : s_l03Disc a0_0 a0_1 = some r) :
    VCall Try.prog 160 [.agg [i64 a0_0, dI a0_1]] [.sc (i64 r)] := by
  unfold s_l03Disc at h
  refine VCall.enter Try.call160 Try.func160 rfl 23 Try.ntmps160 (by simp) [.tmp 2] rfl ?_
  show VW _ _ _ (mk [(0, .val (.agg [i64 a0_0, dI a0_1]))]) _
  -- region 0
  refine VW.ws tau_ok Sound.none [some 1, some 2] [(1, .val (.ptr [i64 a0_0, dI a0_1]))] rfl ?_ ?_
  · simp <;> simp [ieq, ilt, ile]
  -- region 1
  refine VW.ws tau_ok Sound.none [some 3] [(1, .val (.ptr [i64 a0_0, dI a0_1])), (3, .val (i64 1))] rfl ?_ ?_
  · simp <;> simp [ieq, ilt, ile]
  refine VW.sqc fun K1 hK1 hCK1 => ?_
  -- region 2
  refine VW.ws tau_ok Sound.none [some 4] [(1, .val (.ptr [i64 a0_0, dI a0_1])), (3, .val (i64 1)), (4, .val (i64 0))] rfl ?_ ?_
  · simp <;> simp [ieq, ilt, ile]
  obtain ⟨x2, hx2, h⟩ := bind_some h
  refine VW.tlE [(3, .val (i64 x2))] (hCK1) ?_ ?_
  · clear hx2
    refine hK1 _ ?_
    -- region 6
    refine VW.ws tau_ok Sound.none [some 22, some 2] [(2, .val (i64 x2))] rfl ?_ ?_
    · simp <;> simp [ieq, ilt, ile]
    cases h
    refine VW.ret ?_
    simp [Post, PostM, PostC, PostC2, Nx, Bk]
  refine VW.block ?_
  refine VW.loopF (s_l03Disc_L0 a0_0 a0_1) (fun s2 => [(1, .val (.ptr [i64 a0_0, dI a0_1])), (3, .val (i64 s2.1)), (4, .val (i64 s2.2))]) hx2 (Fits.of rfl) ?_
  clear hx2
  intro s2 ox2 hx2o hx2b
  unfold s_l03Disc_L0 at hx2o
  refine VW.sqc fun K4 hK4 hCK4 => ?_
  -- region 3
  refine VW.ws tau_ok Sound.none [some 5, some 6, some 7, some 8, some 9] [(1, .val (.ptr [i64 a0_0, dI a0_1])), (3, .val (i64 s2.1)), (4, .val (i64 s2.2)), (9, .val (.bool (ilt s2.2 (a0_1.length : Int))))] rfl ?_ ?_
  · simp <;> simp [ieq, ilt, ile]
  refine VW.cond rfl (fun hb5 => ?_) (fun hb5 => ?_)
  rotate_left
  ·
    replace hb5 : ¬ (s2.2 < (a0_1.length : Int)) := by simpa [ieq, ilt, ile] using hb5
    rw [if_neg hb5] at hx2o
    refine VW.exit ?_
    cases hx2o
    have hq := hx2b _ rfl
    subst hq
    exact Fits.of rfl
  replace hb5 : s2.2 < (a0_1.length : Int) := by simpa [ieq, ilt, ile] using hb5
  rw [if_pos hb5] at hx2o
  refine VW.skip ?_
  refine hK4 _ ?_
  refine VW.sqc fun K6 hK6 hCK6 => ?_
  refine VW.block ?_
  -- region 5
  obtain ⟨v7, hv7, hx2o⟩ := bind_some hx2o
  obtain ⟨hv7a, hv7b, hv7c, hv7d⟩ := idx_some hv7
  obtain ⟨hc8, hx2o⟩ := chk_some hx2o
  have hc8s := hc8
  try simp at hc8s
  refine VW.wdr tau_ok Sound.none try_mixed [some 12, some 13, some 14, some 15, some 16, some 17, some 18, some 19, some 20, some 21, some 3] [(1, .val (.ptr [i64 a0_0, dI a0_1])), (3, .val (i64 ((w64 (s2.1 * v7)).tmod a0_0))), (4, .val (i64 s2.2))] 11 rfl (by kernel_rfl) (by rfl) ?_ ?_
  · simp [hv7a, hv7b, hv7c, hv7d, hc8, hc8s] <;> simp [ieq, ilt, ile]
  refine hK6 _ ?_
  -- region 4
  refine VW.wr tau_ok Sound.none [some 10, some 11, some 4] [(1, .val (.ptr [i64 a0_0, dI a0_1])), (3, .val (i64 ((w64 (s2.1 * v7)).tmod a0_0))), (4, .val (i64 (w64 (s2.2 + 1))))] rfl ?_ ?_
  · simp <;> simp [ieq, ilt, ile]
  cases hx2o
  exact ⟨_, rfl, Fits.of rfl⟩

theorem s_l02Is_ok {a0 : Int} {a1 : List (List Int)} {r : Bool} (h : s_l02Is a0 a1 = some r) :
    VCall Try.prog 205 [i64 a0, dM a1] [.sc (.bool r)] := by
  unfold s_l02Is at h
  refine VCall.enter Try.call205 Try.func205 rfl 58 Try.ntmps205 (by simp) [.tmp 4] rfl ?_
  show VW _ _ _ (mk [(0, .val (i64 a0)), (1, .val (dM a1))]) _
  -- region 0
  refine VW.ws tau_ok Sound.none [some 4] [(0, .val (i64 a0)), (1, .val (dM a1))] rfl ?_ ?_
  · simp <;> simp [ieq, ilt, ile]
  refine VW.sqc fun K1 hK1 hCK1 => ?_
  -- region 1
  obtain ⟨x8, hx8, h⟩ := bind_some h
  refine VW.cut [(0, .val (i64 a0)), (1, .val (dM a1)), (32, .val (.bool x8))] ?_ fun hy => ?_
  rotate_left
  · clear h
    obtain ⟨v2, hv2, hx8⟩ := bind_some hx8
    by_cases hp3 : v2 = false
    · rw [if_pos hp3] at hx8
      have hp3b : v2 = false := by simpa [ieq, ilt, ile] using hp3
      have hp3s := hp3b
      try simp at hp3s
      cases hx8
      refine VW.ws tau_ok (Sound.none.add 7 (s_l01Prime_ok hv2) rfl) [some 6, some 7, some 8, some 9, some 10, some 11, some 12, some 13, some 14, some 15, some 16, some 17, some 18, some 19, some 20, some 21, some 22, some 23, some 24, some 25, some 26, some 27, some 28, some 29, some 30, some 31, some 32] _ rfl ?_ hy
      simp [hp3b, hp3s] <;> simp [ieq, ilt, ile]
    · rw [if_neg hp3] at hx8
      have hp3b : v2 = true := by simpa [ieq, ilt, ile] using hp3
      have hp3s := hp3b
      try simp at hp3s
      by_cases hp4 : (a1.length : Int) < 1
      · rw [if_pos hp4] at hx8
        have hp4b : ilt (a1.length : Int) 1 = true := by simpa [ieq, ilt, ile] using hp4
        have hp4s := hp4b
        try simp at hp4s
        cases hx8
        refine VW.ws tau_ok (Sound.none.add 7 (s_l01Prime_ok hv2) rfl) [some 6, some 7, some 8, some 9, some 10, some 11, some 12, some 13, some 14, some 15, some 16, some 17, some 18, some 19, some 20, some 21, some 22, some 23, some 24, some 25, some 26, some 27, some 28, some 29, some 30, some 31, some 32] _ rfl ?_ hy
        simp [hp3b, hp3s, hp4b, hp4s] <;> simp [ieq, ilt, ile]
      · rw [if_neg hp4] at hx8
        have hp4b : ilt (a1.length : Int) 1 = false := by simpa [ieq, ilt, ile] using hp4
        have hp4s := hp4b
        try simp at hp4s
        by_cases hp5 : 16 < (a1.length : Int)
        · rw [if_pos hp5] at hx8
          have hp5b : ilt 16 (a1.length : Int) = true := by simpa [ieq, ilt, ile] using hp5
          have hp5s := hp5b
          try simp at hp5s
          cases hx8
          refine VW.ws tau_ok (Sound.none.add 7 (s_l01Prime_ok hv2) rfl) [some 6, some 7, some 8, some 9, some 10, some 11, some 12, some 13, some 14, some 15, some 16, some 17, some 18, some 19, some 20, some 21, some 22, some 23, some 24, some 25, some 26, some 27, some 28, some 29, some 30, some 31, some 32] _ rfl ?_ hy
          simp [hp3b, hp3s, hp4b, hp4s, hp5b, hp5s] <;> simp [ieq, ilt, ile]
        · rw [if_neg hp5] at hx8
          have hp5b : ilt 16 (a1.length : Int) = false := by simpa [ieq, ilt, ile] using hp5
          have hp5s := hp5b
          try simp at hp5s
          obtain ⟨v6, hv6, hx8⟩ := bind_some hx8
          obtain ⟨hv6a, hv6b, hv6c, hv6d⟩ := idx_some hv6
          replace hv6b : 0 < a1.length := hv6b
          replace hv6c : a1[0]? = some v6 := hv6c
          replace hv6d : ∀ h, a1[0]'h = v6 := hv6d
          by_cases hp7 : (v6.length : Int) < 1
          · rw [if_pos hp7] at hx8
            have hp7b : ilt (v6.length : Int) 1 = true := by simpa [ieq, ilt, ile] using hp7
            have hp7s := hp7b
            try simp at hp7s
            cases hx8
            refine VW.ws tau_ok (Sound.none.add 7 (s_l01Prime_ok hv2) rfl) [some 6, some 7, some 8, some 9, some 10, some 11, some 12, some 13, some 14, some 15, some 16, some 17, some 18, some 19, some 20, some 21, some 22, some 23, some 24, some 25, some 26, some 27, some 28, some 29, some 30, some 31, some 32] _ rfl ?_ hy
            simp [hp3b, hp3s, hp4b, hp4s, hp5b, hp5s, hv6a, hv6b, hv6c, hv6d, hp7b, hp7s] <;> simp [ieq, ilt, ile]
          · rw [if_neg hp7] at hx8
            have hp7b : ilt (v6.length : Int) 1 = false := by simpa [ieq, ilt, ile] using hp7
            have hp7s := hp7b
            try simp at hp7s
            cases hx8
            refine VW.ws tau_ok (Sound.none.add 7 (s_l01Prime_ok hv2) rfl) [some 6, some 7, some 8, some 9, some 10, some 11, some 12, some 13, some 14, some 15, some 16, some 17, some 18, some 19, some 20, some 21, some 22, some 23, some 24, some 25, some 26, some 27, some 28, some 29, some 30, some 31, some 32] _ rfl ?_ hy
            simp [hp3b, hp3s, hp4b, hp4s, hp5b, hp5s, hv6a, hv6b, hv6c, hv6d, hp7b, hp7s] <;> simp [ieq, ilt, ile]
  refine VW.cond rfl (fun hb9 => ?_) (fun hb9 => ?_)
  ·
    replace hb9 : x8 = true := by simpa [ieq, ilt, ile] using hb9
    rw [if_pos hb9] at h
    -- region 2
    refine VW.ws tau_ok Sound.none [some 4] [(4, .val (.bool false))] rfl ?_ ?_
    · simp <;> simp [ieq, ilt, ile]
    cases h
    refine VW.ret ?_
    simp [Post, PostM, PostC, PostC2, Nx, Bk]
  replace hb9 : ¬ (x8 = true) := by simpa [ieq, ilt, ile] using hb9
  rw [if_neg hb9] at h
  refine VW.skip ?_
  refine hK1 _ ?_
  refine VW.sqc fun K10 hK10 hCK10 => ?_
  -- region 3
  refine VW.ws tau_ok Sound.none [some 5] [(0, .val (i64 a0)), (1, .val (dM a1)), (5, .val (i64 0))] rfl ?_ ?_
  · simp <;> simp [ieq, ilt, ile]
  obtain ⟨x11, hx11, h⟩ := bind_some h
  refine VW.tlO (fun y13 => []) x11 (hCK10) ?_ ?_
  · clear hx11
    rintro y13 rfl
    dsimp only at h
    refine hK10 _ ?_
    -- region 8
    refine VW.ws tau_ok Sound.none [some 4] [(4, .val (.bool true))] rfl ?_ ?_
    · simp <;> simp [ieq, ilt, ile]
    cases h
    refine VW.ret ?_
    simp [Post, PostM, PostC, PostC2, Nx, Bk]
  refine VW.block ?_
  refine VW.loopF (s_l02Is_L0 a0 a1) (fun s11 => [(0, .val (i64 a0)), (1, .val (dM a1)), (5, .val (i64 s11))]) hx11 (Fits.of rfl) ?_
  clear hx11
  intro s11 ox11 hx11o hx11b
  unfold s_l02Is_L0 at hx11o
  refine VW.sqc fun K14 hK14 hCK14 => ?_
  -- region 4
  refine VW.ws tau_ok Sound.none [some 33, some 34, some 35, some 36] [(0, .val (i64 a0)), (1, .val (dM a1)), (5, .val (i64 s11)), (36, .val (.bool (ilt s11 (a1.length : Int))))] rfl ?_ ?_
  · simp <;> simp [ieq, ilt, ile]
  refine VW.cond rfl (fun hb15 => ?_) (fun hb15 => ?_)
  rotate_left
  ·
    replace hb15 : ¬ (s11 < (a1.length : Int)) := by simpa [ieq, ilt, ile] using hb15
    rw [if_neg hb15] at hx11o
    refine VW.exit ?_
    cases hx11o
    have hq := hx11b _ rfl
    subst hq
    exact ⟨_, rfl, Fits.of rfl⟩
  replace hb15 : s11 < (a1.length : Int) := by simpa [ieq, ilt, ile] using hb15
  rw [if_pos hb15] at hx11o
  refine VW.skip ?_
  refine hK14 _ ?_
  refine VW.sqc fun K16 hK16 hCK16 => ?_
  refine VW.block ?_
  -- region 6
  obtain ⟨x21, hx21, hx11o⟩ := bind_some hx11o
  refine VW.cut [(0, .val (i64 a0)), (1, .val (dM a1)), (5, .val (i64 s11)), (57, .val (.bool x21))] ?_ fun hy => ?_
  rotate_left
  · clear hx11o
    obtain ⟨v17, hv17, hx21⟩ := bind_some hx21
    obtain ⟨hv17a, hv17b, hv17c, hv17d⟩ := idx_some hv17
    obtain ⟨v18, hv18, hx21⟩ := bind_some hx21
    obtain ⟨hv18a, hv18b, hv18c, hv18d⟩ := idx_some hv18
    replace hv18b : 0 < a1.length := hv18b
    replace hv18c : a1[0]? = some v18 := hv18c
    replace hv18d : ∀ h, a1[0]'h = v18 := hv18d
    by_cases hp19 : ¬ (v17.length : Int) = (v18.length : Int)
    · rw [if_pos hp19] at hx21
      have hp19b : ieq (v17.length : Int) (v18.length : Int) = false := by simpa [ieq, ilt, ile] using hp19
      have hp19s := hp19b
      try simp at hp19s
      cases hx21
      refine VW.wds tau_ok Sound.none try_mixed [some 39, some 40, some 41, some 42, some 43, some 44, some 45, some 46, some 47, some 48, some 49, some 50, some 51, some 52, some 53, some 54, some 55, some 56, some 57] _ 19 rfl (by kernel_rfl) (by rfl) ?_ hy
      simp [hv17a, hv17b, hv17c, hv17d, hv18a, hv18b, hv18c, hv18d, hp19b, hp19s] <;> simp [ieq, ilt, ile]
    · rw [if_neg hp19] at hx21
      have hp19b : ieq (v17.length : Int) (v18.length : Int) = true := by simpa [ieq, ilt, ile] using hp19
      have hp19s := hp19b
      try simp at hp19s
      obtain ⟨v20, hv20, hx21⟩ := bind_some hx21
      cases hx21
      refine VW.wds tau_ok (Sound.none.add 55 (s_l01Numbers_ok hv20) rfl) try_mixed [some 39, some 40, some 41, some 42, some 43, some 44, some 45, some 46, some 47, some 48, some 49, some 50, some 51, some 52, some 53, some 54, some 55, some 56, some 57] _ 19 rfl (by kernel_rfl) (by rfl) ?_ hy
      simp [hv17a, hv17b, hv17c, hv17d, hv18a, hv18b, hv18c, hv18d, hp19b, hp19s] <;> simp [ieq, ilt, ile]
  refine VW.cond rfl (fun hb22 => ?_) (fun hb22 => ?_)
  rotate_left
  ·
    replace hb22 : ¬ (x21 = true) := by simpa [ieq, ilt, ile] using hb22
    rw [if_neg hb22] at hx11o
    refine VW.skip ?_
    refine hK16 _ ?_
    -- region 5
    refine VW.wr tau_ok Sound.none [some 37, some 38, some 5] [(0, .val (i64 a0)), (1, .val (dM a1)), (5, .val (i64 (w64 (s11 + 1))))] rfl ?_ ?_
    · simp <;> simp [ieq, ilt, ile]
    cases hx11o
    exact ⟨_, rfl, Fits.of rfl⟩
  replace hb22 : x21 = true := by simpa [ieq, ilt, ile] using hb22
  rw [if_pos hb22] at hx11o
  -- region 7
  refine VW.ws tau_ok Sound.none [some 4] [(4, .val (.bool false))] rfl ?_ ?_
  · simp <;> simp [ieq, ilt, ile]
  cases hx11o
  have hq := hx11b _ rfl
  subst hq
  dsimp only at h
  cases h
  refine VW.ret ?_
  simp [Post, PostM, PostC, PostC2, Nx, Bk]

theorem s_l01Own_ok {a0 : List Int} {r : List Int} (h : s_l01Own a0 = some r) :
    VCall Try.prog 208 [dI a0] [.own true (dI r)] := by
  unfold s_l01Own at h
  refine VCall.enter Try.call208 Try.func208 rfl 6 Try.ntmps208 (by simp) [.tmp 2] rfl ?_
  show VW _ _ _ (mk [(0, .val (dI a0))]) _
  -- region 0
  refine VW.ws tau_ok Sound.none [some 2] [(0, .val (dI a0))] rfl ?_ ?_
  · simp <;> simp [ieq, ilt, ile]
  -- region 1
  obtain ⟨hc1, h⟩ := chk_some h
  have hc1s := hc1
  try simp at hc1s
  refine VW.ws tau_ok Sound.none [some 3, some 4, some 5, some 2] [(2, .ref 2 [] true (dI (([] : List Int) ++ a0)))] rfl ?_ ?_
  · simp [hc1, hc1s] <;> simp [ieq, ilt, ile]
  cases h
  refine VW.ret ?_
  simp [Post, PostM, PostC, PostC2, Nx, Bk]

theorem s_l01Own2_ok {a0 : List (List Int)} {r : List (List Int)} (h : s_l01Own2 a0 = some r) :
    VCall Try.prog 206 [dM a0] [.own true (dM r)] := by
  unfold s_l01Own2 at h
  refine VCall.enter Try.call206 Try.func206 rfl 21 Try.ntmps206 (by simp) [.tmp 2] rfl ?_
  show VW _ _ _ (mk [(0, .val (dM a0))]) _
  -- region 0
  refine VW.ws tau_ok Sound.none [some 2] [(0, .val (dM a0))] rfl ?_ ?_
  · simp <;> simp [ieq, ilt, ile]
  -- region 1
  refine VW.ws tau_ok Sound.none [some 5, some 3] [(0, .val (dM a0)), (3, .ref 3 [] true (dM []))] rfl ?_ ?_
  · simp <;> simp [ieq, ilt, ile]
  refine VW.sqc fun K1 hK1 hCK1 => ?_
  -- region 2
  refine VW.ws tau_ok Sound.none [some 4] [(0, .val (dM a0)), (3, .ref 3 [] true (dM [])), (4, .val (i64 0))] rfl ?_ ?_
  · simp <;> simp [ieq, ilt, ile]
  obtain ⟨x2, hx2, h⟩ := bind_some h
  refine VW.tlE [(3, .ref 3 [] true (dM x2))] (hCK1) ?_ ?_
  · clear hx2
    refine hK1 _ ?_
    -- region 6
    refine VW.ws tau_ok Sound.none [some 20, some 2] [(2, .ref 2 [] true (dM x2))] rfl ?_ ?_
    · simp <;> simp [ieq, ilt, ile]
    cases h
    refine VW.ret ?_
    simp [Post, PostM, PostC, PostC2, Nx, Bk]
  refine VW.block ?_
  refine VW.loopF (s_l01Own2_L0 a0) (fun s2 => [(0, .val (dM a0)), (3, .ref 3 [] true (dM s2.1)), (4, .val (i64 s2.2))]) hx2 (Fits.of rfl) ?_
  clear hx2
  intro s2 ox2 hx2o hx2b
  unfold s_l01Own2_L0 at hx2o
  refine VW.sqc fun K4 hK4 hCK4 => ?_
  -- region 3
  refine VW.ws tau_ok Sound.none [some 6, some 7, some 8, some 9] [(0, .val (dM a0)), (3, .ref 3 [] true (dM s2.1)), (4, .val (i64 s2.2)), (9, .val (.bool (ilt s2.2 (a0.length : Int))))] rfl ?_ ?_
  · simp <;> simp [ieq, ilt, ile]
  refine VW.cond rfl (fun hb5 => ?_) (fun hb5 => ?_)
  rotate_left
  ·
    replace hb5 : ¬ (s2.2 < (a0.length : Int)) := by simpa [ieq, ilt, ile] using hb5
    rw [if_neg hb5] at hx2o
    refine VW.exit ?_
    cases hx2o
    have hq := hx2b _ rfl
    subst hq
    exact Fits.of rfl
  replace hb5 : s2.2 < (a0.length : Int) := by simpa [ieq, ilt, ile] using hb5
  rw [if_pos hb5] at hx2o
  refine VW.skip ?_
  refine hK4 _ ?_
  refine VW.sqc fun K6 hK6 hCK6 => ?_
  refine VW.block ?_
  -- region 5
  obtain ⟨v7, hv7, hx2o⟩ := bind_some hx2o
  obtain ⟨hv7a, hv7b, hv7c, hv7d⟩ := idx_some hv7
  obtain ⟨v8, hv8, hx2o⟩ := bind_some hx2o
  obtain ⟨hc9, hx2o⟩ := chk_some hx2o
  have hc9s := hc9
  try simp at hc9s
  refine VW.wr tau_ok (Sound.none.add 17 (s_l01Own_ok hv8) rfl) [some 12, some 13, some 14, some 15, some 16, some 17, some 18, some 19, some 3] [(0, .val (dM a0)), (3, .ref 3 [] true (dM (s2.1 ++ [v8]))), (4, .val (i64 s2.2))] rfl ?_ ?_
  · simp [hv7a, hv7b, hv7c, hv7d, hc9, hc9s] <;> simp [ieq, ilt, ile]
  refine hK6 _ ?_
  -- region 4
  refine VW.wr tau_ok Sound.none [some 10, some 11, some 4] [(0, .val (dM a0)), (3, .ref 3 [] true (dM (s2.1 ++ [v8]))), (4, .val (i64 (w64 (s2.2 + 1))))] rfl ?_ ?_
  · simp <;> simp [ieq, ilt, ile]
  cases hx2o
  exact ⟨_, rfl, Fits.of rfl⟩

theorem s_l01Inv_ok {a0 : Int} {a1 : Int} {r : Int} (h : s_l01Inv a0 a1 = some r) :
    VCall Try.prog 207 [i64 a0, i64 a1] [.sc (i64 r)] := by
  unfold s_l01Inv at h
  refine VCall.enter Try.call207 Try.func207 rfl 15 Try.ntmps207 (by simp) [.tmp 4] rfl ?_
  show VW _ _ _ (mk [(0, .val (i64 a0)), (1, .val (i64 a1))]) _
  -- region 0
  refine VW.ws tau_ok Sound.none [some 4] [(0, .val (i64 a0)), (1, .val (i64 a1))] rfl ?_ ?_
  · simp <;> simp [ieq, ilt, ile]
  -- region 1
  refine VW.ws tau_ok Sound.none [some 5] [(0, .val (i64 a0)), (1, .val (i64 a1)), (5, .val (i64 1))] rfl ?_ ?_
  · simp <;> simp [ieq, ilt, ile]
  refine VW.sqc fun K1 hK1 hCK1 => ?_
  obtain ⟨x2, hx2, h⟩ := bind_some h
  refine VW.tlE [(5, .val (i64 x2))] (hCK1) ?_ ?_
  · clear hx2
    refine hK1 _ ?_
    -- region 4
    refine VW.ws tau_ok Sound.none [some 14, some 4] [(4, .val (i64 x2))] rfl ?_ ?_
    · simp <;> simp [ieq, ilt, ile]
    cases h
    refine VW.ret ?_
    simp [Post, PostM, PostC, PostC2, Nx, Bk]
  refine VW.block ?_
  refine VW.loopF (s_l01Inv_L0 a0 a1) (fun s2 => [(0, .val (i64 a0)), (1, .val (i64 a1)), (5, .val (i64 s2))]) hx2 (Fits.of rfl) ?_
  clear hx2
  intro s2 ox2 hx2o hx2b
  unfold s_l01Inv_L0 at hx2o
  refine VW.sqc fun K4 hK4 hCK4 => ?_
  -- region 2
  obtain ⟨hc5, hx2o⟩ := chk_some hx2o
  have hc5s := hc5
  try simp at hc5s
  refine VW.ws tau_ok Sound.none [some 6, some 7, some 8, some 9, some 10, some 11] [(0, .val (i64 a0)), (1, .val (i64 a1)), (5, .val (i64 s2)), (11, .val (.bool (!(ieq ((w64 (a1 * s2)).tmod a0) 1))))] rfl ?_ ?_
  · simp [hc5, hc5s] <;> simp [ieq, ilt, ile]
  refine VW.cond rfl (fun hb6 => ?_) (fun hb6 => ?_)
  rotate_left
  ·
    replace hb6 : ¬ (¬ ((w64 (a1 * s2)).tmod a0) = 1) := by simpa [ieq, ilt, ile] using hb6
    rw [if_neg hb6] at hx2o
    refine VW.exit ?_
    cases hx2o
    have hq := hx2b _ rfl
    subst hq
    exact Fits.of rfl
  replace hb6 : ¬ ((w64 (a1 * s2)).tmod a0) = 1 := by simpa [ieq, ilt, ile] using hb6
  rw [if_pos hb6] at hx2o
  refine VW.skip ?_
  refine hK4 _ ?_
  refine VW.block ?_
  -- region 3
  refine VW.wr tau_ok Sound.none [some 12, some 13, some 5] [(0, .val (i64 a0)), (1, .val (i64 a1)), (5, .val (i64 (w64 (s2 + 1))))] rfl ?_ ?_
  · simp <;> simp [ieq, ilt, ile]
  cases hx2o
  exact ⟨_, rfl, Fits.of rfl⟩

theorem s_l02Plus_ok {a0 : Int} {a1 : List Int} {a2 : List Int} {a3 : Int} {r : List Int} (h : s_l02Plus a0 a1 a2 a3 = some r) :
    VCall Try.prog 170 [i64 a0, dI a1, dI a2, i64 a3] [.own true (dI r)] := by
  unfold s_l02Plus at h
  refine VCall.enter Try.call170 Try.func170 rfl 35 Try.ntmps170 (by simp) [.tmp 8] rfl ?_
  show VW _ _ _ (mk [(0, .val (i64 a0)), (1, .val (dI a1)), (2, .val (dI a2)), (3, .val (i64 a3))]) _
  -- region 0
  refine VW.ws tau_ok Sound.none [some 8] [(0, .val (i64 a0)), (1, .val (dI a1)), (2, .val (dI a2)), (3, .val (i64 a3))] rfl ?_ ?_
  · simp <;> simp [ieq, ilt, ile]
  -- region 1
  refine VW.ws tau_ok Sound.none [some 11, some 9] [(0, .val (i64 a0)), (1, .val (dI a1)), (2, .val (dI a2)), (3, .val (i64 a3)), (9, .ref 9 [] true (dI []))] rfl ?_ ?_
  · simp <;> simp [ieq, ilt, ile]
  refine VW.sqc fun K1 hK1 hCK1 => ?_
  -- region 2
  refine VW.ws tau_ok Sound.none [some 10] [(0, .val (i64 a0)), (1, .val (dI a1)), (2, .val (dI a2)), (3, .val (i64 a3)), (9, .ref 9 [] true (dI [])), (10, .val (i64 0))] rfl ?_ ?_
  · simp <;> simp [ieq, ilt, ile]
  obtain ⟨x2, hx2, h⟩ := bind_some h
  refine VW.tlE [(9, .ref 9 [] true (dI x2))] (hCK1) ?_ ?_
  · clear hx2
    refine hK1 _ ?_
    -- region 6
    refine VW.ws tau_ok Sound.none [some 34, some 8] [(8, .ref 8 [] true (dI x2))] rfl ?_ ?_
    · simp <;> simp [ieq, ilt, ile]
    cases h
    refine VW.ret ?_
    simp [Post, PostM, PostC, PostC2, Nx, Bk]
  refine VW.block ?_
  refine VW.loopF (s_l02Plus_L0 a0 a1 a2 a3) (fun s2 => [(0, .val (i64 a0)), (1, .val (dI a1)), (2, .val (dI a2)), (3, .val (i64 a3)), (9, .ref 9 [] true (dI s2.1)), (10, .val (i64 s2.2))]) hx2 (Fits.of rfl) ?_
  clear hx2
  intro s2 ox2 hx2o hx2b
  unfold s_l02Plus_L0 at hx2o
  refine VW.sqc fun K4 hK4 hCK4 => ?_
  -- region 3
  refine VW.ws tau_ok Sound.none [some 12, some 13, some 14, some 15] [(0, .val (i64 a0)), (1, .val (dI a1)), (2, .val (dI a2)), (3, .val (i64 a3)), (9, .ref 9 [] true (dI s2.1)), (10, .val (i64 s2.2)), (15, .val (.bool (ilt s2.2 (a1.length : Int))))] rfl ?_ ?_
  · simp <;> simp [ieq, ilt, ile]
  refine VW.cond rfl (fun hb5 => ?_) (fun hb5 => ?_)
  rotate_left
  ·
    replace hb5 : ¬ (s2.2 < (a1.length : Int)) := by simpa [ieq, ilt, ile] using hb5
    rw [if_neg hb5] at hx2o
    refine VW.exit ?_
    cases hx2o
    have hq := hx2b _ rfl
    subst hq
    exact Fits.of rfl
  replace hb5 : s2.2 < (a1.length : Int) := by simpa [ieq, ilt, ile] using hb5
  rw [if_pos hb5] at hx2o
  refine VW.skip ?_
  refine hK4 _ ?_
  refine VW.sqc fun K6 hK6 hCK6 => ?_
  refine VW.block ?_
  -- region 5
  obtain ⟨v7, hv7, hx2o⟩ := bind_some hx2o
  obtain ⟨hv7a, hv7b, hv7c, hv7d⟩ := idx_some hv7
  obtain ⟨v8, hv8, hx2o⟩ := bind_some hx2o
  obtain ⟨hv8a, hv8b, hv8c, hv8d⟩ := idx_some hv8
  obtain ⟨hc9, hx2o⟩ := chk_some hx2o
  have hc9s := hc9
  try simp at hc9s
  obtain ⟨hc10, hx2o⟩ := chk_some hx2o
  have hc10s := hc10
  try simp at hc10s
  refine VW.wdr tau_ok Sound.none try_mixed [some 18, some 19, some 20, some 21, some 22, some 23, some 24, some 25, some 26, some 27, some 28, some 29, some 30, some 31, some 32, some 33, some 9] [(0, .val (i64 a0)), (1, .val (dI a1)), (2, .val (dI a2)), (3, .val (i64 a3)), (9, .ref 9 [] true (dI (s2.1 ++ [(w64 (v7 + (w64 (a3 * v8)))).tmod a0]))), (10, .val (i64 s2.2))] 15 rfl (by kernel_rfl) (by rfl) ?_ ?_
  · simp [hv7a, hv7b, hv7c, hv7d, hv8a, hv8b, hv8c, hv8d, hc9, hc9s, hc10, hc10s] <;> simp [ieq, ilt, ile]
  refine hK6 _ ?_
  -- region 4
  refine VW.wr tau_ok Sound.none [some 16, some 17, some 10] [(0, .val (i64 a0)), (1, .val (dI a1)), (2, .val (dI a2)), (3, .val (i64 a3)), (9, .ref 9 [] true (dI (s2.1 ++ [(w64 (v7 + (w64 (a3 * v8)))).tmod a0]))), (10, .val (i64 (w64 (s2.2 + 1))))] rfl ?_ ?_
  · simp <;> simp [ieq, ilt, ile]
  cases hx2o
  exact ⟨_, rfl, Fits.of rfl⟩

theorem s_l02Det_ok {a0 : Int} {a1 : List (List Int)} {r : Int} (h : s_l02Det a0 a1 = some r) :
    VCall Try.prog 278 [i64 a0, dM a1] [.sc (i64 r)] := by
  unfold s_l02Det at h
  refine VCall.enter Try.call278 Try.func278 rfl 119 Try.ntmps278 (by simp) [.tmp 4] rfl ?_
  show VW _ _ _ (mk [(0, .val (i64 a0)), (1, .val (dM a1))]) _
  -- region 0
  refine VW.ws tau_ok Sound.none [some 4] [(0, .val (i64 a0)), (1, .val (dM a1))] rfl ?_ ?_
  · simp <;> simp [ieq, ilt, ile]
  -- region 1
  obtain ⟨v1, hv1, h⟩ := bind_some h
  refine VW.ws tau_ok (Sound.none.add 13 (s_l01Own2_ok hv1) rfl) [some 12, some 13, some 5, some 6] [(0, .val (i64 a0)), (5, .ref 5 [] true (dM v1)), (6, .val (i64 1))] rfl ?_ ?_
  · simp <;> simp [ieq, ilt, ile]
  refine VW.sqc fun K2 hK2 hCK2 => ?_
  -- region 2
  refine VW.ws tau_ok Sound.none [some 7] [(0, .val (i64 a0)), (5, .ref 5 [] true (dM v1)), (6, .val (i64 1)), (7, .val (i64 0))] rfl ?_ ?_
  · simp <;> simp [ieq, ilt, ile]
  obtain ⟨x3, hx3, h⟩ := bind_some h
  refine VW.tlO (fun y5 => [(6, .val (i64 y5))]) x3 (hCK2) ?_ ?_
  · clear hx3
    rintro y5 rfl
    dsimp only at h
    refine hK2 _ ?_
    -- region 21
    refine VW.ws tau_ok Sound.none [some 118, some 4] [(4, .val (i64 y5))] rfl ?_ ?_
    · simp <;> simp [ieq, ilt, ile]
    cases h
    refine VW.ret ?_
    simp [Post, PostM, PostC, PostC2, Nx, Bk]
  refine VW.block ?_
  refine VW.loopF (s_l02Det_L0 a0) (fun s3 => [(0, .val (i64 a0)), (5, .ref 5 [] false (dM s3.1)), (6, .val (i64 s3.2.1)), (7, .val (i64 s3.2.2))]) hx3 (Fits.weak (s := 5) rfl (by simp) (Fits.of rfl)) ?_
  clear hx3
  intro s3 ox3 hx3o hx3b
  unfold s_l02Det_L0 at hx3o
  refine VW.sqc fun K6 hK6 hCK6 => ?_
  -- region 3
  refine VW.ws tau_ok Sound.none [some 14, some 15, some 16, some 17] [(0, .val (i64 a0)), (5, .ref 5 [] false (dM s3.1)), (6, .val (i64 s3.2.1)), (7, .val (i64 s3.2.2)), (17, .val (.bool (ilt s3.2.2 (s3.1.length : Int))))] rfl ?_ ?_
  · simp <;> simp [ieq, ilt, ile]
  refine VW.cond rfl (fun hb7 => ?_) (fun hb7 => ?_)
  rotate_left
  ·
    replace hb7 : ¬ (s3.2.2 < (s3.1.length : Int)) := by simpa [ieq, ilt, ile] using hb7
    rw [if_neg hb7] at hx3o
    refine VW.exit ?_
    cases hx3o
    have hq := hx3b _ rfl
    subst hq
    exact ⟨_, rfl, Fits.of rfl⟩
  replace hb7 : s3.2.2 < (s3.1.length : Int) := by simpa [ieq, ilt, ile] using hb7
  rw [if_pos hb7] at hx3o
  refine VW.skip ?_
  refine hK6 _ ?_
  refine VW.sqc fun K8 hK8 hCK8 => ?_
  refine VW.block ?_
  -- region 5
  refine VW.ws tau_ok Sound.none [some 20, some 8] [(0, .val (i64 a0)), (5, .ref 5 [] false (dM s3.1)), (6, .val (i64 s3.2.1)), (7, .val (i64 s3.2.2)), (8, .val (i64 s3.2.2))] rfl ?_ ?_
  · simp <;> simp [ieq, ilt, ile]
  refine VW.sqc fun K9 hK9 hCK9 => ?_
  obtain ⟨x10, hx10, hx3o⟩ := bind_some hx3o
  refine VW.tlE [(0, .val (i64 a0)), (5, .ref 5 [] false (dM s3.1)), (6, .val (i64 s3.2.1)), (7, .val (i64 s3.2.2)), (8, .val (i64 x10))] (hCK9) ?_ ?_
  · clear hx10
    refine hK9 _ ?_
    refine VW.sqc fun K18 hK18 hCK18 => ?_
    -- region 8
    refine VW.ws tau_ok Sound.none [some 37, some 38, some 39, some 40] [(0, .val (i64 a0)), (5, .ref 5 [] false (dM s3.1)), (6, .val (i64 s3.2.1)), (7, .val (i64 s3.2.2)), (8, .val (i64 x10)), (40, .val (.bool (ieq x10 (s3.1.length : Int))))] rfl ?_ ?_
    · simp <;> simp [ieq, ilt, ile]
    refine VW.cond rfl (fun hb19 => ?_) (fun hb19 => ?_)
    ·
      replace hb19 : x10 = (s3.1.length : Int) := by simpa [ieq, ilt, ile] using hb19
      rw [if_pos hb19] at hx3o
      -- region 9
      refine VW.ws tau_ok Sound.none [some 4] [(4, .val (i64 0))] rfl ?_ ?_
      · simp <;> simp [ieq, ilt, ile]
      cases hx3o
      have hq := hx3b _ rfl
      subst hq
      dsimp only at h
      cases h
      refine VW.ret ?_
      simp [Post, PostM, PostC, PostC2, Nx, Bk]
    replace hb19 : ¬ (x10 = (s3.1.length : Int)) := by simpa [ieq, ilt, ile] using hb19
    rw [if_neg hb19] at hx3o
    refine VW.skip ?_
    refine hK18 _ ?_
    refine VW.sqc fun K20 hK20 hCK20 => ?_
    -- region 10
    refine VW.ws tau_ok Sound.none [some 41, some 42, some 43] [(0, .val (i64 a0)), (5, .ref 5 [] false (dM s3.1)), (6, .val (i64 s3.2.1)), (7, .val (i64 s3.2.2)), (8, .val (i64 x10)), (43, .val (.bool (ilt s3.2.2 x10)))] rfl ?_ ?_
    · simp <;> simp [ieq, ilt, ile]
    obtain ⟨x21, hx21, hx3o⟩ := bind_some hx3o
    refine VW.tlE [(0, .val (i64 a0)), (5, .ref 5 [] false (dM x21.1)), (6, .val (i64 x21.2)), (7, .val (i64 s3.2.2))] (hCK20) ?_ ?_
    · clear hx21
      refine hK20 _ ?_
      -- region 15
      obtain ⟨v29, hv29, hx3o⟩ := bind_some hx3o
      obtain ⟨hv29a, hv29b, hv29c, hv29d⟩ := idx_some hv29
      obtain ⟨v30, hv30, hx3o⟩ := bind_some hx3o
      obtain ⟨hv30a, hv30b, hv30c, hv30d⟩ := idx_some hv30
      obtain ⟨hc31, hx3o⟩ := chk_some hx3o
      have hc31s := hc31
      try simp at hc31s
      refine VW.ws tau_ok Sound.none [some 64, some 65, some 66, some 67, some 68, some 69, some 70, some 71, some 72, some 73, some 74, some 6] [(0, .val (i64 a0)), (5, .ref 5 [] false (dM x21.1)), (6, .val (i64 ((w64 (x21.2 * v30)).tmod a0))), (7, .val (i64 s3.2.2))] rfl ?_ ?_
      · simp [hv29a, hv29b, hv29c, hv29d, hv30a, hv30b, hv30c, hv30d, hc31, hc31s] <;> simp [ieq, ilt, ile]
      -- region 16
      obtain ⟨v32, hv32, hx3o⟩ := bind_some hx3o
      refine VW.ws tau_ok (Sound.none.add 83 (s_l01Inv_ok hv32) rfl) [some 75, some 76, some 77, some 78, some 79, some 80, some 81, some 82, some 83, some 10] [(0, .val (i64 a0)), (5, .ref 5 [] false (dM x21.1)), (6, .val (i64 ((w64 (x21.2 * v30)).tmod a0))), (7, .val (i64 s3.2.2)), (10, .val (i64 v32))] rfl ?_ ?_
      · simp [hv29a, hv29b, hv29c, hv29d, hv30a, hv30b, hv30c, hv30d] <;> simp [ieq, ilt, ile]
      -- region 17
      refine VW.ws tau_ok Sound.none [some 84, some 85, some 11] [(0, .val (i64 a0)), (5, .ref 5 [] false (dM x21.1)), (6, .val (i64 ((w64 (x21.2 * v30)).tmod a0))), (7, .val (i64 s3.2.2)), (10, .val (i64 v32)), (11, .val (i64 (w64 (s3.2.2 + 1))))] rfl ?_ ?_
      · simp <;> simp [ieq, ilt, ile]
      obtain ⟨x33, hx33, hx3o⟩ := bind_some hx3o
      refine VW.tlE [(0, .val (i64 a0)), (5, .ref 5 [] false (dM x33)), (6, .val (i64 ((w64 (x21.2 * v30)).tmod a0))), (7, .val (i64 s3.2.2))] (hCK8) ?_ ?_
      · clear hx33
        refine hK8 _ ?_
        -- region 4
        refine VW.wr tau_ok Sound.none [some 18, some 19, some 7] [(0, .val (i64 a0)), (5, .ref 5 [] false (dM x33)), (6, .val (i64 ((w64 (x21.2 * v30)).tmod a0))), (7, .val (i64 (w64 (s3.2.2 + 1))))] rfl ?_ ?_
        · simp <;> simp [ieq, ilt, ile]
        cases hx3o
        exact ⟨_, rfl, Fits.of rfl⟩
      refine VW.block ?_
      refine VW.loopF (s_l02Det_L2 a0 s3 v32) (fun s33 => [(0, .val (i64 a0)), (5, .ref 5 [] false (dM s33.1)), (6, .val (i64 ((w64 (x21.2 * v30)).tmod a0))), (7, .val (i64 s3.2.2)), (10, .val (i64 v32)), (11, .val (i64 s33.2))]) hx33 (Fits.of rfl) ?_
      clear hx33
      intro s33 ox33 hx33o hx33b
      unfold s_l02Det_L2 at hx33o
      refine VW.sqc fun K35 hK35 hCK35 => ?_
      -- region 18
      refine VW.ws tau_ok Sound.none [some 86, some 87, some 88, some 89] [(0, .val (i64 a0)), (5, .ref 5 [] false (dM s33.1)), (6, .val (i64 ((w64 (x21.2 * v30)).tmod a0))), (7, .val (i64 s3.2.2)), (10, .val (i64 v32)), (11, .val (i64 s33.2)), (89, .val (.bool (ilt s33.2 (s33.1.length : Int))))] rfl ?_ ?_
      · simp <;> simp [ieq, ilt, ile]
      refine VW.cond rfl (fun hb36 => ?_) (fun hb36 => ?_)
      rotate_left
      ·
        replace hb36 : ¬ (s33.2 < (s33.1.length : Int)) := by simpa [ieq, ilt, ile] using hb36
        rw [if_neg hb36] at hx33o
        refine VW.exit ?_
        cases hx33o
        have hq := hx33b _ rfl
        subst hq
        exact Fits.of rfl
      replace hb36 : s33.2 < (s33.1.length : Int) := by simpa [ieq, ilt, ile] using hb36
      rw [if_pos hb36] at hx33o
      refine VW.skip ?_
      refine hK35 _ ?_
      refine VW.sqc fun K37 hK37 hCK37 => ?_
      refine VW.block ?_
      -- region 20
      obtain ⟨v38, hv38, hx33o⟩ := bind_some hx33o
      obtain ⟨hv38a, hv38b, hv38c, hv38d⟩ := idx_some hv38
      obtain ⟨v39, hv39, hx33o⟩ := bind_some hx33o
      obtain ⟨hv39a, hv39b, hv39c, hv39d⟩ := idx_some hv39
      obtain ⟨v40, hv40, hx33o⟩ := bind_some hx33o
      obtain ⟨hv40a, hv40b, hv40c, hv40d⟩ := idx_some hv40
      obtain ⟨hc41, hx33o⟩ := chk_some hx33o
      have hc41s := hc41
      try simp at hc41s
      obtain ⟨v42, hv42, hx33o⟩ := bind_some hx33o
      refine VW.wdr tau_ok (Sound.none.add 116 (s_l02Plus_ok hv42) rfl) try_mixed [some 92, some 93, some 94, some 95, some 96, some 97, some 98, some 99, some 100, some 101, some 102, some 103, some 104, some 105, some 106, some 107, some 108, some 109, some 110, some 111, some 112, some 113, some 114, some 115, some 116, some 117, none] [(0, .val (i64 a0)), (5, .ref 5 [] false (dM (s33.1.set s33.2.toNat v42))), (6, .val (i64 ((w64 (x21.2 * v30)).tmod a0))), (7, .val (i64 s3.2.2)), (10, .val (i64 v32)), (11, .val (i64 s33.2))] 26 rfl (by kernel_rfl) (by rfl) ?_ ?_
      · simp [hv38a, hv38b, hv38c, hv38d, hv39a, hv39b, hv39c, hv39d, hv40a, hv40b, hv40c, hv40d, hc41, hc41s] <;> simp [ieq, ilt, ile]
      refine hK37 _ ?_
      -- region 19
      refine VW.wr tau_ok Sound.none [some 90, some 91, some 11] [(0, .val (i64 a0)), (5, .ref 5 [] false (dM (s33.1.set s33.2.toNat v42))), (6, .val (i64 ((w64 (x21.2 * v30)).tmod a0))), (7, .val (i64 s3.2.2)), (10, .val (i64 v32)), (11, .val (i64 (w64 (s33.2 + 1))))] rfl ?_ ?_
      · simp <;> simp [ieq, ilt, ile]
      cases hx33o
      exact ⟨_, rfl, Fits.of rfl⟩
    refine VW.cond rfl (fun hb23 => ?_) (fun hb23 => ?_)
    rotate_left
    ·
      replace hb23 : ¬ (s3.2.2 < x10) := by simpa [ieq, ilt, ile] using hb23
      rw [if_neg hb23] at hx21
      refine VW.skip ?_
      cases hx21
      exact Fits.of rfl
    replace hb23 : s3.2.2 < x10 := by simpa [ieq, ilt, ile] using hb23
    rw [if_pos hb23] at hx21
    -- region 11
    obtain ⟨v24, hv24, hx21⟩ := bind_some hx21
    obtain ⟨hv24a, hv24b, hv24c, hv24d⟩ := idx_some hv24
    refine VW.ws tau_ok Sound.none [some 44, some 45, some 46, some 47, some 9] [(0, .val (i64 a0)), (5, .ref 5 [] false (dM s3.1)), (6, .val (i64 s3.2.1)), (7, .val (i64 s3.2.2)), (8, .val (i64 x10)), (9, .val (dI v24))] rfl ?_ ?_
    · simp [hv24a, hv24b, hv24c, hv24d] <;> simp [ieq, ilt, ile]
    -- region 12
    obtain ⟨v25, hv25, hx21⟩ := bind_some hx21
    obtain ⟨hv25a, hv25b, hv25c, hv25d⟩ := idx_some hv25
    refine VW.ws tau_ok Sound.none [some 48, some 49, some 50, some 51, some 52, some 53, some 54, none] [(0, .val (i64 a0)), (5, .ref 5 [] false (dM (s3.1.set x10.toNat v25))), (6, .val (i64 s3.2.1)), (7, .val (i64 s3.2.2)), (9, .val (dI v24))] rfl ?_ ?_
    · simp [hv25a, hv25b, hv25c, hv25d, hv24a, hv24b, hv24c, hv24d] <;> simp [ieq, ilt, ile]
    obtain ⟨l26, hl26, hx21⟩ := bind_some hx21
    rw [Option.some.inj hl26]
    -- region 13
    obtain ⟨v27, hv27, hx21⟩ := bind_some hx21
    obtain ⟨hv27a, hv27b, hv27c, hv27d⟩ := idx_some hv27
    refine VW.ws tau_ok Sound.none [some 55, some 56, some 57, some 58, none] [(0, .val (i64 a0)), (5, .ref 5 [] false (dM (l26.set s3.2.2.toNat v24))), (6, .val (i64 s3.2.1)), (7, .val (i64 s3.2.2))] rfl ?_ ?_
    · simp [hv27a, hv27b, hv27c, hv27d] <;> simp [ieq, ilt, ile]
    -- region 14
    obtain ⟨hc28, hx21⟩ := chk_some hx21
    have hc28s := hc28
    try simp at hc28s
    refine VW.wr tau_ok Sound.none [some 59, some 60, some 61, some 62, some 63, some 6] [(0, .val (i64 a0)), (5, .ref 5 [] false (dM (l26.set s3.2.2.toNat v24))), (6, .val (i64 ((w64 (a0 - s3.2.1)).tmod a0))), (7, .val (i64 s3.2.2))] rfl ?_ ?_
    · simp [hc28, hc28s] <;> simp [ieq, ilt, ile]
    cases hx21
    exact Fits.of rfl
  refine VW.block ?_
  refine VW.loopF (s_l02Det_L1 s3) (fun s10 => [(0, .val (i64 a0)), (5, .ref 5 [] false (dM s3.1)), (6, .val (i64 s3.2.1)), (7, .val (i64 s3.2.2)), (8, .val (i64 s10))]) hx10 (Fits.of rfl) ?_
  clear hx10
  intro s10 ox10 hx10o hx10b
  unfold s_l02Det_L1 at hx10o
  refine VW.sqc fun K12 hK12 hCK12 => ?_
  -- region 6
  obtain ⟨x16, hx16, hx10o⟩ := bind_some hx10o
  refine VW.cut [(0, .val (i64 a0)), (5, .ref 5 [] false (dM s3.1)), (6, .val (i64 s3.2.1)), (7, .val (i64 s3.2.2)), (8, .val (i64 s10)), (34, .val (.bool x16))] ?_ fun hy => ?_
  rotate_left
  · clear hx10o
    by_cases hp13 : s10 < (s3.1.length : Int)
    · rw [if_pos hp13] at hx16
      have hp13b : ilt s10 (s3.1.length : Int) = true := by simpa [ieq, ilt, ile] using hp13
      have hp13s := hp13b
      try simp at hp13s
      obtain ⟨v14, hv14, hx16⟩ := bind_some hx16
      obtain ⟨hv14a, hv14b, hv14c, hv14d⟩ := idx_some hv14
      obtain ⟨v15, hv15, hx16⟩ := bind_some hx16
      obtain ⟨hv15a, hv15b, hv15c, hv15d⟩ := idx_some hv15
      cases hx16
      refine VW.ws tau_ok Sound.none [some 21, some 22, some 23, some 24, some 25, some 26, some 27, some 28, some 29, some 30, some 31, some 32, some 33, some 34] _ rfl ?_ hy
      simp [hp13b, hp13s, hv14a, hv14b, hv14c, hv14d, hv15a, hv15b, hv15c, hv15d] <;> simp [ieq, ilt, ile]
    · rw [if_neg hp13] at hx16
      have hp13b : ilt s10 (s3.1.length : Int) = false := by simpa [ieq, ilt, ile] using hp13
      have hp13s := hp13b
      try simp at hp13s
      cases hx16
      refine VW.ws tau_ok Sound.none [some 21, some 22, some 23, some 24, some 25, some 26, some 27, some 28, some 29, some 30, some 31, some 32, some 33, some 34] _ rfl ?_ hy
      simp [hp13b, hp13s] <;> simp [ieq, ilt, ile]
  refine VW.cond rfl (fun hb17 => ?_) (fun hb17 => ?_)
  rotate_left
  ·
    replace hb17 : ¬ (x16 = true) := by simpa [ieq, ilt, ile] using hb17
    rw [if_neg hb17] at hx10o
    refine VW.exit ?_
    cases hx10o
    have hq := hx10b _ rfl
    subst hq
    exact Fits.of rfl
  replace hb17 : x16 = true := by simpa [ieq, ilt, ile] using hb17
  rw [if_pos hb17] at hx10o
  refine VW.skip ?_
  refine hK12 _ ?_
  refine VW.block ?_
  -- region 7
  refine VW.wr tau_ok Sound.none [some 35, some 36, some 8] [(0, .val (i64 a0)), (5, .ref 5 [] false (dM s3.1)), (6, .val (i64 s3.2.1)), (7, .val (i64 s3.2.2)), (8, .val (i64 (w64 (s10 + 1))))] rfl ?_ ?_
  · simp <;> simp [ieq, ilt, ile]
  cases hx10o
  exact ⟨_, rfl, Fits.of rfl⟩

theorem s_l02Turn_ok {a0 : List (List Int)} {r : List (List Int)} (h : s_l02Turn a0 = some r) :
    VCall Try.prog 169 [dM a0] [.own true (dM r)] := by
  unfold s_l02Turn at h
  refine VCall.enter Try.call169 Try.func169 rfl 38 Try.ntmps169 (by simp) [.tmp 2] rfl ?_
  show VW _ _ _ (mk [(0, .val (dM a0))]) _
  -- region 0
  refine VW.ws tau_ok Sound.none [some 2] [(0, .val (dM a0))] rfl ?_ ?_
  · simp <;> simp [ieq, ilt, ile]
  -- region 1
  refine VW.ws tau_ok Sound.none [some 7, some 3] [(0, .val (dM a0)), (3, .ref 3 [] true (dM []))] rfl ?_ ?_
  · simp <;> simp [ieq, ilt, ile]
  refine VW.sqc fun K1 hK1 hCK1 => ?_
  -- region 2
  refine VW.ws tau_ok Sound.none [some 4] [(0, .val (dM a0)), (3, .ref 3 [] true (dM [])), (4, .val (i64 0))] rfl ?_ ?_
  · simp <;> simp [ieq, ilt, ile]
  obtain ⟨x2, hx2, h⟩ := bind_some h
  refine VW.tlE [(3, .ref 3 [] true (dM x2))] (hCK1) ?_ ?_
  · clear hx2
    refine hK1 _ ?_
    -- region 11
    refine VW.ws tau_ok Sound.none [some 37, some 2] [(2, .ref 2 [] true (dM x2))] rfl ?_ ?_
    · simp <;> simp [ieq, ilt, ile]
    cases h
    refine VW.ret ?_
    simp [Post, PostM, PostC, PostC2, Nx, Bk]
  refine VW.block ?_
  refine VW.loopF (s_l02Turn_L0 a0) (fun s2 => [(0, .val (dM a0)), (3, .ref 3 [] true (dM s2.1)), (4, .val (i64 s2.2))]) hx2 (Fits.of rfl) ?_
  clear hx2
  intro s2 ox2 hx2o hx2b
  unfold s_l02Turn_L0 at hx2o
  refine VW.sqc fun K4 hK4 hCK4 => ?_
  -- region 3
  obtain ⟨v5, hv5, hx2o⟩ := bind_some hx2o
  obtain ⟨hv5a, hv5b, hv5c, hv5d⟩ := idx_some hv5
  replace hv5b : 0 < a0.length := hv5b
  replace hv5c : a0[0]? = some v5 := hv5c
  replace hv5d : ∀ h, a0[0]'h = v5 := hv5d
  refine VW.ws tau_ok Sound.none [some 8, some 9, some 10, some 11, some 12, some 13] [(0, .val (dM a0)), (3, .ref 3 [] true (dM s2.1)), (4, .val (i64 s2.2)), (13, .val (.bool (ilt s2.2 (v5.length : Int))))] rfl ?_ ?_
  · simp [hv5a, hv5b, hv5c, hv5d] <;> simp [ieq, ilt, ile]
  refine VW.cond rfl (fun hb6 => ?_) (fun hb6 => ?_)
  rotate_left
  ·
    replace hb6 : ¬ (s2.2 < (v5.length : Int)) := by simpa [ieq, ilt, ile] using hb6
    rw [if_neg hb6] at hx2o
    refine VW.exit ?_
    cases hx2o
    have hq := hx2b _ rfl
    subst hq
    exact Fits.of rfl
  replace hb6 : s2.2 < (v5.length : Int) := by simpa [ieq, ilt, ile] using hb6
  rw [if_pos hb6] at hx2o
  refine VW.skip ?_
  refine hK4 _ ?_
  refine VW.sqc fun K7 hK7 hCK7 => ?_
  refine VW.block ?_
  -- region 5
  refine VW.ws tau_ok Sound.none [some 16, some 5] [(0, .val (dM a0)), (3, .ref 3 [] true (dM s2.1)), (4, .val (i64 s2.2)), (5, .ref 5 [] true (dI []))] rfl ?_ ?_
  · simp <;> simp [ieq, ilt, ile]
  refine VW.sqc fun K8 hK8 hCK8 => ?_
  -- region 6
  refine VW.ws tau_ok Sound.none [some 6] [(0, .val (dM a0)), (3, .ref 3 [] true (dM s2.1)), (4, .val (i64 s2.2)), (5, .ref 5 [] true (dI [])), (6, .val (i64 0))] rfl ?_ ?_
  · simp <;> simp [ieq, ilt, ile]
  obtain ⟨x9, hx9, hx2o⟩ := bind_some hx2o
  refine VW.tlE [(0, .val (dM a0)), (3, .ref 3 [] true (dM s2.1)), (4, .val (i64 s2.2)), (5, .ref 5 [] true (dI x9))] (hCK8) ?_ ?_
  · clear hx9
    refine hK8 _ ?_
    -- region 10
    obtain ⟨hc17, hx2o⟩ := chk_some hx2o
    have hc17s := hc17
    try simp at hc17s
    refine VW.wr tau_ok Sound.none [some 33, some 34, some 35, some 36, some 3] [(0, .val (dM a0)), (3, .ref 3 [] true (dM (s2.1 ++ [x9]))), (4, .val (i64 s2.2))] rfl ?_ ?_
    · simp [hc17, hc17s] <;> simp [ieq, ilt, ile]
    refine hK7 _ ?_
    -- region 4
    refine VW.wr tau_ok Sound.none [some 14, some 15, some 4] [(0, .val (dM a0)), (3, .ref 3 [] true (dM (s2.1 ++ [x9]))), (4, .val (i64 (w64 (s2.2 + 1))))] rfl ?_ ?_
    · simp <;> simp [ieq, ilt, ile]
    cases hx2o
    exact ⟨_, rfl, Fits.of rfl⟩
  refine VW.block ?_
  refine VW.loopF (s_l02Turn_L1 a0 s2) (fun s9 => [(0, .val (dM a0)), (3, .ref 3 [] true (dM s2.1)), (4, .val (i64 s2.2)), (5, .ref 5 [] true (dI s9.1)), (6, .val (i64 s9.2))]) hx9 (Fits.of rfl) ?_
  clear hx9
  intro s9 ox9 hx9o hx9b
  unfold s_l02Turn_L1 at hx9o
  refine VW.sqc fun K11 hK11 hCK11 => ?_
  -- region 7
  refine VW.ws tau_ok Sound.none [some 17, some 18, some 19, some 20] [(0, .val (dM a0)), (3, .ref 3 [] true (dM s2.1)), (4, .val (i64 s2.2)), (5, .ref 5 [] true (dI s9.1)), (6, .val (i64 s9.2)), (20, .val (.bool (ilt s9.2 (a0.length : Int))))] rfl ?_ ?_
  · simp <;> simp [ieq, ilt, ile]
  refine VW.cond rfl (fun hb12 => ?_) (fun hb12 => ?_)
  rotate_left
  ·
    replace hb12 : ¬ (s9.2 < (a0.length : Int)) := by simpa [ieq, ilt, ile] using hb12
    rw [if_neg hb12] at hx9o
    refine VW.exit ?_
    cases hx9o
    have hq := hx9b _ rfl
    subst hq
    exact Fits.of rfl
  replace hb12 : s9.2 < (a0.length : Int) := by simpa [ieq, ilt, ile] using hb12
  rw [if_pos hb12] at hx9o
  refine VW.skip ?_
  refine hK11 _ ?_
  refine VW.sqc fun K13 hK13 hCK13 => ?_
  refine VW.block ?_
  -- region 9
  obtain ⟨v14, hv14, hx9o⟩ := bind_some hx9o
  obtain ⟨hv14a, hv14b, hv14c, hv14d⟩ := idx_some hv14
  obtain ⟨v15, hv15, hx9o⟩ := bind_some hx9o
  obtain ⟨hv15a, hv15b, hv15c, hv15d⟩ := idx_some hv15
  obtain ⟨hc16, hx9o⟩ := chk_some hx9o
  have hc16s := hc16
  try simp at hc16s
  refine VW.wr tau_ok Sound.none [some 23, some 24, some 25, some 26, some 27, some 28, some 29, some 30, some 31, some 32, some 5] [(0, .val (dM a0)), (3, .ref 3 [] true (dM s2.1)), (4, .val (i64 s2.2)), (5, .ref 5 [] true (dI (s9.1 ++ [v15]))), (6, .val (i64 s9.2))] rfl ?_ ?_
  · simp [hv14a, hv14b, hv14c, hv14d, hv15a, hv15b, hv15c, hv15d, hc16, hc16s] <;> simp [ieq, ilt, ile]
  refine hK13 _ ?_
  -- region 8
  refine VW.wr tau_ok Sound.none [some 21, some 22, some 6] [(0, .val (dM a0)), (3, .ref 3 [] true (dM s2.1)), (4, .val (i64 s2.2)), (5, .ref 5 [] true (dI (s9.1 ++ [v15]))), (6, .val (i64 (w64 (s9.2 + 1))))] rfl ?_ ?_
  · simp <;> simp [ieq, ilt, ile]
  cases hx9o
  exact ⟨_, rfl, Fits.of rfl⟩

theorem s_l03Pair_ok {a0_0 : Int} {a0_1 : List Int} {a1 : List Int} {a2 : List Int} {r : Int} (h : s_l03Pair a0_0 a0_1 a1 a2 = some r) :
    VCall Try.prog 171 [.agg [i64 a0_0, dI a0_1], dI a1, dI a2] [.sc (i64 r)] := by
  unfold s_l03Pair at h
  refine VCall.enter Try.call171 Try.func171 rfl 39 Try.ntmps171 (by simp) [.tmp 6] rfl ?_
  show VW _ _ _ (mk [(0, .val (.agg [i64 a0_0, dI a0_1])), (1, .val (dI a1)), (2, .val (dI a2))]) _
  -- region 0
  refine VW.ws tau_ok Sound.none [some 3, some 6] [(1, .val (dI a1)), (2, .val (dI a2)), (3, .val (.ptr [i64 a0_0, dI a0_1]))] rfl ?_ ?_
  · simp <;> simp [ieq, ilt, ile]
  -- region 1
  refine VW.ws tau_ok Sound.none [some 7] [(1, .val (dI a1)), (2, .val (dI a2)), (3, .val (.ptr [i64 a0_0, dI a0_1])), (7, .val (i64 0))] rfl ?_ ?_
  · simp <;> simp [ieq, ilt, ile]
  refine VW.sqc fun K1 hK1 hCK1 => ?_
  -- region 2
  refine VW.ws tau_ok Sound.none [some 8] [(1, .val (dI a1)), (2, .val (dI a2)), (3, .val (.ptr [i64 a0_0, dI a0_1])), (7, .val (i64 0)), (8, .val (i64 0))] rfl ?_ ?_
  · simp <;> simp [ieq, ilt, ile]
  obtain ⟨x2, hx2, h⟩ := bind_some h
  refine VW.tlE [(7, .val (i64 x2))] (hCK1) ?_ ?_
  · clear hx2
    refine hK1 _ ?_
    -- region 6
    refine VW.ws tau_ok Sound.none [some 38, some 6] [(6, .val (i64 x2))] rfl ?_ ?_
    · simp <;> simp [ieq, ilt, ile]
    cases h
    refine VW.ret ?_
    simp [Post, PostM, PostC, PostC2, Nx, Bk]
  refine VW.block ?_
  refine VW.loopF (s_l03Pair_L0 a0_0 a0_1 a1 a2) (fun s2 => [(1, .val (dI a1)), (2, .val (dI a2)), (3, .val (.ptr [i64 a0_0, dI a0_1])), (7, .val (i64 s2.1)), (8, .val (i64 s2.2))]) hx2 (Fits.of rfl) ?_
  clear hx2
  intro s2 ox2 hx2o hx2b
  unfold s_l03Pair_L0 at hx2o
  refine VW.sqc fun K4 hK4 hCK4 => ?_
  -- region 3
  refine VW.ws tau_ok Sound.none [some 9, some 10, some 11, some 12] [(1, .val (dI a1)), (2, .val (dI a2)), (3, .val (.ptr [i64 a0_0, dI a0_1])), (7, .val (i64 s2.1)), (8, .val (i64 s2.2)), (12, .val (.bool (ilt s2.2 (a1.length : Int))))] rfl ?_ ?_
  · simp <;> simp [ieq, ilt, ile]
  refine VW.cond rfl (fun hb5 => ?_) (fun hb5 => ?_)
  rotate_left
  ·
    replace hb5 : ¬ (s2.2 < (a1.length : Int)) := by simpa [ieq, ilt, ile] using hb5
    rw [if_neg hb5] at hx2o
    refine VW.exit ?_
    cases hx2o
    have hq := hx2b _ rfl
    subst hq
    exact Fits.of rfl
  replace hb5 : s2.2 < (a1.length : Int) := by simpa [ieq, ilt, ile] using hb5
  rw [if_pos hb5] at hx2o
  refine VW.skip ?_
  refine hK4 _ ?_
  refine VW.sqc fun K6 hK6 hCK6 => ?_
  refine VW.block ?_
  -- region 5
  obtain ⟨v7, hv7, hx2o⟩ := bind_some hx2o
  obtain ⟨hv7a, hv7b, hv7c, hv7d⟩ := idx_some hv7
  obtain ⟨v8, hv8, hx2o⟩ := bind_some hx2o
  obtain ⟨hv8a, hv8b, hv8c, hv8d⟩ := idx_some hv8
  obtain ⟨hc9, hx2o⟩ := chk_some hx2o
  have hc9s := hc9
  try simp at hc9s
  obtain ⟨v10, hv10, hx2o⟩ := bind_some hx2o
  obtain ⟨hv10a, hv10b, hv10c, hv10d⟩ := idx_some hv10
  obtain ⟨hc11, hx2o⟩ := chk_some hx2o
  have hc11s := hc11
  try simp at hc11s
  refine VW.wdr tau_ok Sound.none try_mixed [some 15, some 16, some 17, some 18, some 19, some 20, some 21, some 22, some 23, some 24, some 25, some 26, some 27, some 28, some 29, some 30, some 31, some 32, some 33, some 34, some 35, some 36, some 37, some 7] [(1, .val (dI a1)), (2, .val (dI a2)), (3, .val (.ptr [i64 a0_0, dI a0_1])), (7, .val (i64 ((w64 (s2.1 + (w64 (((w64 (v7 * v8)).tmod a0_0) * v10)))).tmod a0_0))), (8, .val (i64 s2.2))] 24 rfl (by kernel_rfl) (by rfl) ?_ ?_
  · simp [hv7a, hv7b, hv7c, hv7d, hv8a, hv8b, hv8c, hv8d, hc9, hc9s, hv10a, hv10b, hv10c, hv10d, hc11, hc11s] <;> simp [ieq, ilt, ile]
  refine hK6 _ ?_
  -- region 4
  refine VW.wr tau_ok Sound.none [some 13, some 14, some 8] [(1, .val (dI a1)), (2, .val (dI a2)), (3, .val (.ptr [i64 a0_0, dI a0_1])), (7, .val (i64 ((w64 (s2.1 + (w64 (((w64 (v7 * v8)).tmod a0_0) * v10)))).tmod a0_0))), (8, .val (i64 (w64 (s2.2 + 1))))] rfl ?_ ?_
  · simp <;> simp [ieq, ilt, ile]
  cases hx2o
  exact ⟨_, rfl, Fits.of rfl⟩

theorem s_l03Isometry_ok {a0_0 : Int} {a0_1 : List Int} {a1_0 : Int} {a1_1 : List Int} {a2 : List (List Int)} {r : Bool} (h : s_l03Isometry a0_0 a0_1 a1_0 a1_1 a2 = some r) :
    VCall Try.prog 261 [.agg [i64 a0_0, dI a0_1], .agg [i64 a1_0, dI a1_1], dM a2] [.sc (.bool r)] := by
  unfold s_l03Isometry at h
  refine VCall.enter Try.call261 Try.func261 rfl 87 Try.ntmps261 (by simp) [.tmp 6] rfl ?_
  show VW _ _ _ (mk [(0, .val (.agg [i64 a0_0, dI a0_1])), (1, .val (.agg [i64 a1_0, dI a1_1])), (2, .val (dM a2))]) _
  -- region 0
  refine VW.ws tau_ok Sound.none [some 3, some 4, some 6] [(2, .val (dM a2)), (3, .val (.ptr [i64 a0_0, dI a0_1])), (4, .val (.ptr [i64 a1_0, dI a1_1]))] rfl ?_ ?_
  · simp <;> simp [ieq, ilt, ile]
  -- region 1
  refine VW.ws tau_ok Sound.none [some 12, some 13, some 14, some 7] [(2, .val (dM a2)), (3, .val (.ptr [i64 a0_0, dI a0_1])), (4, .val (.ptr [i64 a1_0, dI a1_1])), (7, .val (i64 (a0_1.length : Int)))] rfl ?_ ?_
  · simp <;> simp [ieq, ilt, ile]
  refine VW.sqc fun K1 hK1 hCK1 => ?_
  -- region 2
  obtain ⟨x10, hx10, h⟩ := bind_some h
  refine VW.cut [(2, .val (dM a2)), (3, .val (.ptr [i64 a0_0, dI a0_1])), (4, .val (.ptr [i64 a1_0, dI a1_1])), (7, .val (i64 (a0_1.length : Int))), (54, .val (.bool x10))] ?_ fun hy => ?_
  rotate_left
  · clear h
    by_cases hp2 : ¬ a0_0 = a1_0
    · rw [if_pos hp2] at hx10
      have hp2b : ieq a0_0 a1_0 = false := by simpa [ieq, ilt, ile] using hp2
      have hp2s := hp2b
      try simp at hp2s
      cases hx10
      refine VW.ws tau_ok Sound.none [some 15, some 16, some 17, some 18, some 19, some 20, some 21, some 22, some 23, some 24, some 25, some 26, some 27, some 28, some 29, some 30, some 31, some 32, some 33, some 34, some 35, some 36, some 37, some 38, some 39, some 40, some 41, some 42, some 43, some 44, some 45, some 46, some 47, some 48, some 49, some 50, some 51, some 52, some 53, some 54] _ rfl ?_ hy
      simp [hp2b, hp2s] <;> simp [ieq, ilt, ile]
    · rw [if_neg hp2] at hx10
      have hp2b : ieq a0_0 a1_0 = true := by simpa [ieq, ilt, ile] using hp2
      have hp2s := hp2b
      try simp at hp2s
      by_cases hp3 : ¬ (a1_1.length : Int) = (a0_1.length : Int)
      · rw [if_pos hp3] at hx10
        have hp3b : ieq (a1_1.length : Int) (a0_1.length : Int) = false := by simpa [ieq, ilt, ile] using hp3
        have hp3s := hp3b
        try simp at hp3s
        cases hx10
        refine VW.ws tau_ok Sound.none [some 15, some 16, some 17, some 18, some 19, some 20, some 21, some 22, some 23, some 24, some 25, some 26, some 27, some 28, some 29, some 30, some 31, some 32, some 33, some 34, some 35, some 36, some 37, some 38, some 39, some 40, some 41, some 42, some 43, some 44, some 45, some 46, some 47, some 48, some 49, some 50, some 51, some 52, some 53, some 54] _ rfl ?_ hy
        simp [hp2b, hp2s, hp3b, hp3s] <;> simp [ieq, ilt, ile]
      · rw [if_neg hp3] at hx10
        have hp3b : ieq (a1_1.length : Int) (a0_1.length : Int) = true := by simpa [ieq, ilt, ile] using hp3
        have hp3s := hp3b
        try simp at hp3s
        by_cases hp4 : ¬ (a2.length : Int) = (a0_1.length : Int)
        · rw [if_pos hp4] at hx10
          have hp4b : ieq (a2.length : Int) (a0_1.length : Int) = false := by simpa [ieq, ilt, ile] using hp4
          have hp4s := hp4b
          try simp at hp4s
          cases hx10
          refine VW.ws tau_ok Sound.none [some 15, some 16, some 17, some 18, some 19, some 20, some 21, some 22, some 23, some 24, some 25, some 26, some 27, some 28, some 29, some 30, some 31, some 32, some 33, some 34, some 35, some 36, some 37, some 38, some 39, some 40, some 41, some 42, some 43, some 44, some 45, some 46, some 47, some 48, some 49, some 50, some 51, some 52, some 53, some 54] _ rfl ?_ hy
          simp [hp2b, hp2s, hp3b, hp3s, hp4b, hp4s] <;> simp [ieq, ilt, ile]
        · rw [if_neg hp4] at hx10
          have hp4b : ieq (a2.length : Int) (a0_1.length : Int) = true := by simpa [ieq, ilt, ile] using hp4
          have hp4s := hp4b
          try simp at hp4s
          obtain ⟨v5, hv5, hx10⟩ := bind_some hx10
          by_cases hp6 : v5 = false
          · rw [if_pos hp6] at hx10
            have hp6b : v5 = false := by simpa [ieq, ilt, ile] using hp6
            have hp6s := hp6b
            try simp at hp6s
            cases hx10
            refine VW.ws tau_ok (Sound.none.add 37 (s_l02Is_ok hv5) rfl) [some 15, some 16, some 17, some 18, some 19, some 20, some 21, some 22, some 23, some 24, some 25, some 26, some 27, some 28, some 29, some 30, some 31, some 32, some 33, some 34, some 35, some 36, some 37, some 38, some 39, some 40, some 41, some 42, some 43, some 44, some 45, some 46, some 47, some 48, some 49, some 50, some 51, some 52, some 53, some 54] _ rfl ?_ hy
            simp [hp2b, hp2s, hp3b, hp3s, hp4b, hp4s, hp6b, hp6s] <;> simp [ieq, ilt, ile]
          · rw [if_neg hp6] at hx10
            have hp6b : v5 = true := by simpa [ieq, ilt, ile] using hp6
            have hp6s := hp6b
            try simp at hp6s
            obtain ⟨v7, hv7, hx10⟩ := bind_some hx10
            obtain ⟨hv7a, hv7b, hv7c, hv7d⟩ := idx_some hv7
            replace hv7b : 0 < a2.length := hv7b
            replace hv7c : a2[0]? = some v7 := hv7c
            replace hv7d : ∀ h, a2[0]'h = v7 := hv7d
            by_cases hp8 : ¬ (v7.length : Int) = (a0_1.length : Int)
            · rw [if_pos hp8] at hx10
              have hp8b : ieq (v7.length : Int) (a0_1.length : Int) = false := by simpa [ieq, ilt, ile] using hp8
              have hp8s := hp8b
              try simp at hp8s
              cases hx10
              refine VW.ws tau_ok (Sound.none.add 37 (s_l02Is_ok hv5) rfl) [some 15, some 16, some 17, some 18, some 19, some 20, some 21, some 22, some 23, some 24, some 25, some 26, some 27, some 28, some 29, some 30, some 31, some 32, some 33, some 34, some 35, some 36, some 37, some 38, some 39, some 40, some 41, some 42, some 43, some 44, some 45, some 46, some 47, some 48, some 49, some 50, some 51, some 52, some 53, some 54] _ rfl ?_ hy
              simp [hp2b, hp2s, hp3b, hp3s, hp4b, hp4s, hp6b, hp6s, hv7a, hv7b, hv7c, hv7d, hp8b, hp8s] <;> simp [ieq, ilt, ile]
            · rw [if_neg hp8] at hx10
              have hp8b : ieq (v7.length : Int) (a0_1.length : Int) = true := by simpa [ieq, ilt, ile] using hp8
              have hp8s := hp8b
              try simp at hp8s
              obtain ⟨v9, hv9, hx10⟩ := bind_some hx10
              cases hx10
              refine VW.ws tau_ok ((Sound.none.add 37 (s_l02Is_ok hv5) rfl).add 52 (s_l02Det_ok hv9) rfl) [some 15, some 16, some 17, some 18, some 19, some 20, some 21, some 22, some 23, some 24, some 25, some 26, some 27, some 28, some 29, some 30, some 31, some 32, some 33, some 34, some 35, some 36, some 37, some 38, some 39, some 40, some 41, some 42, some 43, some 44, some 45, some 46, some 47, some 48, some 49, some 50, some 51, some 52, some 53, some 54] _ rfl ?_ hy
              simp [hp2b, hp2s, hp3b, hp3s, hp4b, hp4s, hp6b, hp6s, hv7a, hv7b, hv7c, hv7d, hp8b, hp8s] <;> simp [ieq, ilt, ile]
  refine VW.cond rfl (fun hb11 => ?_) (fun hb11 => ?_)
  ·
    replace hb11 : x10 = true := by simpa [ieq, ilt, ile] using hb11
    rw [if_pos hb11] at h
    -- region 3
    refine VW.ws tau_ok Sound.none [some 6] [(6, .val (.bool false))] rfl ?_ ?_
    · simp <;> simp [ieq, ilt, ile]
    cases h
    refine VW.ret ?_
    simp [Post, PostM, PostC, PostC2, Nx, Bk]
  replace hb11 : ¬ (x10 = true) := by simpa [ieq, ilt, ile] using hb11
  rw [if_neg hb11] at h
  refine VW.skip ?_
  refine hK1 _ ?_
  -- region 4
  obtain ⟨v12, hv12, h⟩ := bind_some h
  refine VW.ws tau_ok (Sound.none.add 56 (s_l02Turn_ok hv12) rfl) [some 55, some 56, some 8] [(3, .val (.ptr [i64 a0_0, dI a0_1])), (4, .val (.ptr [i64 a1_0, dI a1_1])), (7, .val (i64 (a0_1.length : Int))), (8, .ref 8 [] true (dM v12))] rfl ?_ ?_
  · simp <;> simp [ieq, ilt, ile]
  refine VW.sqc fun K13 hK13 hCK13 => ?_
  -- region 5
  refine VW.ws tau_ok Sound.none [some 9] [(3, .val (.ptr [i64 a0_0, dI a0_1])), (4, .val (.ptr [i64 a1_0, dI a1_1])), (7, .val (i64 (a0_1.length : Int))), (8, .ref 8 [] true (dM v12)), (9, .val (i64 0))] rfl ?_ ?_
  · simp <;> simp [ieq, ilt, ile]
  obtain ⟨x14, hx14, h⟩ := bind_some h
  refine VW.tlO (fun y16 => []) x14 (hCK13) ?_ ?_
  · clear hx14
    rintro y16 rfl
    dsimp only at h
    refine hK13 _ ?_
    -- region 16
    refine VW.ws tau_ok Sound.none [some 6] [(6, .val (.bool true))] rfl ?_ ?_
    · simp <;> simp [ieq, ilt, ile]
    cases h
    refine VW.ret ?_
    simp [Post, PostM, PostC, PostC2, Nx, Bk]
  refine VW.block ?_
  refine VW.loopF (s_l03Isometry_L0 a0_1 a1_0 a1_1 v12) (fun s14 => [(3, .val (.ptr [i64 a0_0, dI a0_1])), (4, .val (.ptr [i64 a1_0, dI a1_1])), (7, .val (i64 (a0_1.length : Int))), (8, .ref 8 [] true (dM v12)), (9, .val (i64 s14))]) hx14 (Fits.of rfl) ?_
  clear hx14
  intro s14 ox14 hx14o hx14b
  unfold s_l03Isometry_L0 at hx14o
  refine VW.sqc fun K17 hK17 hCK17 => ?_
  -- region 6
  refine VW.ws tau_ok Sound.none [some 57, some 58, some 59] [(3, .val (.ptr [i64 a0_0, dI a0_1])), (4, .val (.ptr [i64 a1_0, dI a1_1])), (7, .val (i64 (a0_1.length : Int))), (8, .ref 8 [] true (dM v12)), (9, .val (i64 s14)), (59, .val (.bool (ilt s14 (a0_1.length : Int))))] rfl ?_ ?_
  · simp <;> simp [ieq, ilt, ile]
  refine VW.cond rfl (fun hb18 => ?_) (fun hb18 => ?_)
  rotate_left
  ·
    replace hb18 : ¬ (s14 < (a0_1.length : Int)) := by simpa [ieq, ilt, ile] using hb18
    rw [if_neg hb18] at hx14o
    refine VW.exit ?_
    cases hx14o
    have hq := hx14b _ rfl
    subst hq
    exact ⟨_, rfl, Fits.of rfl⟩
  replace hb18 : s14 < (a0_1.length : Int) := by simpa [ieq, ilt, ile] using hb18
  rw [if_pos hb18] at hx14o
  refine VW.skip ?_
  refine hK17 _ ?_
  refine VW.sqc fun K19 hK19 hCK19 => ?_
  refine VW.block ?_
  -- region 8
  refine VW.ws tau_ok Sound.none [some 10] [(3, .val (.ptr [i64 a0_0, dI a0_1])), (4, .val (.ptr [i64 a1_0, dI a1_1])), (7, .val (i64 (a0_1.length : Int))), (8, .ref 8 [] true (dM v12)), (9, .val (i64 s14)), (10, .val (i64 0))] rfl ?_ ?_
  · simp <;> simp [ieq, ilt, ile]
  obtain ⟨x20, hx20, hx14o⟩ := bind_some hx14o
  refine VW.tlO (fun y22 => [(3, .val (.ptr [i64 a0_0, dI a0_1])), (4, .val (.ptr [i64 a1_0, dI a1_1])), (7, .val (i64 (a0_1.length : Int))), (8, .ref 8 [] true (dM v12)), (9, .val (i64 s14))]) x20 (hCK19) ?_ ?_
  · clear hx20
    rintro y22 rfl
    dsimp only at hx14o
    refine hK19 _ ?_
    -- region 7
    refine VW.wr tau_ok Sound.none [some 60, some 61, some 9] [(3, .val (.ptr [i64 a0_0, dI a0_1])), (4, .val (.ptr [i64 a1_0, dI a1_1])), (7, .val (i64 (a0_1.length : Int))), (8, .ref 8 [] true (dM v12)), (9, .val (i64 (w64 (s14 + 1))))] rfl ?_ ?_
    · simp <;> simp [ieq, ilt, ile]
    cases hx14o
    exact ⟨_, rfl, Fits.of rfl⟩
  refine VW.block ?_
  refine VW.loopF (s_l03Isometry_L1 a0_1 a1_0 a1_1 v12 s14) (fun s20 => [(3, .val (.ptr [i64 a0_0, dI a0_1])), (4, .val (.ptr [i64 a1_0, dI a1_1])), (7, .val (i64 (a0_1.length : Int))), (8, .ref 8 [] true (dM v12)), (9, .val (i64 s14)), (10, .val (i64 s20))]) hx20 (Fits.of rfl) ?_
  clear hx20
  intro s20 ox20 hx20o hx20b
  unfold s_l03Isometry_L1 at hx20o
  refine VW.sqc fun K23 hK23 hCK23 => ?_
  -- region 9
  refine VW.ws tau_ok Sound.none [some 62, some 63, some 64] [(3, .val (.ptr [i64 a0_0, dI a0_1])), (4, .val (.ptr [i64 a1_0, dI a1_1])), (7, .val (i64 (a0_1.length : Int))), (8, .ref 8 [] true (dM v12)), (9, .val (i64 s14)), (10, .val (i64 s20)), (64, .val (.bool (ile s20 s14)))] rfl ?_ ?_
  · simp <;> simp [ieq, ilt, ile]
  refine VW.cond rfl (fun hb24 => ?_) (fun hb24 => ?_)
  rotate_left
  ·
    replace hb24 : ¬ (s20 ≤ s14) := by simpa [ieq, ilt, ile] using hb24
    rw [if_neg hb24] at hx20o
    refine VW.exit ?_
    cases hx20o
    have hq := hx20b _ rfl
    subst hq
    exact ⟨_, rfl, Fits.of rfl⟩
  replace hb24 : s20 ≤ s14 := by simpa [ieq, ilt, ile] using hb24
  rw [if_pos hb24] at hx20o
  refine VW.skip ?_
  refine hK23 _ ?_
  refine VW.sqc fun K25 hK25 hCK25 => ?_
  refine VW.block ?_
  -- region 11
  refine VW.ws tau_ok Sound.none [some 11] [(3, .val (.ptr [i64 a0_0, dI a0_1])), (4, .val (.ptr [i64 a1_0, dI a1_1])), (7, .val (i64 (a0_1.length : Int))), (8, .ref 8 [] true (dM v12)), (9, .val (i64 s14)), (10, .val (i64 s20)), (11, .val (i64 0))] rfl ?_ ?_
  · simp <;> simp [ieq, ilt, ile]
  refine VW.sqc fun K26 hK26 hCK26 => ?_
  -- region 12
  refine VW.ws tau_ok Sound.none [some 67, some 68, some 69] [(3, .val (.ptr [i64 a0_0, dI a0_1])), (4, .val (.ptr [i64 a1_0, dI a1_1])), (7, .val (i64 (a0_1.length : Int))), (8, .ref 8 [] true (dM v12)), (9, .val (i64 s14)), (10, .val (i64 s20)), (11, .val (i64 0)), (69, .val (.bool (ieq s14 s20)))] rfl ?_ ?_
  · simp <;> simp [ieq, ilt, ile]
  obtain ⟨x27, hx27, hx20o⟩ := bind_some hx20o
  refine VW.tlE [(3, .val (.ptr [i64 a0_0, dI a0_1])), (4, .val (.ptr [i64 a1_0, dI a1_1])), (7, .val (i64 (a0_1.length : Int))), (8, .ref 8 [] true (dM v12)), (9, .val (i64 s14)), (10, .val (i64 s20)), (11, .val (i64 x27))] (hCK26) ?_ ?_
  · clear hx27
    refine hK26 _ ?_
    -- region 14
    obtain ⟨v31, hv31, hx20o⟩ := bind_some hx20o
    obtain ⟨hv31a, hv31b, hv31c, hv31d⟩ := idx_some hv31
    obtain ⟨v32, hv32, hx20o⟩ := bind_some hx20o
    obtain ⟨hv32a, hv32b, hv32c, hv32d⟩ := idx_some hv32
    obtain ⟨v33, hv33, hx20o⟩ := bind_some hx20o
    refine VW.wds tau_ok (Sound.none.add 84 (s_l03Pair_ok hv33) rfl) try_mixed [some 75, some 76, some 77, some 78, some 79, some 80, some 81, some 82, some 83, some 84, some 85, some 86] [(3, .val (.ptr [i64 a0_0, dI a0_1])), (4, .val (.ptr [i64 a1_0, dI a1_1])), (7, .val (i64 (a0_1.length : Int))), (8, .ref 8 [] true (dM v12)), (9, .val (i64 s14)), (10, .val (i64 s20)), (86, .val (.bool (!(ieq v33 x27))))] 12 rfl (by kernel_rfl) (by rfl) ?_ ?_
    · simp [hv31a, hv31b, hv31c, hv31d, hv32a, hv32b, hv32c, hv32d] <;> simp [ieq, ilt, ile]
    refine VW.cond rfl (fun hb34 => ?_) (fun hb34 => ?_)
    rotate_left
    ·
      replace hb34 : ¬ (¬ v33 = x27) := by simpa [ieq, ilt, ile] using hb34
      rw [if_neg hb34] at hx20o
      refine VW.skip ?_
      refine hK25 _ ?_
      -- region 10
      refine VW.wr tau_ok Sound.none [some 65, some 66, some 10] [(3, .val (.ptr [i64 a0_0, dI a0_1])), (4, .val (.ptr [i64 a1_0, dI a1_1])), (7, .val (i64 (a0_1.length : Int))), (8, .ref 8 [] true (dM v12)), (9, .val (i64 s14)), (10, .val (i64 (w64 (s20 + 1))))] rfl ?_ ?_
      · simp <;> simp [ieq, ilt, ile]
      cases hx20o
      exact ⟨_, rfl, Fits.of rfl⟩
    replace hb34 : ¬ v33 = x27 := by simpa [ieq, ilt, ile] using hb34
    rw [if_pos hb34] at hx20o
    -- region 15
    refine VW.ws tau_ok Sound.none [some 6] [(6, .val (.bool false))] rfl ?_ ?_
    · simp <;> simp [ieq, ilt, ile]
    cases hx20o
    have hq := hx20b _ rfl
    subst hq
    dsimp only at hx14o
    cases hx14o
    have hq := hx14b _ rfl
    subst hq
    dsimp only at h
    cases h
    refine VW.ret ?_
    simp [Post, PostM, PostC, PostC2, Nx, Bk]
  refine VW.cond rfl (fun hb29 => ?_) (fun hb29 => ?_)
  rotate_left
  ·
    replace hb29 : ¬ (s14 = s20) := by simpa [ieq, ilt, ile] using hb29
    rw [if_neg hb29] at hx27
    refine VW.skip ?_
    cases hx27
    exact Fits.of rfl
  replace hb29 : s14 = s20 := by simpa [ieq, ilt, ile] using hb29
  rw [if_pos hb29] at hx27
  -- region 13
  obtain ⟨v30, hv30, hx27⟩ := bind_some hx27
  obtain ⟨hv30a, hv30b, hv30c, hv30d⟩ := idx_some hv30
  refine VW.wr tau_ok Sound.none [some 70, some 71, some 72, some 73, some 74, some 11] [(3, .val (.ptr [i64 a0_0, dI a0_1])), (4, .val (.ptr [i64 a1_0, dI a1_1])), (7, .val (i64 (a0_1.length : Int))), (8, .ref 8 [] true (dM v12)), (9, .val (i64 s14)), (10, .val (i64 s20)), (11, .val (i64 v30))] rfl ?_ ?_
  · simp [hv30a, hv30b, hv30c, hv30d] <;> simp [ieq, ilt, ile]
  cases hx27
  exact Fits.of rfl

theorem s_l08Is_ok {a0_0 : Int} {a0_1 : List Int} {a1 : List (List Int)} {r : Bool} (h : s_l08Is a0_0 a0_1 a1 = some r) :
    VCall Try.prog 233 [.agg [i64 a0_0, dI a0_1], dM a1] [.sc (.bool r)] := by
  unfold s_l08Is at h
  refine VCall.enter Try.call233 Try.func233 rfl 9 Try.ntmps233 (by simp) [.tmp 4] rfl ?_
  show VW _ _ _ (mk [(0, .val (.agg [i64 a0_0, dI a0_1])), (1, .val (dM a1))]) _
  -- region 0
  refine VW.ws tau_ok Sound.none [some 2, some 4] [(1, .val (dM a1)), (2, .val (.ptr [i64 a0_0, dI a0_1]))] rfl ?_ ?_
  · simp <;> simp [ieq, ilt, ile]
  -- region 1
  obtain ⟨v1, hv1, h⟩ := bind_some h
  refine VW.ws tau_ok (Sound.none.add 8 (s_l03Isometry_ok hv1) rfl) [some 5, some 6, some 7, some 8, some 4] [(4, .val (.bool v1))] rfl ?_ ?_
  · simp <;> simp [ieq, ilt, ile]
  cases h
  refine VW.ret ?_
  simp [Post, PostM, PostC, PostC2, Nx, Bk]

theorem s_IsOrthogonal_ok {a0_0 : Int} {a0_1 : List Int} {a1 : List (List Int)} {r : Bool × Int} (h : s_IsOrthogonal a0_0 a0_1 a1 = some r) :
    VCall Try.prog 168 [.agg [i64 a0_0, dI a0_1], dM a1] [.sc (.bool r.1), .sc (i64 r.2)] := by
  unfold s_IsOrthogonal at h
  refine VCall.enter Try.call168 Try.func168 rfl 15 Try.ntmps168 (by simp) [.tmp 4, .tmp 5] rfl ?_
  show VW _ _ _ (mk [(0, .val (.agg [i64 a0_0, dI a0_1])), (1, .val (dM a1))]) _
  -- region 0
  refine VW.ws tau_ok Sound.none [some 2, some 4, some 5] [(1, .val (dM a1)), (2, .val (.ptr [i64 a0_0, dI a0_1]))] rfl ?_ ?_
  · simp <;> simp [ieq, ilt, ile]
  refine VW.sqc fun K1 hK1 hCK1 => ?_
  -- region 1
  obtain ⟨v2, hv2, h⟩ := bind_some h
  refine VW.ws tau_ok (Sound.none.add 7 (s_l03Is_ok hv2) rfl) [some 6, some 7, some 8] [(1, .val (dM a1)), (2, .val (.ptr [i64 a0_0, dI a0_1])), (8, .val (.bool (!v2)))] rfl ?_ ?_
  · simp <;> simp [ieq, ilt, ile]
  refine VW.cond rfl (fun hb3 => ?_) (fun hb3 => ?_)
  ·
    replace hb3 : v2 = false := by simpa [ieq, ilt, ile] using hb3
    rw [if_pos hb3] at h
    -- region 2
    refine VW.ws tau_ok Sound.none [some 4, some 5] [(4, .val (.bool false)), (5, .val (i64 1))] rfl ?_ ?_
    · simp <;> simp [ieq, ilt, ile]
    cases h
    refine VW.ret ?_
    simp [Post, PostM, PostC, PostC2, Nx, Bk]
  replace hb3 : ¬ (v2 = false) := by simpa [ieq, ilt, ile] using hb3
  rw [if_neg hb3] at h
  refine VW.skip ?_
  refine hK1 _ ?_
  refine VW.sqc fun K4 hK4 hCK4 => ?_
  -- region 3
  obtain ⟨v5, hv5, h⟩ := bind_some h
  refine VW.ws tau_ok (Sound.none.add 10 (s_l03Disc_ok hv5) rfl) [some 9, some 10, some 11] [(1, .val (dM a1)), (2, .val (.ptr [i64 a0_0, dI a0_1])), (11, .val (.bool (ieq v5 0)))] rfl ?_ ?_
  · simp <;> simp [ieq, ilt, ile]
  refine VW.cond rfl (fun hb6 => ?_) (fun hb6 => ?_)
  ·
    replace hb6 : v5 = 0 := by simpa [ieq, ilt, ile] using hb6
    rw [if_pos hb6] at h
    -- region 4
    refine VW.ws tau_ok Sound.none [some 4, some 5] [(4, .val (.bool false)), (5, .val (i64 5))] rfl ?_ ?_
    · simp <;> simp [ieq, ilt, ile]
    cases h
    refine VW.ret ?_
    simp [Post, PostM, PostC, PostC2, Nx, Bk]
  replace hb6 : ¬ (v5 = 0) := by simpa [ieq, ilt, ile] using hb6
  rw [if_neg hb6] at h
  refine VW.skip ?_
  refine hK4 _ ?_
  -- region 5
  obtain ⟨v7, hv7, h⟩ := bind_some h
  refine VW.ws tau_ok (Sound.none.add 14 (s_l08Is_ok hv7) rfl) [some 12, some 13, some 14, some 4, some 5] [(4, .val (.bool v7)), (5, .val (i64 0))] rfl ?_ ?_
  · simp <;> simp [ieq, ilt, ile]
  cases h
  refine VW.ret ?_
  simp [Post, PostM, PostC, PostC2, Nx, Bk]

theorem s_l08Code_ok {a0_0 : Int} {a0_1 : List Int} {a1 : List (List Int)} {r : Int} (h : s_l08Code a0_0 a0_1 a1 = some r) :
    VCall Try.prog 89 [.agg [i64 a0_0, dI a0_1], dM a1] [.sc (i64 r)] := by
  unfold s_l08Code at h
  refine VCall.enter Try.call89 Try.func89 rfl 20 Try.ntmps89 (by simp) [.tmp 4] rfl ?_
  show VW _ _ _ (mk [(0, .val (.agg [i64 a0_0, dI a0_1])), (1, .val (dM a1))]) _
  -- region 0
  refine VW.ws tau_ok Sound.none [some 2, some 4] [(1, .val (dM a1)), (2, .val (.ptr [i64 a0_0, dI a0_1]))] rfl ?_ ?_
  · simp <;> simp [ieq, ilt, ile]
  -- region 1
  obtain ⟨v1, hv1, h⟩ := bind_some h
  refine VW.ws tau_ok (Sound.none.add 10 (s_IsOrthogonal_ok hv1) rfl) [some 8, some 9, some 10, some 7, some 11, some 12, some 5, some 6] [(5, .val (.bool v1.1)), (6, .val (i64 v1.2))] rfl ?_ ?_
  · simp <;> simp [ieq, ilt, ile]
  refine VW.sqc fun K2 hK2 hCK2 => ?_
  -- region 2
  obtain ⟨x4, hx4, h⟩ := bind_some h
  refine VW.cut [(6, .val (i64 v1.2)), (18, .val (.bool x4))] ?_ fun hy => ?_
  rotate_left
  · clear h
    by_cases hp3 : v1.2 = 0
    · rw [if_pos hp3] at hx4
      have hp3b : ieq v1.2 0 = true := by simpa [ieq, ilt, ile] using hp3
      have hp3s := hp3b
      try simp at hp3s
      cases hx4
      refine VW.ws tau_ok Sound.none [some 13, some 14, some 15, some 16, some 17, some 18] _ rfl ?_ hy
      simp [hp3b, hp3s] <;> simp [ieq, ilt, ile]
    · rw [if_neg hp3] at hx4
      have hp3b : ieq v1.2 0 = false := by simpa [ieq, ilt, ile] using hp3
      have hp3s := hp3b
      try simp at hp3s
      cases hx4
      refine VW.ws tau_ok Sound.none [some 13, some 14, some 15, some 16, some 17, some 18] _ rfl ?_ hy
      simp [hp3b, hp3s] <;> simp [ieq, ilt, ile]
  obtain ⟨x5, hx5, h⟩ := bind_some h
  refine VW.tlE [(6, .val (i64 x5))] (hCK2) ?_ ?_
  · clear hx5
    refine hK2 _ ?_
    -- region 4
    refine VW.ws tau_ok Sound.none [some 19, some 4] [(4, .val (i64 x5))] rfl ?_ ?_
    · simp <;> simp [ieq, ilt, ile]
    cases h
    refine VW.ret ?_
    simp [Post, PostM, PostC, PostC2, Nx, Bk]
  refine VW.cond rfl (fun hb7 => ?_) (fun hb7 => ?_)
  rotate_left
  ·
    replace hb7 : ¬ (x4 = true) := by simpa [ieq, ilt, ile] using hb7
    rw [if_neg hb7] at hx5
    refine VW.skip ?_
    cases hx5
    exact Fits.of rfl
  replace hb7 : x4 = true := by simpa [ieq, ilt, ile] using hb7
  rw [if_pos hb7] at hx5
  -- region 3
  refine VW.wr tau_ok Sound.none [some 6] [(6, .val (i64 2))] rfl ?_ ?_
  · simp <;> simp [ieq, ilt, ile]
  cases hx5
  exact Fits.of rfl

theorem s_l01Same_ok {a0 : List Int} {a1 : List Int} {r : Bool} (h : s_l01Same a0 a1 = some r) :
    VCall Try.prog 96 [dI a0, dI a1] [.sc (.bool r)] := by
  unfold s_l01Same at h
  refine VCall.enter Try.call96 Try.func96 rfl 26 Try.ntmps96 (by simp) [.tmp 4] rfl ?_
  show VW _ _ _ (mk [(0, .val (dI a0)), (1, .val (dI a1))]) _
  -- region 0
  refine VW.ws tau_ok Sound.none [some 4] [(0, .val (dI a0)), (1, .val (dI a1))] rfl ?_ ?_
  · simp <;> simp [ieq, ilt, ile]
  refine VW.sqc fun K1 hK1 hCK1 => ?_
  -- region 1
  refine VW.ws tau_ok Sound.none [some 6, some 7, some 8, some 9, some 10] [(0, .val (dI a0)), (1, .val (dI a1)), (10, .val (.bool (!(ieq (a0.length : Int) (a1.length : Int)))))] rfl ?_ ?_
  · simp <;> simp [ieq, ilt, ile]
  refine VW.cond rfl (fun hb2 => ?_) (fun hb2 => ?_)
  ·
    replace hb2 : ¬ (a0.length : Int) = (a1.length : Int) := by simpa [ieq, ilt, ile] using hb2
    rw [if_pos hb2] at h
    -- region 2
    refine VW.ws tau_ok Sound.none [some 4] [(4, .val (.bool false))] rfl ?_ ?_
    · simp <;> simp [ieq, ilt, ile]
    cases h
    refine VW.ret ?_
    simp [Post, PostM, PostC, PostC2, Nx, Bk]
  replace hb2 : ¬ (¬ (a0.length : Int) = (a1.length : Int)) := by simpa [ieq, ilt, ile] using hb2
  rw [if_neg hb2] at h
  refine VW.skip ?_
  refine hK1 _ ?_
  refine VW.sqc fun K3 hK3 hCK3 => ?_
  -- region 3
  refine VW.ws tau_ok Sound.none [some 5] [(0, .val (dI a0)), (1, .val (dI a1)), (5, .val (i64 0))] rfl ?_ ?_
  · simp <;> simp [ieq, ilt, ile]
  obtain ⟨x4, hx4, h⟩ := bind_some h
  refine VW.tlO (fun y6 => []) x4 (hCK3) ?_ ?_
  · clear hx4
    rintro y6 rfl
    dsimp only at h
    refine hK3 _ ?_
    -- region 8
    refine VW.ws tau_ok Sound.none [some 4] [(4, .val (.bool true))] rfl ?_ ?_
    · simp <;> simp [ieq, ilt, ile]
    cases h
    refine VW.ret ?_
    simp [Post, PostM, PostC, PostC2, Nx, Bk]
  refine VW.block ?_
  refine VW.loopF (s_l01Same_L0 a0 a1) (fun s4 => [(0, .val (dI a0)), (1, .val (dI a1)), (5, .val (i64 s4))]) hx4 (Fits.of rfl) ?_
  clear hx4
  intro s4 ox4 hx4o hx4b
  unfold s_l01Same_L0 at hx4o
  refine VW.sqc fun K7 hK7 hCK7 => ?_
  -- region 4
  refine VW.ws tau_ok Sound.none [some 11, some 12, some 13, some 14] [(0, .val (dI a0)), (1, .val (dI a1)), (5, .val (i64 s4)), (14, .val (.bool (ilt s4 (a0.length : Int))))] rfl ?_ ?_
  · simp <;> simp [ieq, ilt, ile]
  refine VW.cond rfl (fun hb8 => ?_) (fun hb8 => ?_)
  rotate_left
  ·
    replace hb8 : ¬ (s4 < (a0.length : Int)) := by simpa [ieq, ilt, ile] using hb8
    rw [if_neg hb8] at hx4o
    refine VW.exit ?_
    cases hx4o
    have hq := hx4b _ rfl
    subst hq
    exact ⟨_, rfl, Fits.of rfl⟩
  replace hb8 : s4 < (a0.length : Int) := by simpa [ieq, ilt, ile] using hb8
  rw [if_pos hb8] at hx4o
  refine VW.skip ?_
  refine hK7 _ ?_
  refine VW.sqc fun K9 hK9 hCK9 => ?_
  refine VW.block ?_
  -- region 6
  obtain ⟨v10, hv10, hx4o⟩ := bind_some hx4o
  obtain ⟨hv10a, hv10b, hv10c, hv10d⟩ := idx_some hv10
  obtain ⟨v11, hv11, hx4o⟩ := bind_some hx4o
  obtain ⟨hv11a, hv11b, hv11c, hv11d⟩ := idx_some hv11
  refine VW.wds tau_ok Sound.none try_mixed [some 17, some 18, some 19, some 20, some 21, some 22, some 23, some 24, some 25] [(0, .val (dI a0)), (1, .val (dI a1)), (5, .val (i64 s4)), (25, .val (.bool (!(ieq v10 v11))))] 9 rfl (by kernel_rfl) (by rfl) ?_ ?_
  · simp [hv10a, hv10b, hv10c, hv10d, hv11a, hv11b, hv11c, hv11d] <;> simp [ieq, ilt, ile]
  refine VW.cond rfl (fun hb12 => ?_) (fun hb12 => ?_)
  rotate_left
  ·
    replace hb12 : ¬ (¬ v10 = v11) := by simpa [ieq, ilt, ile] using hb12
    rw [if_neg hb12] at hx4o
    refine VW.skip ?_
    refine hK9 _ ?_
    -- region 5
    refine VW.wr tau_ok Sound.none [some 15, some 16, some 5] [(0, .val (dI a0)), (1, .val (dI a1)), (5, .val (i64 (w64 (s4 + 1))))] rfl ?_ ?_
    · simp <;> simp [ieq, ilt, ile]
    cases hx4o
    exact ⟨_, rfl, Fits.of rfl⟩
  replace hb12 : ¬ v10 = v11 := by simpa [ieq, ilt, ile] using hb12
  rw [if_pos hb12] at hx4o
  -- region 7
  refine VW.ws tau_ok Sound.none [some 4] [(4, .val (.bool false))] rfl ?_ ?_
  · simp <;> simp [ieq, ilt, ile]
  cases hx4o
  have hq := hx4b _ rfl
  subst hq
  dsimp only at h
  cases h
  refine VW.ret ?_
  simp [Post, PostM, PostC, PostC2, Nx, Bk]

theorem s_l07Reflect_ok {a0_0 : Int} {a0_1 : List Int} {a1 : List Int} {a2 : List Int} {r : List Int} (h : s_l07Reflect a0_0 a0_1 a1 a2 = some r) :
    VCall Try.prog 234 [.agg [i64 a0_0, dI a0_1], dI a1, dI a2] [.own true (dI r)] := by
  unfold s_l07Reflect at h
  refine VCall.enter Try.call234 Try.func234 rfl 39 Try.ntmps234 (by simp) [.tmp 6] rfl ?_
  show VW _ _ _ (mk [(0, .val (.agg [i64 a0_0, dI a0_1])), (1, .val (dI a1)), (2, .val (dI a2))]) _
  -- region 0
  refine VW.ws tau_ok Sound.none [some 3, some 6] [(1, .val (dI a1)), (2, .val (dI a2)), (3, .val (.ptr [i64 a0_0, dI a0_1]))] rfl ?_ ?_
  · simp <;> simp [ieq, ilt, ile]
  -- region 1
  obtain ⟨v1, hv1, h⟩ := bind_some h
  obtain ⟨hc2, h⟩ := chk_some h
  have hc2s := hc2
  try simp at hc2s
  obtain ⟨v3, hv3, h⟩ := bind_some h
  obtain ⟨v4, hv4, h⟩ := bind_some h
  obtain ⟨hc5, h⟩ := chk_some h
  have hc5s := hc5
  try simp at hc5s
  refine VW.wds tau_ok (((Sound.none.add 11 (s_l03Pair_ok hv1) rfl).add 21 (s_l03Pair_ok hv3) rfl).add 22 (s_l01Inv_ok hv4) rfl) try_mixed [some 8, some 9, some 10, some 11, some 12, some 13, some 14, some 15, some 16, some 17, some 18, some 19, some 20, some 21, some 22, some 23, some 24, some 25, some 26, some 7] [(1, .val (dI a1)), (2, .val (dI a2)), (3, .val (.ptr [i64 a0_0, dI a0_1])), (7, .val (i64 ((w64 (((w64 (2 * v1)).tmod a0_0) * v4)).tmod a0_0)))] 20 rfl (by kernel_rfl) (by rfl) ?_ ?_
  · simp [hc2, hc2s, hc5, hc5s] <;> simp [ieq, ilt, ile]
  -- region 2
  obtain ⟨hc6, h⟩ := chk_some h
  have hc6s := hc6
  try simp at hc6s
  obtain ⟨v7, hv7, h⟩ := bind_some h
  refine VW.wds tau_ok (Sound.none.add 38 (s_l02Plus_ok hv7) rfl) try_mixed [some 27, some 28, some 29, some 30, some 31, some 32, some 33, some 34, some 35, some 36, some 37, some 38, some 6] [(6, .ref 6 [] true (dI v7))] 12 rfl (by kernel_rfl) (by rfl) ?_ ?_
  · simp [hc6, hc6s] <;> simp [ieq, ilt, ile]
  cases h
  refine VW.ret ?_
  simp [Post, PostM, PostC, PostC2, Nx, Bk]

theorem s_l08Reflection_ok {a0_0 : Int} {a0_1 : List Int} {a1 : List Int} {r : List (List Int)} (h : s_l08Reflection a0_0 a0_1 a1 = some r) :
    VCall Try.prog 173 [.agg [i64 a0_0, dI a0_1], dI a1] [.own true (dM r)] := by
  unfold s_l08Reflection at h
  refine VCall.enter Try.call173 Try.func173 rfl 32 Try.ntmps173 (by simp) [.tmp 4] rfl ?_
  show VW _ _ _ (mk [(0, .val (.agg [i64 a0_0, dI a0_1])), (1, .val (dI a1))]) _
  -- region 0
  refine VW.ws tau_ok Sound.none [some 2, some 4] [(1, .val (dI a1)), (2, .val (.ptr [i64 a0_0, dI a0_1]))] rfl ?_ ?_
  · simp <;> simp [ieq, ilt, ile]
  -- region 1
  refine VW.ws tau_ok Sound.none [some 8, some 5] [(1, .val (dI a1)), (2, .val (.ptr [i64 a0_0, dI a0_1])), (5, .ref 5 [] true (dM []))] rfl ?_ ?_
  · simp <;> simp [ieq, ilt, ile]
  refine VW.sqc fun K1 hK1 hCK1 => ?_
  -- region 2
  refine VW.ws tau_ok Sound.none [some 6] [(1, .val (dI a1)), (2, .val (.ptr [i64 a0_0, dI a0_1])), (5, .ref 5 [] true (dM [])), (6, .val (i64 0))] rfl ?_ ?_
  · simp <;> simp [ieq, ilt, ile]
  obtain ⟨x2, hx2, h⟩ := bind_some h
  refine VW.tlE [(5, .ref 5 [] true (dM x2))] (hCK1) ?_ ?_
  · clear hx2
    refine hK1 _ ?_
    -- region 8
    obtain ⟨v12, hv12, h⟩ := bind_some h
    refine VW.ws tau_ok (Sound.none.add 31 (s_l02Turn_ok hv12) rfl) [some 30, some 31, some 4] [(4, .ref 4 [] true (dM v12))] rfl ?_ ?_
    · simp <;> simp [ieq, ilt, ile]
    cases h
    refine VW.ret ?_
    simp [Post, PostM, PostC, PostC2, Nx, Bk]
  refine VW.block ?_
  refine VW.loopF (s_l08Reflection_L0 a0_0 a0_1 a1) (fun s2 => [(1, .val (dI a1)), (2, .val (.ptr [i64 a0_0, dI a0_1])), (5, .ref 5 [] true (dM s2.1)), (6, .val (i64 s2.2))]) hx2 (Fits.of rfl) ?_
  clear hx2
  intro s2 ox2 hx2o hx2b
  unfold s_l08Reflection_L0 at hx2o
  refine VW.sqc fun K4 hK4 hCK4 => ?_
  -- region 3
  refine VW.ws tau_ok Sound.none [some 9, some 10, some 11, some 12, some 13] [(1, .val (dI a1)), (2, .val (.ptr [i64 a0_0, dI a0_1])), (5, .ref 5 [] true (dM s2.1)), (6, .val (i64 s2.2)), (13, .val (.bool (ilt s2.2 (a0_1.length : Int))))] rfl ?_ ?_
  · simp <;> simp [ieq, ilt, ile]
  refine VW.cond rfl (fun hb5 => ?_) (fun hb5 => ?_)
  rotate_left
  ·
    replace hb5 : ¬ (s2.2 < (a0_1.length : Int)) := by simpa [ieq, ilt, ile] using hb5
    rw [if_neg hb5] at hx2o
    refine VW.exit ?_
    cases hx2o
    have hq := hx2b _ rfl
    subst hq
    exact Fits.of rfl
  replace hb5 : s2.2 < (a0_1.length : Int) := by simpa [ieq, ilt, ile] using hb5
  rw [if_pos hb5] at hx2o
  refine VW.skip ?_
  refine hK4 _ ?_
  refine VW.sqc fun K6 hK6 hCK6 => ?_
  refine VW.block ?_
  -- region 5
  obtain ⟨hc7, hx2o⟩ := chk_some hx2o
  have hc7s := hc7
  try simp at hc7s
  refine VW.ws tau_ok Sound.none [some 16, some 17, some 18, some 19, some 7] [(1, .val (dI a1)), (2, .val (.ptr [i64 a0_0, dI a0_1])), (5, .ref 5 [] true (dM s2.1)), (6, .val (i64 s2.2)), (7, .ref 7 [] true (dI (List.replicate (a0_1.length : Int).toNat 0)))] rfl ?_ ?_
  · simp [hc7, hc7s] <;> simp [ieq, ilt, ile]
  obtain ⟨l8, hl8, hx2o⟩ := bind_some hx2o
  rw [Option.some.inj hl8]
  -- region 6
  obtain ⟨v9, hv9, hx2o⟩ := bind_some hx2o
  obtain ⟨hv9a, hv9b, hv9c, hv9d⟩ := idx_some hv9
  refine VW.ws tau_ok Sound.none [some 20, some 21, some 22, none] [(1, .val (dI a1)), (2, .val (.ptr [i64 a0_0, dI a0_1])), (5, .ref 5 [] true (dM s2.1)), (6, .val (i64 s2.2)), (7, .ref 7 [] true (dI (l8.set s2.2.toNat 1)))] rfl ?_ ?_
  · simp [hv9a, hv9b, hv9c, hv9d] <;> simp [ieq, ilt, ile]
  -- region 7
  obtain ⟨v10, hv10, hx2o⟩ := bind_some hx2o
  obtain ⟨hc11, hx2o⟩ := chk_some hx2o
  have hc11s := hc11
  try simp at hc11s
  refine VW.wr tau_ok (Sound.none.add 27 (s_l07Reflect_ok hv10) rfl) [some 23, some 24, some 25, some 26, some 27, some 28, some 29, some 5] [(1, .val (dI a1)), (2, .val (.ptr [i64 a0_0, dI a0_1])), (5, .ref 5 [] true (dM (s2.1 ++ [v10]))), (6, .val (i64 s2.2))] rfl ?_ ?_
  · simp [hc11, hc11s] <;> simp [ieq, ilt, ile]
  refine hK6 _ ?_
  -- region 4
  refine VW.wr tau_ok Sound.none [some 14, some 15, some 6] [(1, .val (dI a1)), (2, .val (.ptr [i64 a0_0, dI a0_1])), (5, .ref 5 [] true (dM (s2.1 ++ [v10]))), (6, .val (i64 (w64 (s2.2 + 1))))] rfl ?_ ?_
  · simp <;> simp [ieq, ilt, ile]
  cases hx2o
  exact ⟨_, rfl, Fits.of rfl⟩

theorem s_l02Times_ok {a0 : Int} {a1 : List (List Int)} {a2 : List (List Int)} {r : List (List Int)} (h : s_l02Times a0 a1 a2 = some r) :
    VCall Try.prog 172 [i64 a0, dM a1, dM a2] [.own true (dM r)] := by
  unfold s_l02Times at h
  refine VCall.enter Try.call172 Try.func172 rfl 63 Try.ntmps172 (by simp) [.tmp 6] rfl ?_
  show VW _ _ _ (mk [(0, .val (i64 a0)), (1, .val (dM a1)), (2, .val (dM a2))]) _
  -- region 0
  refine VW.ws tau_ok Sound.none [some 6] [(0, .val (i64 a0)), (1, .val (dM a1)), (2, .val (dM a2))] rfl ?_ ?_
  · simp <;> simp [ieq, ilt, ile]
  -- region 1
  refine VW.ws tau_ok Sound.none [some 13, some 7] [(0, .val (i64 a0)), (1, .val (dM a1)), (2, .val (dM a2)), (7, .ref 7 [] true (dM []))] rfl ?_ ?_
  · simp <;> simp [ieq, ilt, ile]
  refine VW.sqc fun K1 hK1 hCK1 => ?_
  -- region 2
  refine VW.ws tau_ok Sound.none [some 8] [(0, .val (i64 a0)), (1, .val (dM a1)), (2, .val (dM a2)), (7, .ref 7 [] true (dM [])), (8, .val (i64 0))] rfl ?_ ?_
  · simp <;> simp [ieq, ilt, ile]
  obtain ⟨x2, hx2, h⟩ := bind_some h
  refine VW.tlE [(7, .ref 7 [] true (dM x2))] (hCK1) ?_ ?_
  · clear hx2
    refine hK1 _ ?_
    -- region 16
    refine VW.ws tau_ok Sound.none [some 62, some 6] [(6, .ref 6 [] true (dM x2))] rfl ?_ ?_
    · simp <;> simp [ieq, ilt, ile]
    cases h
    refine VW.ret ?_
    simp [Post, PostM, PostC, PostC2, Nx, Bk]
  refine VW.block ?_
  refine VW.loopF (s_l02Times_L0 a0 a1 a2) (fun s2 => [(0, .val (i64 a0)), (1, .val (dM a1)), (2, .val (dM a2)), (7, .ref 7 [] true (dM s2.1)), (8, .val (i64 s2.2))]) hx2 (Fits.of rfl) ?_
  clear hx2
  intro s2 ox2 hx2o hx2b
  unfold s_l02Times_L0 at hx2o
  refine VW.sqc fun K4 hK4 hCK4 => ?_
  -- region 3
  refine VW.ws tau_ok Sound.none [some 14, some 15, some 16, some 17] [(0, .val (i64 a0)), (1, .val (dM a1)), (2, .val (dM a2)), (7, .ref 7 [] true (dM s2.1)), (8, .val (i64 s2.2)), (17, .val (.bool (ilt s2.2 (a1.length : Int))))] rfl ?_ ?_
  · simp <;> simp [ieq, ilt, ile]
  refine VW.cond rfl (fun hb5 => ?_) (fun hb5 => ?_)
  rotate_left
  ·
    replace hb5 : ¬ (s2.2 < (a1.length : Int)) := by simpa [ieq, ilt, ile] using hb5
    rw [if_neg hb5] at hx2o
    refine VW.exit ?_
    cases hx2o
    have hq := hx2b _ rfl
    subst hq
    exact Fits.of rfl
  replace hb5 : s2.2 < (a1.length : Int) := by simpa [ieq, ilt, ile] using hb5
  rw [if_pos hb5] at hx2o
  refine VW.skip ?_
  refine hK4 _ ?_
  refine VW.sqc fun K6 hK6 hCK6 => ?_
  refine VW.block ?_
  -- region 5
  refine VW.ws tau_ok Sound.none [some 20, some 9] [(0, .val (i64 a0)), (1, .val (dM a1)), (2, .val (dM a2)), (7, .ref 7 [] true (dM s2.1)), (8, .val (i64 s2.2)), (9, .ref 9 [] true (dI []))] rfl ?_ ?_
  · simp <;> simp [ieq, ilt, ile]
  refine VW.sqc fun K7 hK7 hCK7 => ?_
  -- region 6
  refine VW.ws tau_ok Sound.none [some 10] [(0, .val (i64 a0)), (1, .val (dM a1)), (2, .val (dM a2)), (7, .ref 7 [] true (dM s2.1)), (8, .val (i64 s2.2)), (9, .ref 9 [] true (dI [])), (10, .val (i64 0))] rfl ?_ ?_
  · simp <;> simp [ieq, ilt, ile]
  obtain ⟨x8, hx8, hx2o⟩ := bind_some hx2o
  refine VW.tlE [(0, .val (i64 a0)), (1, .val (dM a1)), (2, .val (dM a2)), (7, .ref 7 [] true (dM s2.1)), (8, .val (i64 s2.2)), (9, .ref 9 [] true (dI x8))] (hCK7) ?_ ?_
  · clear hx8
    refine hK7 _ ?_
    -- region 15
    obtain ⟨hc26, hx2o⟩ := chk_some hx2o
    have hc26s := hc26
    try simp at hc26s
    refine VW.wr tau_ok Sound.none [some 58, some 59, some 60, some 61, some 7] [(0, .val (i64 a0)), (1, .val (dM a1)), (2, .val (dM a2)), (7, .ref 7 [] true (dM (s2.1 ++ [x8]))), (8, .val (i64 s2.2))] rfl ?_ ?_
    · simp [hc26, hc26s] <;> simp [ieq, ilt, ile]
    refine hK6 _ ?_
    -- region 4
    refine VW.wr tau_ok Sound.none [some 18, some 19, some 8] [(0, .val (i64 a0)), (1, .val (dM a1)), (2, .val (dM a2)), (7, .ref 7 [] true (dM (s2.1 ++ [x8]))), (8, .val (i64 (w64 (s2.2 + 1))))] rfl ?_ ?_
    · simp <;> simp [ieq, ilt, ile]
    cases hx2o
    exact ⟨_, rfl, Fits.of rfl⟩
  refine VW.block ?_
  refine VW.loopF (s_l02Times_L1 a0 a1 a2 s2) (fun s8 => [(0, .val (i64 a0)), (1, .val (dM a1)), (2, .val (dM a2)), (7, .ref 7 [] true (dM s2.1)), (8, .val (i64 s2.2)), (9, .ref 9 [] true (dI s8.1)), (10, .val (i64 s8.2))]) hx8 (Fits.of rfl) ?_
  clear hx8
  intro s8 ox8 hx8o hx8b
  unfold s_l02Times_L1 at hx8o
  refine VW.sqc fun K10 hK10 hCK10 => ?_
  -- region 7
  obtain ⟨v11, hv11, hx8o⟩ := bind_some hx8o
  obtain ⟨hv11a, hv11b, hv11c, hv11d⟩ := idx_some hv11
  replace hv11b : 0 < a2.length := hv11b
  replace hv11c : a2[0]? = some v11 := hv11c
  replace hv11d : ∀ h, a2[0]'h = v11 := hv11d
  refine VW.ws tau_ok Sound.none [some 21, some 22, some 23, some 24, some 25, some 26] [(0, .val (i64 a0)), (1, .val (dM a1)), (2, .val (dM a2)), (7, .ref 7 [] true (dM s2.1)), (8, .val (i64 s2.2)), (9, .ref 9 [] true (dI s8.1)), (10, .val (i64 s8.2)), (26, .val (.bool (ilt s8.2 (v11.length : Int))))] rfl ?_ ?_
  · simp [hv11a, hv11b, hv11c, hv11d] <;> simp [ieq, ilt, ile]
  refine VW.cond rfl (fun hb12 => ?_) (fun hb12 => ?_)
  rotate_left
  ·
    replace hb12 : ¬ (s8.2 < (v11.length : Int)) := by simpa [ieq, ilt, ile] using hb12
    rw [if_neg hb12] at hx8o
    refine VW.exit ?_
    cases hx8o
    have hq := hx8b _ rfl
    subst hq
    exact Fits.of rfl
  replace hb12 : s8.2 < (v11.length : Int) := by simpa [ieq, ilt, ile] using hb12
  rw [if_pos hb12] at hx8o
  refine VW.skip ?_
  refine hK10 _ ?_
  refine VW.sqc fun K13 hK13 hCK13 => ?_
  refine VW.block ?_
  -- region 9
  refine VW.ws tau_ok Sound.none [some 11] [(0, .val (i64 a0)), (1, .val (dM a1)), (2, .val (dM a2)), (7, .ref 7 [] true (dM s2.1)), (8, .val (i64 s2.2)), (9, .ref 9 [] true (dI s8.1)), (10, .val (i64 s8.2)), (11, .val (i64 0))] rfl ?_ ?_
  · simp <;> simp [ieq, ilt, ile]
  refine VW.sqc fun K14 hK14 hCK14 => ?_
  -- region 10
  refine VW.ws tau_ok Sound.none [some 12] [(0, .val (i64 a0)), (1, .val (dM a1)), (2, .val (dM a2)), (7, .ref 7 [] true (dM s2.1)), (8, .val (i64 s2.2)), (9, .ref 9 [] true (dI s8.1)), (10, .val (i64 s8.2)), (11, .val (i64 0)), (12, .val (i64 0))] rfl ?_ ?_
  · simp <;> simp [ieq, ilt, ile]
  obtain ⟨x15, hx15, hx8o⟩ := bind_some hx8o
  refine VW.tlE [(0, .val (i64 a0)), (1, .val (dM a1)), (2, .val (dM a2)), (7, .ref 7 [] true (dM s2.1)), (8, .val (i64 s2.2)), (9, .ref 9 [] true (dI s8.1)), (10, .val (i64 s8.2)), (11, .val (i64 x15))] (hCK14) ?_ ?_
  · clear hx15
    refine hK14 _ ?_
    -- region 14
    obtain ⟨hc25, hx8o⟩ := chk_some hx8o
    have hc25s := hc25
    try simp at hc25s
    refine VW.wr tau_ok Sound.none [some 54, some 55, some 56, some 57, some 9] [(0, .val (i64 a0)), (1, .val (dM a1)), (2, .val (dM a2)), (7, .ref 7 [] true (dM s2.1)), (8, .val (i64 s2.2)), (9, .ref 9 [] true (dI (s8.1 ++ [x15]))), (10, .val (i64 s8.2))] rfl ?_ ?_
    · simp [hc25, hc25s] <;> simp [ieq, ilt, ile]
    refine hK13 _ ?_
    -- region 8
    refine VW.wr tau_ok Sound.none [some 27, some 28, some 10] [(0, .val (i64 a0)), (1, .val (dM a1)), (2, .val (dM a2)), (7, .ref 7 [] true (dM s2.1)), (8, .val (i64 s2.2)), (9, .ref 9 [] true (dI (s8.1 ++ [x15]))), (10, .val (i64 (w64 (s8.2 + 1))))] rfl ?_ ?_
    · simp <;> simp [ieq, ilt, ile]
    cases hx8o
    exact ⟨_, rfl, Fits.of rfl⟩
  refine VW.block ?_
  refine VW.loopF (s_l02Times_L2 a0 a1 a2 s2 s8) (fun s15 => [(0, .val (i64 a0)), (1, .val (dM a1)), (2, .val (dM a2)), (7, .ref 7 [] true (dM s2.1)), (8, .val (i64 s2.2)), (9, .ref 9 [] true (dI s8.1)), (10, .val (i64 s8.2)), (11, .val (i64 s15.1)), (12, .val (i64 s15.2))]) hx15 (Fits.of rfl) ?_
  clear hx15
  intro s15 ox15 hx15o hx15b
  unfold s_l02Times_L2 at hx15o
  refine VW.sqc fun K17 hK17 hCK17 => ?_
  -- region 11
  refine VW.ws tau_ok Sound.none [some 29, some 30, some 31, some 32] [(0, .val (i64 a0)), (1, .val (dM a1)), (2, .val (dM a2)), (7, .ref 7 [] true (dM s2.1)), (8, .val (i64 s2.2)), (9, .ref 9 [] true (dI s8.1)), (10, .val (i64 s8.2)), (11, .val (i64 s15.1)), (12, .val (i64 s15.2)), (32, .val (.bool (ilt s15.2 (a2.length : Int))))] rfl ?_ ?_
  · simp <;> simp [ieq, ilt, ile]
  refine VW.cond rfl (fun hb18 => ?_) (fun hb18 => ?_)
  rotate_left
  ·
    replace hb18 : ¬ (s15.2 < (a2.length : Int)) := by simpa [ieq, ilt, ile] using hb18
    rw [if_neg hb18] at hx15o
    refine VW.exit ?_
    cases hx15o
    have hq := hx15b _ rfl
    subst hq
    exact Fits.of rfl
  replace hb18 : s15.2 < (a2.length : Int) := by simpa [ieq, ilt, ile] using hb18
  rw [if_pos hb18] at hx15o
  refine VW.skip ?_
  refine hK17 _ ?_
  refine VW.sqc fun K19 hK19 hCK19 => ?_
  refine VW.block ?_
  -- region 13
  obtain ⟨v20, hv20, hx15o⟩ := bind_some hx15o
  obtain ⟨hv20a, hv20b, hv20c, hv20d⟩ := idx_some hv20
  obtain ⟨v21, hv21, hx15o⟩ := bind_some hx15o
  obtain ⟨hv21a, hv21b, hv21c, hv21d⟩ := idx_some hv21
  obtain ⟨v22, hv22, hx15o⟩ := bind_some hx15o
  obtain ⟨hv22a, hv22b, hv22c, hv22d⟩ := idx_some hv22
  obtain ⟨v23, hv23, hx15o⟩ := bind_some hx15o
  obtain ⟨hv23a, hv23b, hv23c, hv23d⟩ := idx_some hv23
  obtain ⟨hc24, hx15o⟩ := chk_some hx15o
  have hc24s := hc24
  try simp at hc24s
  refine VW.wdr tau_ok Sound.none try_mixed [some 35, some 36, some 37, some 38, some 39, some 40, some 41, some 42, some 43, some 44, some 45, some 46, some 47, some 48, some 49, some 50, some 51, some 52, some 53, some 11] [(0, .val (i64 a0)), (1, .val (dM a1)), (2, .val (dM a2)), (7, .ref 7 [] true (dM s2.1)), (8, .val (i64 s2.2)), (9, .ref 9 [] true (dI s8.1)), (10, .val (i64 s8.2)), (11, .val (i64 ((w64 (s15.1 + (w64 (v21 * v23)))).tmod a0))), (12, .val (i64 s15.2))] 20 rfl (by kernel_rfl) (by rfl) ?_ ?_
  · simp [hv20a, hv20b, hv20c, hv20d, hv21a, hv21b, hv21c, hv21d, hv22a, hv22b, hv22c, hv22d, hv23a, hv23b, hv23c, hv23d, hc24, hc24s] <;> simp [ieq, ilt, ile]
  refine hK19 _ ?_
  -- region 12
  refine VW.wr tau_ok Sound.none [some 33, some 34, some 12] [(0, .val (i64 a0)), (1, .val (dM a1)), (2, .val (dM a2)), (7, .ref 7 [] true (dM s2.1)), (8, .val (i64 s2.2)), (9, .ref 9 [] true (dI s8.1)), (10, .val (i64 s8.2)), (11, .val (i64 ((w64 (s15.1 + (w64 (v21 * v23)))).tmod a0))), (12, .val (i64 (w64 (s15.2 + 1))))] rfl ?_ ?_
  · simp <;> simp [ieq, ilt, ile]
  cases hx15o
  exact ⟨_, rfl, Fits.of rfl⟩

theorem s_l08Decompose_ok {a0_0 : Int} {a0_1 : List Int} {a1 : List (List Int)} {r : List (List Int)} (h : s_l08Decompose a0_0 a0_1 a1 = some r) :
    VCall Try.prog 90 [.agg [i64 a0_0, dI a0_1], dM a1] [.own false (dM r)] := by
  unfold s_l08Decompose at h
  refine VCall.enter Try.call90 Try.func90 rfl 82 Try.ntmps90 (by simp) [.tmp 4] rfl ?_
  show VW _ _ _ (mk [(0, .val (.agg [i64 a0_0, dI a0_1])), (1, .val (dM a1))]) _
  -- region 0
  refine VW.ws tau_ok Sound.none [some 2, some 4] [(1, .val (dM a1)), (2, .val (.ptr [i64 a0_0, dI a0_1]))] rfl ?_ ?_
  · simp <;> simp [ieq, ilt, ile]
  -- region 1
  refine VW.ws tau_ok Sound.none [some 11, some 5] [(1, .val (dM a1)), (2, .val (.ptr [i64 a0_0, dI a0_1])), (5, .ref 5 [] true (dM []))] rfl ?_ ?_
  · simp <;> simp [ieq, ilt, ile]
  refine VW.sqc fun K1 hK1 hCK1 => ?_
  -- region 2
  refine VW.ws tau_ok Sound.none [some 6] [(1, .val (dM a1)), (2, .val (.ptr [i64 a0_0, dI a0_1])), (5, .ref 5 [] true (dM [])), (6, .val (i64 0))] rfl ?_ ?_
  · simp <;> simp [ieq, ilt, ile]
  obtain ⟨x2, hx2, h⟩ := bind_some h
  refine VW.tlE [(5, .ref 5 [] false (dM x2))] (hCK1) ?_ ?_
  · clear hx2
    refine hK1 _ ?_
    -- region 16
    refine VW.ws tau_ok Sound.none [some 81, some 4] [(4, .ref 4 [] false (dM x2))] rfl ?_ ?_
    · simp <;> simp [ieq, ilt, ile]
    cases h
    refine VW.ret ?_
    simp [Post, PostM, PostC, PostC2, Nx, Bk]
  refine VW.block ?_
  refine VW.loopF (s_l08Decompose_L0 a0_0 a0_1) (fun s2 => [(1, .val (dM s2.1)), (2, .val (.ptr [i64 a0_0, dI a0_1])), (5, .ref 5 [] false (dM s2.2.1)), (6, .val (i64 s2.2.2))]) hx2 (Fits.weak (s := 5) rfl (by simp) (Fits.of rfl)) ?_
  clear hx2
  intro s2 ox2 hx2o hx2b
  unfold s_l08Decompose_L0 at hx2o
  refine VW.sqc fun K4 hK4 hCK4 => ?_
  -- region 3
  refine VW.ws tau_ok Sound.none [some 12, some 13, some 14, some 15, some 16] [(1, .val (dM s2.1)), (2, .val (.ptr [i64 a0_0, dI a0_1])), (5, .ref 5 [] false (dM s2.2.1)), (6, .val (i64 s2.2.2)), (16, .val (.bool (ilt s2.2.2 (a0_1.length : Int))))] rfl ?_ ?_
  · simp <;> simp [ieq, ilt, ile]
  refine VW.cond rfl (fun hb5 => ?_) (fun hb5 => ?_)
  rotate_left
  ·
    replace hb5 : ¬ (s2.2.2 < (a0_1.length : Int)) := by simpa [ieq, ilt, ile] using hb5
    rw [if_neg hb5] at hx2o
    refine VW.exit ?_
    cases hx2o
    have hq := hx2b _ rfl
    subst hq
    exact Fits.of rfl
  replace hb5 : s2.2.2 < (a0_1.length : Int) := by simpa [ieq, ilt, ile] using hb5
  rw [if_pos hb5] at hx2o
  refine VW.skip ?_
  refine hK4 _ ?_
  refine VW.sqc fun K6 hK6 hCK6 => ?_
  obtain ⟨x7, hx7, hx2o⟩ := bind_some hx2o
  refine VW.tlE [(1, .val (dM x7.1)), (2, .val (.ptr [i64 a0_0, dI a0_1])), (5, .ref 5 [] false (dM x7.2)), (6, .val (i64 s2.2.2))] (hCK6) ?_ ?_
  · clear hx7
    refine hK6 _ ?_
    -- region 4
    refine VW.wr tau_ok Sound.none [some 17, some 18, some 6] [(1, .val (dM x7.1)), (2, .val (.ptr [i64 a0_0, dI a0_1])), (5, .ref 5 [] false (dM x7.2)), (6, .val (i64 (w64 (s2.2.2 + 1))))] rfl ?_ ?_
    · simp <;> simp [ieq, ilt, ile]
    cases hx2o
    exact ⟨_, rfl, Fits.of rfl⟩
  refine VW.block ?_
  -- region 5
  obtain ⟨v9, hv9, hx7⟩ := bind_some hx7
  obtain ⟨v10, hv10, hx7⟩ := bind_some hx7
  obtain ⟨hv10a, hv10b, hv10c, hv10d⟩ := idx_some hv10
  refine VW.ws tau_ok (Sound.none.add 20 (s_l02Turn_ok hv9) rfl) [some 19, some 20, some 21, some 22, some 23, some 7] [(1, .val (dM s2.1)), (2, .val (.ptr [i64 a0_0, dI a0_1])), (5, .ref 5 [] false (dM s2.2.1)), (6, .val (i64 s2.2.2)), (7, .ref 20 [s2.2.2.toNat] true (dI v10))] rfl ?_ ?_
  · simp [hv10a, hv10b, hv10c, hv10d] <;> simp [ieq, ilt, ile]
  -- region 6
  obtain ⟨hc11, hx7⟩ := chk_some hx7
  have hc11s := hc11
  try simp at hc11s
  refine VW.ws tau_ok Sound.none [some 24, some 25, some 26, some 27, some 8] [(1, .val (dM s2.1)), (2, .val (.ptr [i64 a0_0, dI a0_1])), (5, .ref 5 [] false (dM s2.2.1)), (6, .val (i64 s2.2.2)), (7, .ref 20 [s2.2.2.toNat] true (dI v10)), (8, .ref 8 [] true (dI (List.replicate (a0_1.length : Int).toNat 0)))] rfl ?_ ?_
  · simp [hc11, hc11s] <;> simp [ieq, ilt, ile]
  obtain ⟨l12, hl12, hx7⟩ := bind_some hx7
  rw [Option.some.inj hl12]
  -- region 7
  obtain ⟨v13, hv13, hx7⟩ := bind_some hx7
  obtain ⟨hv13a, hv13b, hv13c, hv13d⟩ := idx_some hv13
  refine VW.ws tau_ok Sound.none [some 28, some 29, some 30, none] [(1, .val (dM s2.1)), (2, .val (.ptr [i64 a0_0, dI a0_1])), (5, .ref 5 [] false (dM s2.2.1)), (6, .val (i64 s2.2.2)), (7, .ref 20 [s2.2.2.toNat] true (dI v10)), (8, .ref 8 [] true (dI (l12.set s2.2.2.toNat 1)))] rfl ?_ ?_
  · simp [hv13a, hv13b, hv13c, hv13d] <;> simp [ieq, ilt, ile]
  refine VW.sqc fun K14 hK14 hCK14 => ?_
  -- region 8
  obtain ⟨v15, hv15, hx7⟩ := bind_some hx7
  refine VW.ws tau_ok (Sound.none.add 33 (s_l01Same_ok hv15) rfl) [some 31, some 32, some 33] [(1, .val (dM s2.1)), (2, .val (.ptr [i64 a0_0, dI a0_1])), (5, .ref 5 [] false (dM s2.2.1)), (6, .val (i64 s2.2.2)), (7, .ref 20 [s2.2.2.toNat] true (dI v10)), (8, .ref 8 [] true (dI (l12.set s2.2.2.toNat 1))), (33, .val (.bool v15))] rfl ?_ ?_
  · simp <;> simp [ieq, ilt, ile]
  refine VW.cond rfl (fun hb16 => ?_) (fun hb16 => ?_)
  ·
    replace hb16 : v15 = true := by simpa [ieq, ilt, ile] using hb16
    rw [if_pos hb16] at hx7
    refine VW.exit ?_
    cases hx7
    exact Fits.of rfl
  replace hb16 : ¬ (v15 = true) := by simpa [ieq, ilt, ile] using hb16
  rw [if_neg hb16] at hx7
  refine VW.skip ?_
  refine hK14 _ ?_
  -- region 9
  obtain ⟨v17, hv17, hx7⟩ := bind_some hx7
  refine VW.ws tau_ok (Sound.none.add 41 (s_l02Plus_ok hv17) rfl) [some 34, some 35, some 36, some 37, some 38, some 39, some 40, some 41, some 9] [(1, .val (dM s2.1)), (2, .val (.ptr [i64 a0_0, dI a0_1])), (5, .ref 5 [] false (dM s2.2.1)), (6, .val (i64 s2.2.2)), (7, .ref 20 [s2.2.2.toNat] true (dI v10)), (8, .ref 8 [] true (dI (l12.set s2.2.2.toNat 1))), (9, .ref 9 [] true (dI v17))] rfl ?_ ?_
  · simp <;> simp [ieq, ilt, ile]
  refine VW.sqc fun K18 hK18 hCK18 => ?_
  -- region 10
  obtain ⟨v19, hv19, hx7⟩ := bind_some hx7
  refine VW.ws tau_ok (Sound.none.add 45 (s_l03Pair_ok hv19) rfl) [some 42, some 43, some 44, some 45, some 46] [(1, .val (dM s2.1)), (2, .val (.ptr [i64 a0_0, dI a0_1])), (5, .ref 5 [] false (dM s2.2.1)), (6, .val (i64 s2.2.2)), (7, .ref 20 [s2.2.2.toNat] true (dI v10)), (8, .ref 8 [] true (dI (l12.set s2.2.2.toNat 1))), (9, .ref 9 [] true (dI v17)), (46, .val (.bool (!(ieq v19 0))))] rfl ?_ ?_
  · simp <;> simp [ieq, ilt, ile]
  refine VW.cond rfl (fun hb20 => ?_) (fun hb20 => ?_)
  ·
    replace hb20 : ¬ v19 = 0 := by simpa [ieq, ilt, ile] using hb20
    rw [if_pos hb20] at hx7
    refine VW.fits (fl' := [(1, .val (dM s2.1)), (2, .val (.ptr [i64 a0_0, dI a0_1])), (5, .ref 5 [] false (dM s2.2.1)), (6, .val (i64 s2.2.2)), (7, .ref 20 [s2.2.2.toNat] true (dI v10)), (8, .ref 8 [] true (dI (l12.set s2.2.2.toNat 1))), (9, .val (dI v17)), (46, .val (.bool (!(ieq v19 0))))]) (Fits.freeze (s := 9) rfl (by simp) (Fits.of rfl)) ?_
    -- region 11
    obtain ⟨hc21, hx7⟩ := chk_some hx7
    have hc21s := hc21
    try simp at hc21s
    refine VW.ws tau_ok Sound.none [some 47, some 48, some 49, some 50, some 5] [(1, .val (dM s2.1)), (2, .val (.ptr [i64 a0_0, dI a0_1])), (5, .ref 5 [] false (dM (s2.2.1 ++ [v17]))), (6, .val (i64 s2.2.2)), (9, .val (dI v17))] rfl ?_ ?_
    · simp [hc21, hc21s] <;> simp [ieq, ilt, ile]
    -- region 12
    obtain ⟨v22, hv22, hx7⟩ := bind_some hx7
    obtain ⟨v23, hv23, hx7⟩ := bind_some hx7
    refine VW.wds tau_ok ((Sound.none.add 55 (s_l08Reflection_ok hv22) rfl).add 57 (s_l02Times_ok hv23) rfl) try_mixed [some 51, some 52, some 53, some 54, some 55, some 56, some 57, some 1] [(1, .ref 1 [] true (dM v23)), (2, .val (.ptr [i64 a0_0, dI a0_1])), (5, .ref 5 [] false (dM (s2.2.1 ++ [v17]))), (6, .val (i64 s2.2.2))] 7 rfl (by kernel_rfl) (by rfl) ?_ ?_
    · simp <;> simp [ieq, ilt, ile]
    refine VW.exit ?_
    cases hx7
    exact Fits.freeze (s := 1) rfl (by simp) (Fits.of rfl)
  replace hb20 : ¬ (¬ v19 = 0) := by simpa [ieq, ilt, ile] using hb20
  rw [if_neg hb20] at hx7
  refine VW.skip ?_
  refine hK18 _ ?_
  -- region 13
  obtain ⟨v24, hv24, hx7⟩ := bind_some hx7
  refine VW.ws tau_ok (Sound.none.add 62 (s_l02Plus_ok hv24) rfl) [some 58, some 59, some 60, some 61, some 62, some 10] [(1, .val (dM s2.1)), (2, .val (.ptr [i64 a0_0, dI a0_1])), (5, .ref 5 [] false (dM s2.2.1)), (6, .val (i64 s2.2.2)), (8, .ref 8 [] true (dI (l12.set s2.2.2.toNat 1))), (10, .ref 10 [] true (dI v24))] rfl ?_ ?_
  · simp <;> simp [ieq, ilt, ile]
  refine VW.fits (fl' := [(1, .val (dM s2.1)), (2, .val (.ptr [i64 a0_0, dI a0_1])), (5, .ref 5 [] false (dM s2.2.1)), (6, .val (i64 s2.2.2)), (8, .val (dI (l12.set s2.2.2.toNat 1))), (10, .val (dI v24))]) (Fits.freeze (s := 8) rfl (by simp) (Fits.freeze (s := 10) rfl (by simp) (Fits.of rfl))) ?_
  -- region 14
  obtain ⟨hc25, hx7⟩ := chk_some hx7
  have hc25s := hc25
  try simp at hc25s
  refine VW.ws tau_ok Sound.none [some 63, some 64, some 65, some 66, some 67, some 5] [(1, .val (dM s2.1)), (2, .val (.ptr [i64 a0_0, dI a0_1])), (5, .ref 5 [] false (dM (s2.2.1 ++ [v24, l12.set s2.2.2.toNat 1]))), (6, .val (i64 s2.2.2)), (8, .val (dI (l12.set s2.2.2.toNat 1))), (10, .val (dI v24))] rfl ?_ ?_
  · simp [hc25, hc25s] <;> simp [ieq, ilt, ile]
  -- region 15
  obtain ⟨v26, hv26, hx7⟩ := bind_some hx7
  obtain ⟨v27, hv27, hx7⟩ := bind_some hx7
  obtain ⟨v28, hv28, hx7⟩ := bind_some hx7
  obtain ⟨v29, hv29, hx7⟩ := bind_some hx7
  refine VW.wdr tau_ok ((((Sound.none.add 72 (s_l08Reflection_ok hv26) rfl).add 77 (s_l08Reflection_ok hv27) rfl).add 79 (s_l02Times_ok hv28) rfl).add 80 (s_l02Times_ok hv29) rfl) try_mixed [some 68, some 69, some 70, some 71, some 72, some 73, some 74, some 75, some 76, some 77, some 78, some 79, some 80, some 1] [(1, .ref 1 [] true (dM v29)), (2, .val (.ptr [i64 a0_0, dI a0_1])), (5, .ref 5 [] false (dM (s2.2.1 ++ [v24, l12.set s2.2.2.toNat 1]))), (6, .val (i64 s2.2.2))] 13 rfl (by kernel_rfl) (by rfl) ?_ ?_
  · simp <;> simp [ieq, ilt, ile]
  cases hx7
  exact Fits.freeze (s := 1) rfl (by simp) (Fits.of rfl)

theorem s_DecomposeOrthogonal_ok {a0_0 : Int} {a0_1 : List Int} {a1 : List (List Int)} {r : (List (List Int)) × Int} (h : s_DecomposeOrthogonal a0_0 a0_1 a1 = some r) :
    VCall Try.prog 17 [.agg [i64 a0_0, dI a0_1], dM a1] [.own false (dM r.1), .sc (i64 r.2)] := by
  unfold s_DecomposeOrthogonal at h
  refine VCall.enter Try.call17 Try.func17 rfl 16 Try.ntmps17 (by simp) [.tmp 4, .tmp 5] rfl ?_
  show VW _ _ _ (mk [(0, .val (.agg [i64 a0_0, dI a0_1])), (1, .val (dM a1))]) _
  -- region 0
  refine VW.ws tau_ok Sound.none [some 2, some 4, some 5] [(1, .val (dM a1)), (2, .val (.ptr [i64 a0_0, dI a0_1]))] rfl ?_ ?_
  · simp <;> simp [ieq, ilt, ile]
  -- region 1
  obtain ⟨v1, hv1, h⟩ := bind_some h
  refine VW.ws tau_ok (Sound.none.add 9 (s_l08Code_ok hv1) rfl) [some 7, some 8, some 9, some 6] [(1, .val (dM a1)), (2, .val (.ptr [i64 a0_0, dI a0_1])), (6, .val (i64 v1))] rfl ?_ ?_
  · simp <;> simp [ieq, ilt, ile]
  refine VW.sqc fun K2 hK2 hCK2 => ?_
  -- region 2
  refine VW.ws tau_ok Sound.none [some 10, some 11] [(1, .val (dM a1)), (2, .val (.ptr [i64 a0_0, dI a0_1])), (6, .val (i64 v1)), (11, .val (.bool (!(ieq v1 0))))] rfl ?_ ?_
  · simp <;> simp [ieq, ilt, ile]
  refine VW.cond rfl (fun hb3 => ?_) (fun hb3 => ?_)
  ·
    replace hb3 : ¬ v1 = 0 := by simpa [ieq, ilt, ile] using hb3
    rw [if_pos hb3] at h
    -- region 3
    refine VW.ws tau_ok Sound.none [some 12, some 4, some 5] [(4, .ref 4 [] true (.list [])), (5, .val (i64 v1))] rfl ?_ ?_
    · simp <;> simp [ieq, ilt, ile]
    have hr0 := Option.some.inj h
    subst hr0
    refine VW.fits (fl' := [(4, .ref 4 [] false (.list [])), (5, .val (i64 v1))]) (Fits.weak (s := 4) rfl (by simp) (Fits.of rfl)) ?_
    refine VW.ret ?_
    simp [Post, PostM, PostC, PostC2, Nx, Bk]
  replace hb3 : ¬ (¬ v1 = 0) := by simpa [ieq, ilt, ile] using hb3
  rw [if_neg hb3] at h
  refine VW.skip ?_
  refine hK2 _ ?_
  -- region 4
  obtain ⟨v4, hv4, h⟩ := bind_some h
  refine VW.ws tau_ok (Sound.none.add 15 (s_l08Decompose_ok hv4) rfl) [some 13, some 14, some 15, some 4, some 5] [(4, .ref 4 [] false (dM v4)), (5, .val (i64 0))] rfl ?_ ?_
  · simp <;> simp [ieq, ilt, ile]
  cases h
  refine VW.ret ?_
  simp [Post, PostM, PostC, PostC2, Nx, Bk]

theorem i_IsPrime_ok {a0 : Int} {r : Bool} (h : i_IsPrime a0 = some r) :
    VCall Try.prog 192 [i64 a0] [.sc (.bool r)] := by
  unfold i_IsPrime at h
  refine VCall.enter Try.call192 Try.func192 rfl 10 Try.ntmps192 (by simp) [.tmp 2] rfl ?_
  show VW _ _ _ (mk [(0, .val (i64 a0))]) _
  -- region 0
  refine VW.ws tau_ok Sound.none [some 2] [(0, .val (i64 a0))] rfl ?_ ?_
  · simp <;> simp [ieq, ilt, ile]
  refine VW.sqc fun K1 hK1 hCK1 => ?_
  -- region 1
  refine VW.ws tau_ok Sound.none [some 3] [(3, .val (i64 a0))] rfl ?_ ?_
  · simp <;> simp [ieq, ilt, ile]
  refine VW.block ?_
  refine VW.sqc fun K2 hK2 hCK2 => ?_
  -- region 2
  refine VW.ws tau_ok Sound.none [some 5, some 4] [(3, .val (i64 a0)), (4, .val (.bool (ieq a0 3)))] rfl ?_ ?_
  · simp <;> simp [ieq, ilt, ile]
  obtain ⟨x3, hx3, h⟩ := bind_some h
  refine VW.tlE [(4, .val (.bool x3))] (hCK2) ?_ ?_
  · clear hx3
    refine hK2 _ ?_
    refine VW.cond rfl (fun hb9 => ?_) (fun hb9 => ?_)
    ·
      replace hb9 : x3 = true := by simpa [ieq, ilt, ile] using hb9
      rw [if_pos hb9] at h
      -- region 7
      refine VW.ws tau_ok Sound.none [some 2] [(2, .val (.bool true))] rfl ?_ ?_
      · simp <;> simp [ieq, ilt, ile]
      cases h
      refine VW.ret ?_
      simp [Post, PostM, PostC, PostC2, Nx, Bk]
    replace hb9 : ¬ (x3 = true) := by simpa [ieq, ilt, ile] using hb9
    rw [if_neg hb9] at h
    refine VW.skip ?_
    refine hK1 _ ?_
    -- region 8
    refine VW.ws tau_ok Sound.none [some 2] [(2, .val (.bool false))] rfl ?_ ?_
    · simp <;> simp [ieq, ilt, ile]
    cases h
    refine VW.ret ?_
    simp [Post, PostM, PostC, PostC2, Nx, Bk]
  refine VW.cond rfl (fun hb5 => ?_) (fun hb5 => ?_)
  ·
    replace hb5 : a0 = 3 := by simpa [ieq, ilt, ile] using hb5
    rw [if_pos hb5] at hx3
    refine VW.skip ?_
    cases hx3
    exact Fits.of rfl
  replace hb5 : ¬ (a0 = 3) := by simpa [ieq, ilt, ile] using hb5
  rw [if_neg hb5] at hx3
  -- region 3
  refine VW.ws tau_ok Sound.none [some 6, some 4] [(3, .val (i64 a0)), (4, .val (.bool (ieq a0 5)))] rfl ?_ ?_
  · simp <;> simp [ieq, ilt, ile]
  refine VW.cond rfl (fun hb6 => ?_) (fun hb6 => ?_)
  ·
    replace hb6 : a0 = 5 := by simpa [ieq, ilt, ile] using hb6
    rw [if_pos hb6] at hx3
    refine VW.skip ?_
    cases hx3
    exact Fits.of rfl
  replace hb6 : ¬ (a0 = 5) := by simpa [ieq, ilt, ile] using hb6
  rw [if_neg hb6] at hx3
  -- region 4
  refine VW.ws tau_ok Sound.none [some 7, some 4] [(3, .val (i64 a0)), (4, .val (.bool (ieq a0 7)))] rfl ?_ ?_
  · simp <;> simp [ieq, ilt, ile]
  refine VW.cond rfl (fun hb7 => ?_) (fun hb7 => ?_)
  ·
    replace hb7 : a0 = 7 := by simpa [ieq, ilt, ile] using hb7
    rw [if_pos hb7] at hx3
    refine VW.skip ?_
    cases hx3
    exact Fits.of rfl
  replace hb7 : ¬ (a0 = 7) := by simpa [ieq, ilt, ile] using hb7
  rw [if_neg hb7] at hx3
  -- region 5
  refine VW.ws tau_ok Sound.none [some 8, some 4] [(3, .val (i64 a0)), (4, .val (.bool (ieq a0 11)))] rfl ?_ ?_
  · simp <;> simp [ieq, ilt, ile]
  refine VW.cond rfl (fun hb8 => ?_) (fun hb8 => ?_)
  ·
    replace hb8 : a0 = 11 := by simpa [ieq, ilt, ile] using hb8
    rw [if_pos hb8] at hx3
    refine VW.skip ?_
    cases hx3
    exact Fits.of rfl
  replace hb8 : ¬ (a0 = 11) := by simpa [ieq, ilt, ile] using hb8
  rw [if_neg hb8] at hx3
  -- region 6
  refine VW.wr tau_ok Sound.none [some 9, some 4] [(4, .val (.bool (ieq a0 13)))] rfl ?_ ?_
  · simp <;> simp [ieq, ilt, ile]
  cases hx3
  exact Fits.of rfl

theorem i_length_I_ok {a0 : List Int} {r : Int} (h : i_length_I a0 = some r) :
    VCall Try.prog 203 [dI a0] [.sc (i64 r)] := by
  unfold i_length_I at h
  refine VCall.enter Try.call203 Try.func203 rfl 5 Try.ntmps203 (by simp) [.tmp 2] rfl ?_
  show VW _ _ _ (mk [(0, .val (dI a0))]) _
  -- region 0
  refine VW.ws tau_ok Sound.none [some 2] [(0, .val (dI a0))] rfl ?_ ?_
  · simp <;> simp [ieq, ilt, ile]
  -- region 1
  refine VW.ws tau_ok Sound.none [some 3, some 4, some 2] [(2, .val (i64 (a0.length : Int)))] rfl ?_ ?_
  · simp <;> simp [ieq, ilt, ile]
  cases h
  refine VW.ret ?_
  simp [Post, PostM, PostC, PostC2, Nx, Bk]

theorem i_inRange_ok {a0 : Int} {a1 : Int} {a2 : Int} {r : Bool} (h : i_inRange a0 a1 a2 = some r) :
    VCall Try.prog 150 [i64 a0, i64 a1, i64 a2] [.sc (.bool r)] := by
  unfold i_inRange at h
  refine VCall.enter Try.call150 Try.func150 rfl 15 Try.ntmps150 (by simp) [.tmp 6] rfl ?_
  show VW _ _ _ (mk [(0, .val (i64 a0)), (1, .val (i64 a1)), (2, .val (i64 a2))]) _
  -- region 0
  refine VW.ws tau_ok Sound.none [some 6] [(0, .val (i64 a0)), (1, .val (i64 a1)), (2, .val (i64 a2))] rfl ?_ ?_
  · simp <;> simp [ieq, ilt, ile]
  -- region 1
  obtain ⟨x2, hx2, h⟩ := bind_some h
  refine VW.cut [(6, .val (.bool x2))] ?_ fun hy => ?_
  rotate_left
  · clear h
    by_cases hp1 : a1 ≤ a0
    · rw [if_pos hp1] at hx2
      have hp1b : ile a1 a0 = true := by simpa [ieq, ilt, ile] using hp1
      have hp1s := hp1b
      try simp at hp1s
      cases hx2
      refine VW.ws tau_ok Sound.none [some 7, some 8, some 9, some 10, some 11, some 12, some 13, some 14, some 6] _ rfl ?_ hy
      simp [hp1b, hp1s] <;> simp [ieq, ilt, ile]
    · rw [if_neg hp1] at hx2
      have hp1b : ile a1 a0 = false := by simpa [ieq, ilt, ile] using hp1
      have hp1s := hp1b
      try simp at hp1s
      cases hx2
      refine VW.ws tau_ok Sound.none [some 7, some 8, some 9, some 10, some 11, some 12, some 13, some 14, some 6] _ rfl ?_ hy
      simp [hp1b, hp1s] <;> simp [ieq, ilt, ile]
  cases h
  refine VW.ret ?_
  simp [Post, PostM, PostC, PostC2, Nx, Bk]

theorem i_Space_field_ok {a0_0 : Int} {a0_1 : List Int} {r : Int} (h : i_Space_field a0_0 a0_1 = some r) :
    VCall Try.prog 166 [.agg [i64 a0_0, dI a0_1]] [.sc (i64 r)] := by
  unfold i_Space_field at h
  refine VCall.enter Try.call166 Try.func166 rfl 5 Try.ntmps166 (by simp) [.tmp 2] rfl ?_
  show VW _ _ _ (mk [(0, .val (.agg [i64 a0_0, dI a0_1]))]) _
  -- region 0
  refine VW.ws tau_ok Sound.none [some 1, some 2] [(1, .val (.ptr [i64 a0_0, dI a0_1]))] rfl ?_ ?_
  · simp <;> simp [ieq, ilt, ile]
  -- region 1
  refine VW.ws tau_ok Sound.none [some 3, some 4, some 2] [(2, .val (i64 a0_0))] rfl ?_ ?_
  · simp <;> simp [ieq, ilt, ile]
  cases h
  refine VW.ret ?_
  simp [Post, PostM, PostC, PostC2, Nx, Bk]

theorem i_field_is_ok {a0 : Int} {a1 : List Int} {r : Bool} (h : i_field_is a0 a1 = some r) :
    VCall Try.prog 191 [i64 a0, dI a1] [.sc (.bool r)] := by
  unfold i_field_is at h
  refine VCall.enter Try.call191 Try.func191 rfl 19 Try.ntmps191 (by simp) [.tmp 4] rfl ?_
  show VW _ _ _ (mk [(0, .val (i64 a0)), (1, .val (dI a1))]) _
  -- region 0
  refine VW.ws tau_ok Sound.none [some 4] [(0, .val (i64 a0)), (1, .val (dI a1))] rfl ?_ ?_
  · simp <;> simp [ieq, ilt, ile]
  refine VW.sqc fun K1 hK1 hCK1 => ?_
  -- region 1
  refine VW.ws tau_ok Sound.none [some 7, some 8, some 9] [(0, .val (i64 a0)), (7, .val (dI a1)), (8, .val (i64 (a1.length : Int))), (9, .val (i64 0))] rfl ?_ ?_
  · simp <;> simp [ieq, ilt, ile]
  obtain ⟨x2, hx2, h⟩ := bind_some h
  refine VW.tlO (fun y4 => []) x2 (hCK1) ?_ ?_
  · clear hx2
    rintro y4 rfl
    dsimp only at h
    refine hK1 _ ?_
    -- region 7
    refine VW.ws tau_ok Sound.none [some 4] [(4, .val (.bool true))] rfl ?_ ?_
    · simp <;> simp [ieq, ilt, ile]
    cases h
    refine VW.ret ?_
    simp [Post, PostM, PostC, PostC2, Nx, Bk]
  refine VW.block ?_
  refine VW.loopF (i_field_is_L0 a0 a1) (fun s2 => [(0, .val (i64 a0)), (7, .val (dI a1)), (8, .val (i64 (a1.length : Int))), (9, .val (i64 s2))]) hx2 (Fits.of rfl) ?_
  clear hx2
  intro s2 ox2 hx2o hx2b
  unfold i_field_is_L0 at hx2o
  -- region 2
  refine VW.ws tau_ok Sound.none [some 10] [(0, .val (i64 a0)), (7, .val (dI a1)), (8, .val (i64 (a1.length : Int))), (9, .val (i64 s2)), (10, .val (.bool (ilt s2 (a1.length : Int))))] rfl ?_ ?_
  · simp <;> simp [ieq, ilt, ile]
  refine VW.sqc fun K5 hK5 hCK5 => ?_
  refine VW.cond rfl (fun hb6 => ?_) (fun hb6 => ?_)
  rotate_left
  ·
    replace hb6 : ¬ (s2 < (a1.length : Int)) := by simpa [ieq, ilt, ile] using hb6
    rw [if_neg hb6] at hx2o
    refine VW.exit ?_
    cases hx2o
    have hq := hx2b _ rfl
    subst hq
    exact ⟨_, rfl, Fits.of rfl⟩
  replace hb6 : s2 < (a1.length : Int) := by simpa [ieq, ilt, ile] using hb6
  rw [if_pos hb6] at hx2o
  refine VW.skip ?_
  refine hK5 _ ?_
  refine VW.sqc fun K7 hK7 hCK7 => ?_
  refine VW.block ?_
  -- region 3
  obtain ⟨v8, hv8, hx2o⟩ := bind_some hx2o
  obtain ⟨hv8a, hv8b, hv8c, hv8d⟩ := idx_some hv8
  refine VW.ws tau_ok Sound.none [some 11, some 12, some 6] [(0, .val (i64 a0)), (6, .val (i64 v8)), (7, .val (dI a1)), (8, .val (i64 (a1.length : Int))), (9, .val (i64 s2))] rfl ?_ ?_
  · simp [hv8a, hv8b, hv8c, hv8d] <;> simp [ieq, ilt, ile]
  -- region 4
  obtain ⟨v9, hv9, hx2o⟩ := bind_some hx2o
  refine VW.ws tau_ok (Sound.none.add 16 (i_inRange_ok hv9) rfl) [some 13, some 14, some 15, some 16, some 17] [(0, .val (i64 a0)), (7, .val (dI a1)), (8, .val (i64 (a1.length : Int))), (9, .val (i64 s2)), (17, .val (.bool (!v9)))] rfl ?_ ?_
  · simp <;> simp [ieq, ilt, ile]
  refine VW.cond rfl (fun hb10 => ?_) (fun hb10 => ?_)
  rotate_left
  ·
    replace hb10 : ¬ (v9 = false) := by simpa [ieq, ilt, ile] using hb10
    rw [if_neg hb10] at hx2o
    refine VW.skip ?_
    refine hK7 _ ?_
    -- region 6
    refine VW.wr tau_ok Sound.none [some 18, some 9] [(0, .val (i64 a0)), (7, .val (dI a1)), (8, .val (i64 (a1.length : Int))), (9, .val (i64 (w64 (s2 + 1))))] rfl ?_ ?_
    · simp <;> simp [ieq, ilt, ile]
    cases hx2o
    exact ⟨_, rfl, Fits.of rfl⟩
  replace hb10 : v9 = false := by simpa [ieq, ilt, ile] using hb10
  rw [if_pos hb10] at hx2o
  -- region 5
  refine VW.ws tau_ok Sound.none [some 4] [(4, .val (.bool false))] rfl ?_ ?_
  · simp <;> simp [ieq, ilt, ile]
  cases hx2o
  have hq := hx2b _ rfl
  subst hq
  dsimp only at h
  cases h
  refine VW.ret ?_
  simp [Post, PostM, PostC, PostC2, Nx, Bk]

theorem i_IsSpace_ok {a0_0 : Int} {a0_1 : List Int} {r : Bool} (h : i_IsSpace a0_0 a0_1 = some r) :
    VCall Try.prog 163 [.agg [i64 a0_0, dI a0_1]] [.sc (.bool r)] := by
  unfold i_IsSpace at h
  refine VCall.enter Try.call163 Try.func163 rfl 19 Try.ntmps163 (by simp) [.tmp 2] rfl ?_
  show VW _ _ _ (mk [(0, .val (.agg [i64 a0_0, dI a0_1]))]) _
  -- region 0
  refine VW.ws tau_ok Sound.none [some 1, some 2] [(1, .val (.ptr [i64 a0_0, dI a0_1]))] rfl ?_ ?_
  · simp <;> simp [ieq, ilt, ile]
  -- region 1
  obtain ⟨x8, hx8, h⟩ := bind_some h
  refine VW.cut [(2, .val (.bool x8))] ?_ fun hy => ?_
  rotate_left
  · clear h
    obtain ⟨v1, hv1, hx8⟩ := bind_some hx8
    by_cases hp2 : v1 = true
    · rw [if_pos hp2] at hx8
      have hp2b : v1 = true := by simpa [ieq, ilt, ile] using hp2
      have hp2s := hp2b
      try simp at hp2s
      obtain ⟨v3, hv3, hx8⟩ := bind_some hx8
      obtain ⟨v4, hv4, hx8⟩ := bind_some hx8
      by_cases hp5 : v4 = true
      · rw [if_pos hp5] at hx8
        have hp5b : v4 = true := by simpa [ieq, ilt, ile] using hp5
        have hp5s := hp5b
        try simp at hp5s
        obtain ⟨v6, hv6, hx8⟩ := bind_some hx8
        obtain ⟨v7, hv7, hx8⟩ := bind_some hx8
        cases hx8
        refine VW.wds tau_ok (((((Sound.none.add 5 (i_IsPrime_ok hv1) rfl).add 9 (i_length_I_ok hv3) rfl).add 10 (i_inRange_ok hv4) rfl).add 14 (i_Space_field_ok hv6) rfl).add 17 (i_field_is_ok hv7) rfl) try_mixed [some 3, some 4, some 5, some 6, some 7, some 8, some 9, some 10, some 11, some 12, some 13, some 14, some 15, some 16, some 17, some 18, some 2] _ 17 rfl (by kernel_rfl) (by rfl) ?_ hy
        simp [hp2b, hp2s, hp5b, hp5s] <;> simp [ieq, ilt, ile]
      · rw [if_neg hp5] at hx8
        have hp5b : v4 = false := by simpa [ieq, ilt, ile] using hp5
        have hp5s := hp5b
        try simp at hp5s
        cases hx8
        refine VW.wds tau_ok (((Sound.none.add 5 (i_IsPrime_ok hv1) rfl).add 9 (i_length_I_ok hv3) rfl).add 10 (i_inRange_ok hv4) rfl) try_mixed [some 3, some 4, some 5, some 6, some 7, some 8, some 9, some 10, some 11, some 12, some 13, some 14, some 15, some 16, some 17, some 18, some 2] _ 17 rfl (by kernel_rfl) (by rfl) ?_ hy
        simp [hp2b, hp2s, hp5b, hp5s] <;> simp [ieq, ilt, ile]
    · rw [if_neg hp2] at hx8
      have hp2b : v1 = false := by simpa [ieq, ilt, ile] using hp2
      have hp2s := hp2b
      try simp at hp2s
      cases hx8
      refine VW.wds tau_ok (Sound.none.add 5 (i_IsPrime_ok hv1) rfl) try_mixed [some 3, some 4, some 5, some 6, some 7, some 8, some 9, some 10, some 11, some 12, some 13, some 14, some 15, some 16, some 17, some 18, some 2] _ 17 rfl (by kernel_rfl) (by rfl) ?_ hy
      simp [hp2b, hp2s] <;> simp [ieq, ilt, ile]
  cases h
  refine VW.ret ?_
  simp [Post, PostM, PostC, PostC2, Nx, Bk]
end Go.Vam
