import Derived.Test.YtomgbldkoehplaaR7T
import Derived.Test.YtomgbldkoehplaaFnN
namespace Go.Vam
open Go Go.RowKit Go.Proofs
set_option maxRecDepth 100000
set_option linter.unusedSimpArgs false
set_option linter.unusedVariables false

theorem l_szInt64S_ok {a0 : List Int} {a1 : Int} {r : Int} (h : l_szInt64S a0 a1 = some r) :
    VCall Try.prog 101 [dI a0, i64 a1] [.sc (i64 r)] := by
  unfold l_szInt64S at h
  refine VCall.enter Try.call101 Try.func101 rfl 12 Try.ntmps101 (by simp) [.tmp 4] rfl ?_
  show VW _ _ _ (mk [(0, .val (dI a0)), (1, .val (i64 a1))]) _
  -- region 0
  refine VW.ws tau_ok Sound.none [some 4] [(0, .val (dI a0)), (1, .val (i64 a1))] rfl ?_ ?_
  · simp <;> simp [ieq, ilt, ile]
  -- region 1
  refine VW.ws tau_ok Sound.none [some 5, some 6, some 7, some 8, some 1] [(1, .val (i64 (w64 (a1 - (a0.length : Int)))))] rfl ?_ ?_
  · simp <;> simp [ieq, ilt, ile]
  refine VW.sqc fun K1 hK1 hCK1 => ?_
  -- region 2
  refine VW.ws tau_ok Sound.none [some 9, some 10] [(1, .val (i64 (w64 (a1 - (a0.length : Int))))), (10, .val (.bool (ilt (w64 (a1 - (a0.length : Int))) 0)))] rfl ?_ ?_
  · simp <;> simp [ieq, ilt, ile]
  refine VW.cond rfl (fun hb2 => ?_) (fun hb2 => ?_)
  ·
    replace hb2 : (w64 (a1 - (a0.length : Int))) < 0 := by simpa [ieq, ilt, ile] using hb2
    rw [if_pos hb2] at h
    -- region 3
    refine VW.ws tau_ok Sound.none [some 4] [(4, .val (i64 (-1)))] rfl ?_ ?_
    · simp <;> simp [ieq, ilt, ile]
    cases h
    refine VW.ret ?_
    simp [Post, PostM, PostC, PostC2, Nx, Bk]
  replace hb2 : ¬ ((w64 (a1 - (a0.length : Int))) < 0) := by simpa [ieq, ilt, ile] using hb2
  rw [if_neg hb2] at h
  refine VW.skip ?_
  refine hK1 _ ?_
  -- region 4
  refine VW.ws tau_ok Sound.none [some 11, some 4] [(4, .val (i64 (w64 (a1 - (a0.length : Int)))))] rfl ?_ ?_
  · simp <;> simp [ieq, ilt, ile]
  cases h
  refine VW.ret ?_
  simp [Post, PostM, PostC, PostC2, Nx, Bk]

theorem l_szInt64SS_ok {a0 : List (List Int)} {a1 : Int} {r : Int} (h : l_szInt64SS a0 a1 = some r) :
    VCall Try.prog 38 [dM a0, i64 a1] [.sc (i64 r)] := by
  unfold l_szInt64SS at h
  refine VCall.enter Try.call38 Try.func38 rfl 27 Try.ntmps38 (by simp) [.tmp 4] rfl ?_
  show VW _ _ _ (mk [(0, .val (dM a0)), (1, .val (i64 a1))]) _
  -- region 0
  refine VW.ws tau_ok Sound.none [some 4] [(0, .val (dM a0)), (1, .val (i64 a1))] rfl ?_ ?_
  · simp <;> simp [ieq, ilt, ile]
  -- region 1
  refine VW.ws tau_ok Sound.none [some 6, some 7, some 8, some 9, some 1] [(0, .val (dM a0)), (1, .val (i64 (w64 (a1 - (a0.length : Int)))))] rfl ?_ ?_
  · simp <;> simp [ieq, ilt, ile]
  refine VW.sqc fun K1 hK1 hCK1 => ?_
  -- region 2
  refine VW.ws tau_ok Sound.none [some 10, some 11] [(0, .val (dM a0)), (1, .val (i64 (w64 (a1 - (a0.length : Int))))), (11, .val (.bool (ilt (w64 (a1 - (a0.length : Int))) 0)))] rfl ?_ ?_
  · simp <;> simp [ieq, ilt, ile]
  refine VW.cond rfl (fun hb2 => ?_) (fun hb2 => ?_)
  ·
    replace hb2 : (w64 (a1 - (a0.length : Int))) < 0 := by simpa [ieq, ilt, ile] using hb2
    rw [if_pos hb2] at h
    -- region 3
    refine VW.ws tau_ok Sound.none [some 4] [(4, .val (i64 (-1)))] rfl ?_ ?_
    · simp <;> simp [ieq, ilt, ile]
    cases h
    refine VW.ret ?_
    simp [Post, PostM, PostC, PostC2, Nx, Bk]
  replace hb2 : ¬ ((w64 (a1 - (a0.length : Int))) < 0) := by simpa [ieq, ilt, ile] using hb2
  rw [if_neg hb2] at h
  refine VW.skip ?_
  refine hK1 _ ?_
  refine VW.sqc fun K3 hK3 hCK3 => ?_
  -- region 4
  refine VW.ws tau_ok Sound.none [some 5] [(0, .val (dM a0)), (1, .val (i64 (w64 (a1 - (a0.length : Int))))), (5, .val (i64 0))] rfl ?_ ?_
  · simp <;> simp [ieq, ilt, ile]
  obtain ⟨x4, hx4, h⟩ := bind_some h
  refine VW.tlO (fun y6 => [(1, .val (i64 y6))]) x4 (hCK3) ?_ ?_
  · clear hx4
    rintro y6 rfl
    dsimp only at h
    refine hK3 _ ?_
    -- region 10
    refine VW.ws tau_ok Sound.none [some 26, some 4] [(4, .val (i64 y6))] rfl ?_ ?_
    · simp <;> simp [ieq, ilt, ile]
    cases h
    refine VW.ret ?_
    simp [Post, PostM, PostC, PostC2, Nx, Bk]
  refine VW.block ?_
  refine VW.loopF (l_szInt64SS_L0 a0) (fun s4 => [(0, .val (dM a0)), (1, .val (i64 s4.1)), (5, .val (i64 s4.2))]) hx4 (Fits.of rfl) ?_
  clear hx4
  intro s4 ox4 hx4o hx4b
  unfold l_szInt64SS_L0 at hx4o
  refine VW.sqc fun K7 hK7 hCK7 => ?_
  -- region 5
  refine VW.ws tau_ok Sound.none [some 12, some 13, some 14, some 15] [(0, .val (dM a0)), (1, .val (i64 s4.1)), (5, .val (i64 s4.2)), (15, .val (.bool (ilt s4.2 (a0.length : Int))))] rfl ?_ ?_
  · simp <;> simp [ieq, ilt, ile]
  refine VW.cond rfl (fun hb8 => ?_) (fun hb8 => ?_)
  rotate_left
  ·
    replace hb8 : ¬ (s4.2 < (a0.length : Int)) := by simpa [ieq, ilt, ile] using hb8
    rw [if_neg hb8] at hx4o
    refine VW.exit ?_
    cases hx4o
    have hq := hx4b _ rfl
    subst hq
    exact ⟨_, rfl, Fits.of rfl⟩
  replace hb8 : s4.2 < (a0.length : Int) := by simpa [ieq, ilt, ile] using hb8
  rw [if_pos hb8] at hx4o
  refine VW.skip ?_
  refine hK7 _ ?_
  refine VW.sqc fun K9 hK9 hCK9 => ?_
  refine VW.block ?_
  -- region 7
  obtain ⟨v10, hv10, hx4o⟩ := bind_some hx4o
  obtain ⟨hv10a, hv10b, hv10c, hv10d⟩ := idx_some hv10
  obtain ⟨v11, hv11, hx4o⟩ := bind_some hx4o
  refine VW.ws tau_ok (Sound.none.add 23 (l_szInt64S_ok hv11) rfl) [some 18, some 19, some 20, some 21, some 22, some 23, some 1] [(0, .val (dM a0)), (1, .val (i64 v11)), (5, .val (i64 s4.2))] rfl ?_ ?_
  · simp [hv10a, hv10b, hv10c, hv10d] <;> simp [ieq, ilt, ile]
  -- region 8
  refine VW.ws tau_ok Sound.none [some 24, some 25] [(0, .val (dM a0)), (1, .val (i64 v11)), (5, .val (i64 s4.2)), (25, .val (.bool (ilt v11 0)))] rfl ?_ ?_
  · simp <;> simp [ieq, ilt, ile]
  refine VW.cond rfl (fun hb12 => ?_) (fun hb12 => ?_)
  rotate_left
  ·
    replace hb12 : ¬ (v11 < 0) := by simpa [ieq, ilt, ile] using hb12
    rw [if_neg hb12] at hx4o
    refine VW.skip ?_
    refine hK9 _ ?_
    -- region 6
    refine VW.wr tau_ok Sound.none [some 16, some 17, some 5] [(0, .val (dM a0)), (1, .val (i64 v11)), (5, .val (i64 (w64 (s4.2 + 1))))] rfl ?_ ?_
    · simp <;> simp [ieq, ilt, ile]
    cases hx4o
    exact ⟨_, rfl, Fits.of rfl⟩
  replace hb12 : v11 < 0 := by simpa [ieq, ilt, ile] using hb12
  rw [if_pos hb12] at hx4o
  -- region 9
  refine VW.ws tau_ok Sound.none [some 4] [(4, .val (i64 (-1)))] rfl ?_ ?_
  · simp <;> simp [ieq, ilt, ile]
  cases hx4o
  have hq := hx4b _ rfl
  subst hq
  dsimp only at h
  cases h
  refine VW.ret ?_
  simp [Post, PostM, PostC, PostC2, Nx, Bk]

theorem l_toInt64S_ok {a0 : List Int} {r : List Int} (h : l_toInt64S a0 = some r) :
    VCall Try.prog 87 [dI a0] [.own true (dI r)] := by
  unfold l_toInt64S at h
  refine VCall.enter Try.call87 Try.func87 rfl 22 Try.ntmps87 (by simp) [.tmp 2] rfl ?_
  show VW _ _ _ (mk [(0, .val (dI a0))]) _
  -- region 0
  refine VW.ws tau_ok Sound.none [some 2] [(0, .val (dI a0))] rfl ?_ ?_
  · simp <;> simp [ieq, ilt, ile]
  -- region 1
  obtain ⟨hc1, h⟩ := chk_some h
  have hc1s := hc1
  try simp at hc1s
  refine VW.ws tau_ok Sound.none [some 5, some 6, some 7, some 3] [(0, .val (dI a0)), (3, .ref 3 [] true (dI (List.replicate (a0.length : Int).toNat 0)))] rfl ?_ ?_
  · simp [hc1, hc1s] <;> simp [ieq, ilt, ile]
  refine VW.sqc fun K2 hK2 hCK2 => ?_
  -- region 2
  refine VW.ws tau_ok Sound.none [some 4] [(0, .val (dI a0)), (3, .ref 3 [] true (dI (List.replicate (a0.length : Int).toNat 0))), (4, .val (i64 0))] rfl ?_ ?_
  · simp <;> simp [ieq, ilt, ile]
  obtain ⟨x3, hx3, h⟩ := bind_some h
  refine VW.tlE [(3, .ref 3 [] true (dI x3))] (hCK2) ?_ ?_
  · clear hx3
    refine hK2 _ ?_
    -- region 6
    refine VW.ws tau_ok Sound.none [some 21, some 2] [(2, .ref 2 [] true (dI x3))] rfl ?_ ?_
    · simp <;> simp [ieq, ilt, ile]
    cases h
    refine VW.ret ?_
    simp [Post, PostM, PostC, PostC2, Nx, Bk]
  refine VW.block ?_
  refine VW.loopF (l_toInt64S_L0 a0) (fun s3 => [(0, .val (dI a0)), (3, .ref 3 [] true (dI s3.1)), (4, .val (i64 s3.2))]) hx3 (Fits.of rfl) ?_
  clear hx3
  intro s3 ox3 hx3o hx3b
  unfold l_toInt64S_L0 at hx3o
  refine VW.sqc fun K5 hK5 hCK5 => ?_
  -- region 3
  refine VW.ws tau_ok Sound.none [some 8, some 9, some 10, some 11] [(0, .val (dI a0)), (3, .ref 3 [] true (dI s3.1)), (4, .val (i64 s3.2)), (11, .val (.bool (ilt s3.2 (a0.length : Int))))] rfl ?_ ?_
  · simp <;> simp [ieq, ilt, ile]
  refine VW.cond rfl (fun hb6 => ?_) (fun hb6 => ?_)
  rotate_left
  ·
    replace hb6 : ¬ (s3.2 < (a0.length : Int)) := by simpa [ieq, ilt, ile] using hb6
    rw [if_neg hb6] at hx3o
    refine VW.exit ?_
    cases hx3o
    have hq := hx3b _ rfl
    subst hq
    exact Fits.of rfl
  replace hb6 : s3.2 < (a0.length : Int) := by simpa [ieq, ilt, ile] using hb6
  rw [if_pos hb6] at hx3o
  refine VW.skip ?_
  refine hK5 _ ?_
  refine VW.sqc fun K7 hK7 hCK7 => ?_
  refine VW.block ?_
  -- region 5
  obtain ⟨v8, hv8, hx3o⟩ := bind_some hx3o
  obtain ⟨hv8a, hv8b, hv8c, hv8d⟩ := idx_some hv8
  obtain ⟨v9, hv9, hx3o⟩ := bind_some hx3o
  obtain ⟨hv9a, hv9b, hv9c, hv9d⟩ := idx_some hv9
  refine VW.wr tau_ok Sound.none [some 14, some 15, some 16, some 17, some 18, some 19, some 20, none] [(0, .val (dI a0)), (3, .ref 3 [] true (dI (s3.1.set s3.2.toNat v8))), (4, .val (i64 s3.2))] rfl ?_ ?_
  · simp [hv8a, hv8b, hv8c, hv8d, hv9a, hv9b, hv9c, hv9d] <;> simp [ieq, ilt, ile]
  refine hK7 _ ?_
  -- region 4
  refine VW.wr tau_ok Sound.none [some 12, some 13, some 4] [(0, .val (dI a0)), (3, .ref 3 [] true (dI (s3.1.set s3.2.toNat v8))), (4, .val (i64 (w64 (s3.2 + 1))))] rfl ?_ ?_
  · simp <;> simp [ieq, ilt, ile]
  cases hx3o
  exact ⟨_, rfl, Fits.of rfl⟩

theorem l_toInt64SS_ok {a0 : List (List Int)} {r : List (List Int)} (h : l_toInt64SS a0 = some r) :
    VCall Try.prog 41 [dM a0] [.own true (dM r)] := by
  unfold l_toInt64SS at h
  refine VCall.enter Try.call41 Try.func41 rfl 23 Try.ntmps41 (by simp) [.tmp 2] rfl ?_
  show VW _ _ _ (mk [(0, .val (dM a0))]) _
  -- region 0
  refine VW.ws tau_ok Sound.none [some 2] [(0, .val (dM a0))] rfl ?_ ?_
  · simp <;> simp [ieq, ilt, ile]
  -- region 1
  obtain ⟨hc1, h⟩ := chk_some h
  have hc1s := hc1
  try simp at hc1s
  refine VW.ws tau_ok Sound.none [some 5, some 6, some 7, some 3] [(0, .val (dM a0)), (3, .ref 3 [] true (dM (List.replicate (a0.length : Int).toNat [])))] rfl ?_ ?_
  · simp [hc1, hc1s] <;> simp [ieq, ilt, ile]
  refine VW.sqc fun K2 hK2 hCK2 => ?_
  -- region 2
  refine VW.ws tau_ok Sound.none [some 4] [(0, .val (dM a0)), (3, .ref 3 [] true (dM (List.replicate (a0.length : Int).toNat []))), (4, .val (i64 0))] rfl ?_ ?_
  · simp <;> simp [ieq, ilt, ile]
  obtain ⟨x3, hx3, h⟩ := bind_some h
  refine VW.tlE [(3, .ref 3 [] true (dM x3))] (hCK2) ?_ ?_
  · clear hx3
    refine hK2 _ ?_
    -- region 6
    refine VW.ws tau_ok Sound.none [some 22, some 2] [(2, .ref 2 [] true (dM x3))] rfl ?_ ?_
    · simp <;> simp [ieq, ilt, ile]
    cases h
    refine VW.ret ?_
    simp [Post, PostM, PostC, PostC2, Nx, Bk]
  refine VW.block ?_
  refine VW.loopF (l_toInt64SS_L0 a0) (fun s3 => [(0, .val (dM a0)), (3, .ref 3 [] true (dM s3.1)), (4, .val (i64 s3.2))]) hx3 (Fits.of rfl) ?_
  clear hx3
  intro s3 ox3 hx3o hx3b
  unfold l_toInt64SS_L0 at hx3o
  refine VW.sqc fun K5 hK5 hCK5 => ?_
  -- region 3
  refine VW.ws tau_ok Sound.none [some 8, some 9, some 10, some 11] [(0, .val (dM a0)), (3, .ref 3 [] true (dM s3.1)), (4, .val (i64 s3.2)), (11, .val (.bool (ilt s3.2 (a0.length : Int))))] rfl ?_ ?_
  · simp <;> simp [ieq, ilt, ile]
  refine VW.cond rfl (fun hb6 => ?_) (fun hb6 => ?_)
  rotate_left
  ·
    replace hb6 : ¬ (s3.2 < (a0.length : Int)) := by simpa [ieq, ilt, ile] using hb6
    rw [if_neg hb6] at hx3o
    refine VW.exit ?_
    cases hx3o
    have hq := hx3b _ rfl
    subst hq
    exact Fits.of rfl
  replace hb6 : s3.2 < (a0.length : Int) := by simpa [ieq, ilt, ile] using hb6
  rw [if_pos hb6] at hx3o
  refine VW.skip ?_
  refine hK5 _ ?_
  refine VW.sqc fun K7 hK7 hCK7 => ?_
  refine VW.block ?_
  -- region 5
  obtain ⟨v8, hv8, hx3o⟩ := bind_some hx3o
  obtain ⟨hv8a, hv8b, hv8c, hv8d⟩ := idx_some hv8
  obtain ⟨v9, hv9, hx3o⟩ := bind_some hx3o
  obtain ⟨v10, hv10, hx3o⟩ := bind_some hx3o
  obtain ⟨hv10a, hv10b, hv10c, hv10d⟩ := idx_some hv10
  refine VW.wr tau_ok (Sound.none.add 20 (l_toInt64S_ok hv9) rfl) [some 14, some 15, some 16, some 17, some 18, some 19, some 20, some 21, none] [(0, .val (dM a0)), (3, .ref 3 [] true (dM (s3.1.set s3.2.toNat v9))), (4, .val (i64 s3.2))] rfl ?_ ?_
  · simp [hv8a, hv8b, hv8c, hv8d, hv10a, hv10b, hv10c, hv10d] <;> simp [ieq, ilt, ile]
  refine hK7 _ ?_
  -- region 4
  refine VW.wr tau_ok Sound.none [some 12, some 13, some 4] [(0, .val (dM a0)), (3, .ref 3 [] true (dM (s3.1.set s3.2.toNat v9))), (4, .val (i64 (w64 (s3.2 + 1))))] rfl ?_ ?_
  · simp <;> simp [ieq, ilt, ile]
  cases hx3o
  exact ⟨_, rfl, Fits.of rfl⟩

theorem s_l01In_ok {a0 : Int} {a1 : Int} {a2 : Int} {r : Bool} (h : s_l01In a0 a1 a2 = some r) :
    VCall Try.prog 171 [i64 a0, i64 a1, i64 a2] [.sc (.bool r)] := by
  unfold s_l01In at h
  refine VCall.enter Try.call171 Try.func171 rfl 15 Try.ntmps171 (by simp) [.tmp 6] rfl ?_
  show VW _ _ _ (mk [(0, .val (i64 a0)), (1, .val (i64 a1)), (2, .val (i64 a2))]) _
  -- region 0
  refine VW.ws tau_ok Sound.none [some 6] [(0, .val (i64 a0)), (1, .val (i64 a1)), (2, .val (i64 a2))] rfl ?_ ?_
  · simp <;> simp [ieq, ilt, ile]
  -- region 1
  obtain ⟨x2, hx2, h⟩ := bind_some h
  refine VW.cut [(6, .val (.bool x2))] ?_ fun hy => ?_
  rotate_left
  · clear h
    by_cases hp1 : a1 ≤ a0
    · rw [if_pos hp1] at hx2
      have hp1b : ile a1 a0 = true := by simpa [ieq, ilt, ile] using hp1
      have hp1s := hp1b
      try simp at hp1s
      cases hx2
      refine VW.ws tau_ok Sound.none [some 7, some 8, some 9, some 10, some 11, some 12, some 13, some 14, some 6] _ rfl ?_ hy
      simp [hp1b, hp1s] <;> simp [ieq, ilt, ile]
    · rw [if_neg hp1] at hx2
      have hp1b : ile a1 a0 = false := by simpa [ieq, ilt, ile] using hp1
      have hp1s := hp1b
      try simp at hp1s
      cases hx2
      refine VW.ws tau_ok Sound.none [some 7, some 8, some 9, some 10, some 11, some 12, some 13, some 14, some 6] _ rfl ?_ hy
      simp [hp1b, hp1s] <;> simp [ieq, ilt, ile]
  cases h
  refine VW.ret ?_
  simp [Post, PostM, PostC, PostC2, Nx, Bk]

theorem s_l13Is_ok {a0 : List (List Int)} {r : Bool} (h : s_l13Is a0 = some r) :
    VCall Try.prog 153 [dM a0] [.sc (.bool r)] := by
  unfold s_l13Is at h
  refine VCall.enter Try.call153 Try.func153 rfl 124 Try.ntmps153 (by simp) [.tmp 2] rfl ?_
  show VW _ _ _ (mk [(0, .val (dM a0))]) _
  -- region 0
  refine VW.ws tau_ok Sound.none [some 2] [(0, .val (dM a0))] rfl ?_ ?_
  · simp <;> simp [ieq, ilt, ile]
  -- region 1
  refine VW.ws tau_ok Sound.none [some 9, some 10, some 3] [(0, .val (dM a0)), (3, .val (i64 (a0.length : Int)))] rfl ?_ ?_
  · simp <;> simp [ieq, ilt, ile]
  refine VW.sqc fun K1 hK1 hCK1 => ?_
  -- region 2
  obtain ⟨v2, hv2, h⟩ := bind_some h
  refine VW.ws tau_ok (Sound.none.add 12 (s_l01In_ok hv2) rfl) [some 11, some 12, some 13] [(0, .val (dM a0)), (3, .val (i64 (a0.length : Int))), (13, .val (.bool (!v2)))] rfl ?_ ?_
  · simp <;> simp [ieq, ilt, ile]
  refine VW.cond rfl (fun hb3 => ?_) (fun hb3 => ?_)
  ·
    replace hb3 : v2 = false := by simpa [ieq, ilt, ile] using hb3
    rw [if_pos hb3] at h
    -- region 3
    refine VW.ws tau_ok Sound.none [some 2] [(2, .val (.bool false))] rfl ?_ ?_
    · simp <;> simp [ieq, ilt, ile]
    cases h
    refine VW.ret ?_
    simp [Post, PostM, PostC, PostC2, Nx, Bk]
  replace hb3 : ¬ (v2 = false) := by simpa [ieq, ilt, ile] using hb3
  rw [if_neg hb3] at h
  refine VW.skip ?_
  refine hK1 _ ?_
  refine VW.sqc fun K4 hK4 hCK4 => ?_
  -- region 4
  refine VW.ws tau_ok Sound.none [some 4] [(0, .val (dM a0)), (3, .val (i64 (a0.length : Int))), (4, .val (i64 0))] rfl ?_ ?_
  · simp <;> simp [ieq, ilt, ile]
  obtain ⟨x5, hx5, h⟩ := bind_some h
  refine VW.tlO (fun y7 => [(0, .val (dM a0)), (3, .val (i64 (a0.length : Int)))]) x5 (hCK4) ?_ ?_
  · clear hx5
    rintro y7 rfl
    dsimp only at h
    refine hK4 _ ?_
    refine VW.sqc fun K13 hK13 hCK13 => ?_
    -- region 9
    refine VW.ws tau_ok Sound.none [some 5] [(0, .val (dM a0)), (3, .val (i64 (a0.length : Int))), (5, .val (i64 0))] rfl ?_ ?_
    · simp <;> simp [ieq, ilt, ile]
    obtain ⟨x14, hx14, h⟩ := bind_some h
    refine VW.tlO (fun y16 => []) x14 (hCK13) ?_ ?_
    · clear hx14
      rintro y16 rfl
      dsimp only at h
      refine hK13 _ ?_
      -- region 22
      refine VW.ws tau_ok Sound.none [some 2] [(2, .val (.bool true))] rfl ?_ ?_
      · simp <;> simp [ieq, ilt, ile]
      cases h
      refine VW.ret ?_
      simp [Post, PostM, PostC, PostC2, Nx, Bk]
    refine VW.block ?_
    refine VW.loopF (s_l13Is_L1 a0) (fun s14 => [(0, .val (dM a0)), (3, .val (i64 (a0.length : Int))), (5, .val (i64 s14))]) hx14 (Fits.of rfl) ?_
    clear hx14
    intro s14 ox14 hx14o hx14b
    unfold s_l13Is_L1 at hx14o
    refine VW.sqc fun K17 hK17 hCK17 => ?_
    -- region 10
    refine VW.ws tau_ok Sound.none [some 26, some 27, some 28] [(0, .val (dM a0)), (3, .val (i64 (a0.length : Int))), (5, .val (i64 s14)), (28, .val (.bool (ilt s14 (a0.length : Int))))] rfl ?_ ?_
    · simp <;> simp [ieq, ilt, ile]
    refine VW.cond rfl (fun hb18 => ?_) (fun hb18 => ?_)
    rotate_left
    ·
      replace hb18 : ¬ (s14 < (a0.length : Int)) := by simpa [ieq, ilt, ile] using hb18
      rw [if_neg hb18] at hx14o
      refine VW.exit ?_
      cases hx14o
      have hq := hx14b _ rfl
      subst hq
      exact ⟨_, rfl, Fits.of rfl⟩
    replace hb18 : s14 < (a0.length : Int) := by simpa [ieq, ilt, ile] using hb18
    rw [if_pos hb18] at hx14o
    refine VW.skip ?_
    refine hK17 _ ?_
    refine VW.sqc fun K19 hK19 hCK19 => ?_
    refine VW.block ?_
    -- region 12
    obtain ⟨hc20, hx14o⟩ := chk_some hx14o
    have hc20s := hc20
    try simp at hc20s
    obtain ⟨hc21, hx14o⟩ := chk_some hx14o
    have hc21s := hc21
    try simp at hc21s
    refine VW.wdsE tau_ok Sound.none try_mixed [some 31, some 32, some 33, some 34, some 6, some 7] [(0, .val (dM a0)), (3, .val (i64 (a0.length : Int))), (5, .val (i64 s14)), (6, .ref 6 [] true (dB (List.replicate (a0.length : Int).toNat false))), (7, .ref 7 [] true (dB (List.replicate (a0.length : Int).toNat false)))] 4 [3] rfl (by kernel_rfl) (by kernel_rfl) (by rfl) (by
    intro i hi hE
    simp only [List.mem_cons, List.not_mem_nil, or_false] at hi
    rcases hi with rfl
    all_goals first | (simp [isEx] at hE; done) | simp [exS, hc20, hc20s, hc21, hc21s]) ?_ ?_
    · simp [hc20, hc20s, hc21, hc21s] <;> simp [ieq, ilt, ile]
    refine VW.sqc fun K22 hK22 hCK22 => ?_
    -- region 13
    refine VW.ws tau_ok Sound.none [some 8] [(0, .val (dM a0)), (3, .val (i64 (a0.length : Int))), (5, .val (i64 s14)), (6, .ref 6 [] true (dB (List.replicate (a0.length : Int).toNat false))), (7, .ref 7 [] true (dB (List.replicate (a0.length : Int).toNat false))), (8, .val (i64 0))] rfl ?_ ?_
    · simp <;> simp [ieq, ilt, ile]
    obtain ⟨x23, hx23, hx14o⟩ := bind_some hx14o
    refine VW.tlO (fun y25 => [(0, .val (dM a0)), (3, .val (i64 (a0.length : Int))), (5, .val (i64 s14))]) x23 (hCK22) ?_ ?_
    · clear hx23
      rintro y25 rfl
      dsimp only at hx14o
      refine hK22 _ ?_
      -- region 20
      obtain ⟨x54, hx54, hx14o⟩ := bind_some hx14o
      refine VW.cut [(0, .val (dM a0)), (3, .val (i64 (a0.length : Int))), (5, .val (i64 s14)), (123, .val (.bool x54))] ?_ fun hy => ?_
      rotate_left
      · clear hx14o
        obtain ⟨v49, hv49, hx54⟩ := bind_some hx54
        obtain ⟨hv49a, hv49b, hv49c, hv49d⟩ := idx_some hv49
        replace hv49b : 0 < a0.length := hv49b
        replace hv49c : a0[0]? = some v49 := hv49c
        replace hv49d : ∀ h, a0[0]'h = v49 := hv49d
        obtain ⟨v50, hv50, hx54⟩ := bind_some hx54
        obtain ⟨hv50a, hv50b, hv50c, hv50d⟩ := idx_some hv50
        by_cases hp51 : ¬ v50 = s14
        · rw [if_pos hp51] at hx54
          have hp51b : ieq v50 s14 = false := by simpa [ieq, ilt, ile] using hp51
          have hp51s := hp51b
          try simp at hp51s
          cases hx54
          refine VW.ws tau_ok Sound.none [some 106, some 107, some 108, some 109, some 110, some 111, some 112, some 113, some 114, some 115, some 116, some 117, some 118, some 119, some 120, some 121, some 122, some 123] _ rfl ?_ hy
          simp [hv49a, hv49b, hv49c, hv49d, hv50a, hv50b, hv50c, hv50d, hp51b, hp51s] <;> simp [ieq, ilt, ile]
        · rw [if_neg hp51] at hx54
          have hp51b : ieq v50 s14 = true := by simpa [ieq, ilt, ile] using hp51
          have hp51s := hp51b
          try simp at hp51s
          obtain ⟨v52, hv52, hx54⟩ := bind_some hx54
          obtain ⟨hv52a, hv52b, hv52c, hv52d⟩ := idx_some hv52
          obtain ⟨v53, hv53, hx54⟩ := bind_some hx54
          obtain ⟨hv53a, hv53b, hv53c, hv53d⟩ := idx_some hv53
          replace hv53b : 0 < v52.length := hv53b
          replace hv53c : v52[0]? = some v53 := hv53c
          replace hv53d : ∀ h, v52[0]'h = v53 := hv53d
          cases hx54
          refine VW.ws tau_ok Sound.none [some 106, some 107, some 108, some 109, some 110, some 111, some 112, some 113, some 114, some 115, some 116, some 117, some 118, some 119, some 120, some 121, some 122, some 123] _ rfl ?_ hy
          simp [hv49a, hv49b, hv49c, hv49d, hv50a, hv50b, hv50c, hv50d, hp51b, hp51s, hv52a, hv52b, hv52c, hv52d, hv53a, hv53b, hv53c, hv53d] <;> simp [ieq, ilt, ile]
      refine VW.cond rfl (fun hb55 => ?_) (fun hb55 => ?_)
      rotate_left
      ·
        replace hb55 : ¬ (x54 = true) := by simpa [ieq, ilt, ile] using hb55
        rw [if_neg hb55] at hx14o
        refine VW.skip ?_
        refine hK19 _ ?_
        -- region 11
        refine VW.wr tau_ok Sound.none [some 29, some 30, some 5] [(0, .val (dM a0)), (3, .val (i64 (a0.length : Int))), (5, .val (i64 (w64 (s14 + 1))))] rfl ?_ ?_
        · simp <;> simp [ieq, ilt, ile]
        cases hx14o
        exact ⟨_, rfl, Fits.of rfl⟩
      replace hb55 : x54 = true := by simpa [ieq, ilt, ile] using hb55
      rw [if_pos hb55] at hx14o
      -- region 21
      refine VW.ws tau_ok Sound.none [some 2] [(2, .val (.bool false))] rfl ?_ ?_
      · simp <;> simp [ieq, ilt, ile]
      cases hx14o
      have hq := hx14b _ rfl
      subst hq
      dsimp only at h
      cases h
      refine VW.ret ?_
      simp [Post, PostM, PostC, PostC2, Nx, Bk]
    refine VW.block ?_
    refine VW.loopF (s_l13Is_L2 a0 s14) (fun s23 => [(0, .val (dM a0)), (3, .val (i64 (a0.length : Int))), (5, .val (i64 s14)), (6, .ref 6 [] true (dB s23.1)), (7, .ref 7 [] true (dB s23.2.1)), (8, .val (i64 s23.2.2))]) hx23 (Fits.of rfl) ?_
    clear hx23
    intro s23 ox23 hx23o hx23b
    unfold s_l13Is_L2 at hx23o
    refine VW.sqc fun K26 hK26 hCK26 => ?_
    -- region 14
    refine VW.ws tau_ok Sound.none [some 35, some 36, some 37] [(0, .val (dM a0)), (3, .val (i64 (a0.length : Int))), (5, .val (i64 s14)), (6, .ref 6 [] true (dB s23.1)), (7, .ref 7 [] true (dB s23.2.1)), (8, .val (i64 s23.2.2)), (37, .val (.bool (ilt s23.2.2 (a0.length : Int))))] rfl ?_ ?_
    · simp <;> simp [ieq, ilt, ile]
    refine VW.cond rfl (fun hb27 => ?_) (fun hb27 => ?_)
    rotate_left
    ·
      replace hb27 : ¬ (s23.2.2 < (a0.length : Int)) := by simpa [ieq, ilt, ile] using hb27
      rw [if_neg hb27] at hx23o
      refine VW.exit ?_
      cases hx23o
      have hq := hx23b _ rfl
      subst hq
      exact ⟨_, rfl, Fits.of rfl⟩
    replace hb27 : s23.2.2 < (a0.length : Int) := by simpa [ieq, ilt, ile] using hb27
    rw [if_pos hb27] at hx23o
    refine VW.skip ?_
    refine hK26 _ ?_
    refine VW.sqc fun K28 hK28 hCK28 => ?_
    refine VW.block ?_
    refine VW.sqc fun K29 hK29 hCK29 => ?_
    -- region 16
    obtain ⟨x41, hx41, hx23o⟩ := bind_some hx23o
    refine VW.cut [(0, .val (dM a0)), (3, .val (i64 (a0.length : Int))), (5, .val (i64 s14)), (6, .ref 6 [] true (dB s23.1)), (7, .ref 7 [] true (dB s23.2.1)), (8, .val (i64 s23.2.2)), (87, .val (.bool x41))] ?_ fun hy => ?_
    rotate_left
    · clear hx23o
      obtain ⟨v30, hv30, hx41⟩ := bind_some hx41
      obtain ⟨hv30a, hv30b, hv30c, hv30d⟩ := idx_some hv30
      obtain ⟨v31, hv31, hx41⟩ := bind_some hx41
      obtain ⟨hv31a, hv31b, hv31c, hv31d⟩ := idx_some hv31
      obtain ⟨v32, hv32, hx41⟩ := bind_some hx41
      by_cases hp33 : v32 = false
      · rw [if_pos hp33] at hx41
        have hp33b : v32 = false := by simpa [ieq, ilt, ile] using hp33
        have hp33s := hp33b
        try simp at hp33s
        cases hx41
        refine VW.ws tau_ok (Sound.none.add 49 (s_l01In_ok hv32) rfl) [some 40, some 41, some 42, some 43, some 44, some 45, some 46, some 47, some 48, some 49, some 50, some 51, some 52, some 53, some 54, some 55, some 56, some 57, some 58, some 59, some 60, some 61, some 62, some 63, some 64, some 65, some 66, some 67, some 68, some 69, some 70, some 71, some 72, some 73, some 74, some 75, some 76, some 77, some 78, some 79, some 80, some 81, some 82, some 83, some 84, some 85, some 86, some 87] _ rfl ?_ hy
        simp [hv30a, hv30b, hv30c, hv30d, hv31a, hv31b, hv31c, hv31d, hp33b, hp33s] <;> simp [ieq, ilt, ile]
      · rw [if_neg hp33] at hx41
        have hp33b : v32 = true := by simpa [ieq, ilt, ile] using hp33
        have hp33s := hp33b
        try simp at hp33s
        obtain ⟨v34, hv34, hx41⟩ := bind_some hx41
        obtain ⟨hv34a, hv34b, hv34c, hv34d⟩ := idx_some hv34
        obtain ⟨v35, hv35, hx41⟩ := bind_some hx41
        obtain ⟨hv35a, hv35b, hv35c, hv35d⟩ := idx_some hv35
        obtain ⟨v36, hv36, hx41⟩ := bind_some hx41
        by_cases hp37 : v36 = false
        · rw [if_pos hp37] at hx41
          have hp37b : v36 = false := by simpa [ieq, ilt, ile] using hp37
          have hp37s := hp37b
          try simp at hp37s
          cases hx41
          refine VW.ws tau_ok ((Sound.none.add 49 (s_l01In_ok hv32) rfl).add 61 (s_l01In_ok hv36) rfl) [some 40, some 41, some 42, some 43, some 44, some 45, some 46, some 47, some 48, some 49, some 50, some 51, some 52, some 53, some 54, some 55, some 56, some 57, some 58, some 59, some 60, some 61, some 62, some 63, some 64, some 65, some 66, some 67, some 68, some 69, some 70, some 71, some 72, some 73, some 74, some 75, some 76, some 77, some 78, some 79, some 80, some 81, some 82, some 83, some 84, some 85, some 86, some 87] _ rfl ?_ hy
          simp [hv30a, hv30b, hv30c, hv30d, hv31a, hv31b, hv31c, hv31d, hp33b, hp33s, hv34a, hv34b, hv34c, hv34d, hv35a, hv35b, hv35c, hv35d, hp37b, hp37s] <;> simp [ieq, ilt, ile]
        · rw [if_neg hp37] at hx41
          have hp37b : v36 = true := by simpa [ieq, ilt, ile] using hp37
          have hp37s := hp37b
          try simp at hp37s
          obtain ⟨v38, hv38, hx41⟩ := bind_some hx41
          obtain ⟨hv38a, hv38b, hv38c, hv38d⟩ := idx_some hv38
          by_cases hp39 : v38 = true
          · rw [if_pos hp39] at hx41
            have hp39b : v38 = true := by simpa [ieq, ilt, ile] using hp39
            have hp39s := hp39b
            try simp at hp39s
            cases hx41
            refine VW.ws tau_ok ((Sound.none.add 49 (s_l01In_ok hv32) rfl).add 61 (s_l01In_ok hv36) rfl) [some 40, some 41, some 42, some 43, some 44, some 45, some 46, some 47, some 48, some 49, some 50, some 51, some 52, some 53, some 54, some 55, some 56, some 57, some 58, some 59, some 60, some 61, some 62, some 63, some 64, some 65, some 66, some 67, some 68, some 69, some 70, some 71, some 72, some 73, some 74, some 75, some 76, some 77, some 78, some 79, some 80, some 81, some 82, some 83, some 84, some 85, some 86, some 87] _ rfl ?_ hy
            simp [hv30a, hv30b, hv30c, hv30d, hv31a, hv31b, hv31c, hv31d, hp33b, hp33s, hv34a, hv34b, hv34c, hv34d, hv35a, hv35b, hv35c, hv35d, hp37b, hp37s, hv38a, hv38b, hv38c, hv38d, hp39b, hp39s] <;> simp [ieq, ilt, ile]
          · rw [if_neg hp39] at hx41
            have hp39b : v38 = false := by simpa [ieq, ilt, ile] using hp39
            have hp39s := hp39b
            try simp at hp39s
            obtain ⟨v40, hv40, hx41⟩ := bind_some hx41
            obtain ⟨hv40a, hv40b, hv40c, hv40d⟩ := idx_some hv40
            cases hx41
            refine VW.ws tau_ok ((Sound.none.add 49 (s_l01In_ok hv32) rfl).add 61 (s_l01In_ok hv36) rfl) [some 40, some 41, some 42, some 43, some 44, some 45, some 46, some 47, some 48, some 49, some 50, some 51, some 52, some 53, some 54, some 55, some 56, some 57, some 58, some 59, some 60, some 61, some 62, some 63, some 64, some 65, some 66, some 67, some 68, some 69, some 70, some 71, some 72, some 73, some 74, some 75, some 76, some 77, some 78, some 79, some 80, some 81, some 82, some 83, some 84, some 85, some 86, some 87] _ rfl ?_ hy
            simp [hv30a, hv30b, hv30c, hv30d, hv31a, hv31b, hv31c, hv31d, hp33b, hp33s, hv34a, hv34b, hv34c, hv34d, hv35a, hv35b, hv35c, hv35d, hp37b, hp37s, hv38a, hv38b, hv38c, hv38d, hp39b, hp39s, hv40a, hv40b, hv40c, hv40d] <;> simp [ieq, ilt, ile]
    refine VW.cond rfl (fun hb42 => ?_) (fun hb42 => ?_)
    ·
      replace hb42 : x41 = true := by simpa [ieq, ilt, ile] using hb42
      rw [if_pos hb42] at hx23o
      -- region 17
      refine VW.ws tau_ok Sound.none [some 2] [(2, .val (.bool false))] rfl ?_ ?_
      · simp <;> simp [ieq, ilt, ile]
      cases hx23o
      have hq := hx23b _ rfl
      subst hq
      dsimp only at hx14o
      cases hx14o
      have hq := hx14b _ rfl
      subst hq
      dsimp only at h
      cases h
      refine VW.ret ?_
      simp [Post, PostM, PostC, PostC2, Nx, Bk]
    replace hb42 : ¬ (x41 = true) := by simpa [ieq, ilt, ile] using hb42
    rw [if_neg hb42] at hx23o
    refine VW.skip ?_
    refine hK29 _ ?_
    -- region 18
    obtain ⟨v43, hv43, hx23o⟩ := bind_some hx23o
    obtain ⟨hv43a, hv43b, hv43c, hv43d⟩ := idx_some hv43
    obtain ⟨v44, hv44, hx23o⟩ := bind_some hx23o
    obtain ⟨hv44a, hv44b, hv44c, hv44d⟩ := idx_some hv44
    obtain ⟨v45, hv45, hx23o⟩ := bind_some hx23o
    obtain ⟨hv45a, hv45b, hv45c, hv45d⟩ := idx_some hv45
    refine VW.ws tau_ok Sound.none [some 88, some 89, some 90, some 91, some 92, some 93, some 94, some 95, some 96, none] [(0, .val (dM a0)), (3, .val (i64 (a0.length : Int))), (5, .val (i64 s14)), (6, .ref 6 [] true (dB (s23.1.set v44.toNat true))), (7, .ref 7 [] true (dB s23.2.1)), (8, .val (i64 s23.2.2))] rfl ?_ ?_
    · simp [hv43a, hv43b, hv43c, hv43d, hv44a, hv44b, hv44c, hv44d, hv45a, hv45b, hv45c, hv45d] <;> simp [ieq, ilt, ile]
    -- region 19
    obtain ⟨v46, hv46, hx23o⟩ := bind_some hx23o
    obtain ⟨hv46a, hv46b, hv46c, hv46d⟩ := idx_some hv46
    obtain ⟨v47, hv47, hx23o⟩ := bind_some hx23o
    obtain ⟨hv47a, hv47b, hv47c, hv47d⟩ := idx_some hv47
    obtain ⟨v48, hv48, hx23o⟩ := bind_some hx23o
    obtain ⟨hv48a, hv48b, hv48c, hv48d⟩ := idx_some hv48
    refine VW.wr tau_ok Sound.none [some 97, some 98, some 99, some 100, some 101, some 102, some 103, some 104, some 105, none] [(0, .val (dM a0)), (3, .val (i64 (a0.length : Int))), (5, .val (i64 s14)), (6, .ref 6 [] true (dB (s23.1.set v44.toNat true))), (7, .ref 7 [] true (dB (s23.2.1.set v47.toNat true))), (8, .val (i64 s23.2.2))] rfl ?_ ?_
    · simp [hv46a, hv46b, hv46c, hv46d, hv47a, hv47b, hv47c, hv47d, hv48a, hv48b, hv48c, hv48d] <;> simp [ieq, ilt, ile]
    refine hK28 _ ?_
    -- region 15
    refine VW.wr tau_ok Sound.none [some 38, some 39, some 8] [(0, .val (dM a0)), (3, .val (i64 (a0.length : Int))), (5, .val (i64 s14)), (6, .ref 6 [] true (dB (s23.1.set v44.toNat true))), (7, .ref 7 [] true (dB (s23.2.1.set v47.toNat true))), (8, .val (i64 (w64 (s23.2.2 + 1))))] rfl ?_ ?_
    · simp <;> simp [ieq, ilt, ile]
    cases hx23o
    exact ⟨_, rfl, Fits.of rfl⟩
  refine VW.block ?_
  refine VW.loopF (s_l13Is_L0 a0) (fun s5 => [(0, .val (dM a0)), (3, .val (i64 (a0.length : Int))), (4, .val (i64 s5))]) hx5 (Fits.of rfl) ?_
  clear hx5
  intro s5 ox5 hx5o hx5b
  unfold s_l13Is_L0 at hx5o
  refine VW.sqc fun K8 hK8 hCK8 => ?_
  -- region 5
  refine VW.ws tau_ok Sound.none [some 14, some 15, some 16] [(0, .val (dM a0)), (3, .val (i64 (a0.length : Int))), (4, .val (i64 s5)), (16, .val (.bool (ilt s5 (a0.length : Int))))] rfl ?_ ?_
  · simp <;> simp [ieq, ilt, ile]
  refine VW.cond rfl (fun hb9 => ?_) (fun hb9 => ?_)
  rotate_left
  ·
    replace hb9 : ¬ (s5 < (a0.length : Int)) := by simpa [ieq, ilt, ile] using hb9
    rw [if_neg hb9] at hx5o
    refine VW.exit ?_
    cases hx5o
    have hq := hx5b _ rfl
    subst hq
    exact ⟨_, rfl, Fits.of rfl⟩
  replace hb9 : s5 < (a0.length : Int) := by simpa [ieq, ilt, ile] using hb9
  rw [if_pos hb9] at hx5o
  refine VW.skip ?_
  refine hK8 _ ?_
  refine VW.sqc fun K10 hK10 hCK10 => ?_
  refine VW.block ?_
  -- region 7
  obtain ⟨v11, hv11, hx5o⟩ := bind_some hx5o
  obtain ⟨hv11a, hv11b, hv11c, hv11d⟩ := idx_some hv11
  refine VW.ws tau_ok Sound.none [some 19, some 20, some 21, some 22, some 23, some 24, some 25] [(0, .val (dM a0)), (3, .val (i64 (a0.length : Int))), (4, .val (i64 s5)), (25, .val (.bool (!(ieq (v11.length : Int) (a0.length : Int)))))] rfl ?_ ?_
  · simp [hv11a, hv11b, hv11c, hv11d] <;> simp [ieq, ilt, ile]
  refine VW.cond rfl (fun hb12 => ?_) (fun hb12 => ?_)
  rotate_left
  ·
    replace hb12 : ¬ (¬ (v11.length : Int) = (a0.length : Int)) := by simpa [ieq, ilt, ile] using hb12
    rw [if_neg hb12] at hx5o
    refine VW.skip ?_
    refine hK10 _ ?_
    -- region 6
    refine VW.wr tau_ok Sound.none [some 17, some 18, some 4] [(0, .val (dM a0)), (3, .val (i64 (a0.length : Int))), (4, .val (i64 (w64 (s5 + 1))))] rfl ?_ ?_
    · simp <;> simp [ieq, ilt, ile]
    cases hx5o
    exact ⟨_, rfl, Fits.of rfl⟩
  replace hb12 : ¬ (v11.length : Int) = (a0.length : Int) := by simpa [ieq, ilt, ile] using hb12
  rw [if_pos hb12] at hx5o
  -- region 8
  refine VW.ws tau_ok Sound.none [some 2] [(2, .val (.bool false))] rfl ?_ ?_
  · simp <;> simp [ieq, ilt, ile]
  cases hx5o
  have hq := hx5b _ rfl
  subst hq
  dsimp only at h
  cases h
  refine VW.ret ?_
  simp [Post, PostM, PostC, PostC2, Nx, Bk]

theorem s_l13Associates_ok {a0 : List (List Int)} {a1 : Int} {a2 : Int} {a3 : Int} {r : Bool} (h : s_l13Associates a0 a1 a2 a3 = some r) :
    VCall Try.prog 173 [dM a0, i64 a1, i64 a2, i64 a3] [.sc (.bool r)] := by
  unfold s_l13Associates at h
  refine VCall.enter Try.call173 Try.func173 rfl 36 Try.ntmps173 (by simp) [.tmp 8] rfl ?_
  show VW _ _ _ (mk [(0, .val (dM a0)), (1, .val (i64 a1)), (2, .val (i64 a2)), (3, .val (i64 a3))]) _
  -- region 0
  refine VW.ws tau_ok Sound.none [some 8] [(0, .val (dM a0)), (1, .val (i64 a1)), (2, .val (i64 a2)), (3, .val (i64 a3))] rfl ?_ ?_
  · simp <;> simp [ieq, ilt, ile]
  -- region 1
  obtain ⟨v1, hv1, h⟩ := bind_some h
  obtain ⟨hv1a, hv1b, hv1c, hv1d⟩ := idx_some hv1
  obtain ⟨v2, hv2, h⟩ := bind_some h
  obtain ⟨hv2a, hv2b, hv2c, hv2d⟩ := idx_some hv2
  obtain ⟨v3, hv3, h⟩ := bind_some h
  obtain ⟨hv3a, hv3b, hv3c, hv3d⟩ := idx_some hv3
  obtain ⟨v4, hv4, h⟩ := bind_some h
  obtain ⟨hv4a, hv4b, hv4c, hv4d⟩ := idx_some hv4
  obtain ⟨v5, hv5, h⟩ := bind_some h
  obtain ⟨hv5a, hv5b, hv5c, hv5d⟩ := idx_some hv5
  obtain ⟨v6, hv6, h⟩ := bind_some h
  obtain ⟨hv6a, hv6b, hv6c, hv6d⟩ := idx_some hv6
  obtain ⟨v7, hv7, h⟩ := bind_some h
  obtain ⟨hv7a, hv7b, hv7c, hv7d⟩ := idx_some hv7
  refine VW.wds tau_ok Sound.none try_mixed [some 9, some 10, some 11, some 12, some 13, some 14, some 15, some 16, some 17, some 18, some 19, some 20, some 21, some 22, some 23, some 24, some 25, some 26, some 27, some 28, some 29, some 30, some 31, some 32, some 33, some 34, some 35, some 8] [(8, .val (.bool (ieq v4 v7)))] 28 rfl (by kernel_rfl) (by rfl) ?_ ?_
  · simp [hv1a, hv1b, hv1c, hv1d, hv2a, hv2b, hv2c, hv2d, hv3a, hv3b, hv3c, hv3d, hv4a, hv4b, hv4c, hv4d, hv5a, hv5b, hv5c, hv5d, hv6a, hv6b, hv6c, hv6d, hv7a, hv7b, hv7c, hv7d] <;> simp [ieq, ilt, ile]
  cases h
  refine VW.ret ?_
  simp [Post, PostM, PostC, PostC2, Nx, Bk]

theorem s_l13Nucleus_ok {a0 : List (List Int)} {a1 : Bool} {r : List Int} (h : s_l13Nucleus a0 a1 = some r) :
    VCall Try.prog 160 [dM a0, .bool a1] [.own true (dI r)] := by
  unfold s_l13Nucleus at h
  refine VCall.enter Try.call160 Try.func160 rfl 79 Try.ntmps160 (by simp) [.tmp 4] rfl ?_
  show VW _ _ _ (mk [(0, .val (dM a0)), (1, .val (.bool a1))]) _
  -- region 0
  refine VW.ws tau_ok Sound.none [some 4] [(0, .val (dM a0)), (1, .val (.bool a1))] rfl ?_ ?_
  · simp <;> simp [ieq, ilt, ile]
  -- region 1
  refine VW.ws tau_ok Sound.none [some 11, some 12, some 13, some 5, some 6] [(0, .val (dM a0)), (1, .val (.bool a1)), (5, .val (i64 (a0.length : Int))), (6, .ref 6 [] true (dI []))] rfl ?_ ?_
  · simp <;> simp [ieq, ilt, ile]
  refine VW.sqc fun K1 hK1 hCK1 => ?_
  -- region 2
  refine VW.ws tau_ok Sound.none [some 7] [(0, .val (dM a0)), (1, .val (.bool a1)), (5, .val (i64 (a0.length : Int))), (6, .ref 6 [] true (dI [])), (7, .val (i64 0))] rfl ?_ ?_
  · simp <;> simp [ieq, ilt, ile]
  obtain ⟨x2, hx2, h⟩ := bind_some h
  refine VW.tlE [(6, .ref 6 [] true (dI x2))] (hCK1) ?_ ?_
  · clear hx2
    refine hK1 _ ?_
    -- region 16
    refine VW.ws tau_ok Sound.none [some 78, some 4] [(4, .ref 4 [] true (dI x2))] rfl ?_ ?_
    · simp <;> simp [ieq, ilt, ile]
    cases h
    refine VW.ret ?_
    simp [Post, PostM, PostC, PostC2, Nx, Bk]
  refine VW.block ?_
  refine VW.loopF (s_l13Nucleus_L0 a0 a1) (fun s2 => [(0, .val (dM a0)), (1, .val (.bool a1)), (5, .val (i64 (a0.length : Int))), (6, .ref 6 [] true (dI s2.1)), (7, .val (i64 s2.2))]) hx2 (Fits.of rfl) ?_
  clear hx2
  intro s2 ox2 hx2o hx2b
  unfold s_l13Nucleus_L0 at hx2o
  refine VW.sqc fun K4 hK4 hCK4 => ?_
  -- region 3
  refine VW.ws tau_ok Sound.none [some 14, some 15, some 16] [(0, .val (dM a0)), (1, .val (.bool a1)), (5, .val (i64 (a0.length : Int))), (6, .ref 6 [] true (dI s2.1)), (7, .val (i64 s2.2)), (16, .val (.bool (ilt s2.2 (a0.length : Int))))] rfl ?_ ?_
  · simp <;> simp [ieq, ilt, ile]
  refine VW.cond rfl (fun hb5 => ?_) (fun hb5 => ?_)
  rotate_left
  ·
    replace hb5 : ¬ (s2.2 < (a0.length : Int)) := by simpa [ieq, ilt, ile] using hb5
    rw [if_neg hb5] at hx2o
    refine VW.exit ?_
    cases hx2o
    have hq := hx2b _ rfl
    subst hq
    exact Fits.of rfl
  replace hb5 : s2.2 < (a0.length : Int) := by simpa [ieq, ilt, ile] using hb5
  rw [if_pos hb5] at hx2o
  refine VW.skip ?_
  refine hK4 _ ?_
  obtain ⟨x6, hx6, hx2o⟩ := bind_some hx2o
  refine VW.sqE [(0, .val (dM a0)), (1, .val (.bool a1)), (5, .val (i64 (a0.length : Int))), (6, .ref 6 [] true (dI x6)), (7, .val (i64 s2.2))] ?_ ?_
  · clear hx6
    -- region 4
    refine VW.wr tau_ok Sound.none [some 17, some 18, some 7] [(0, .val (dM a0)), (1, .val (.bool a1)), (5, .val (i64 (a0.length : Int))), (6, .ref 6 [] true (dI x6)), (7, .val (i64 (w64 (s2.2 + 1))))] rfl ?_ ?_
    · simp <;> simp [ieq, ilt, ile]
    cases hx2o
    exact ⟨_, rfl, Fits.of rfl⟩
  refine VW.block ?_
  -- region 5
  refine VW.ws tau_ok Sound.none [some 8] [(0, .val (dM a0)), (1, .val (.bool a1)), (5, .val (i64 (a0.length : Int))), (6, .ref 6 [] true (dI s2.1)), (7, .val (i64 s2.2)), (8, .val (.bool true))] rfl ?_ ?_
  · simp <;> simp [ieq, ilt, ile]
  refine VW.sqc fun K8 hK8 hCK8 => ?_
  -- region 6
  refine VW.ws tau_ok Sound.none [some 9] [(0, .val (dM a0)), (1, .val (.bool a1)), (5, .val (i64 (a0.length : Int))), (6, .ref 6 [] true (dI s2.1)), (7, .val (i64 s2.2)), (8, .val (.bool true)), (9, .val (i64 0))] rfl ?_ ?_
  · simp <;> simp [ieq, ilt, ile]
  obtain ⟨x9, hx9, hx6⟩ := bind_some hx6
  refine VW.tlE [(0, .val (dM a0)), (1, .val (.bool a1)), (5, .val (i64 (a0.length : Int))), (6, .ref 6 [] true (dI s2.1)), (7, .val (i64 s2.2)), (8, .val (.bool x9))] (hCK8) ?_ ?_
  · clear hx9
    refine hK8 _ ?_
    -- region 14
    refine VW.ws tau_ok Sound.none [some 73] [(0, .val (dM a0)), (1, .val (.bool a1)), (5, .val (i64 (a0.length : Int))), (6, .ref 6 [] true (dI s2.1)), (7, .val (i64 s2.2)), (73, .val (.bool x9))] rfl ?_ ?_
    · simp <;> simp [ieq, ilt, ile]
    refine VW.cond rfl (fun hb35 => ?_) (fun hb35 => ?_)
    rotate_left
    ·
      replace hb35 : ¬ (x9 = true) := by simpa [ieq, ilt, ile] using hb35
      rw [if_neg hb35] at hx6
      refine VW.skip ?_
      cases hx6
      exact Fits.of rfl
    replace hb35 : x9 = true := by simpa [ieq, ilt, ile] using hb35
    rw [if_pos hb35] at hx6
    -- region 15
    obtain ⟨hc36, hx6⟩ := chk_some hx6
    have hc36s := hc36
    try simp at hc36s
    refine VW.wr tau_ok Sound.none [some 74, some 75, some 76, some 77, some 6] [(0, .val (dM a0)), (1, .val (.bool a1)), (5, .val (i64 (a0.length : Int))), (6, .ref 6 [] true (dI (s2.1 ++ [s2.2]))), (7, .val (i64 s2.2))] rfl ?_ ?_
    · simp [hc36, hc36s] <;> simp [ieq, ilt, ile]
    cases hx6
    exact Fits.of rfl
  refine VW.block ?_
  refine VW.loopF (s_l13Nucleus_L1 a0 a1 s2) (fun s9 => [(0, .val (dM a0)), (1, .val (.bool a1)), (5, .val (i64 (a0.length : Int))), (6, .ref 6 [] true (dI s2.1)), (7, .val (i64 s2.2)), (8, .val (.bool s9.1)), (9, .val (i64 s9.2))]) hx9 (Fits.of rfl) ?_
  clear hx9
  intro s9 ox9 hx9o hx9b
  unfold s_l13Nucleus_L1 at hx9o
  refine VW.sqc fun K11 hK11 hCK11 => ?_
  -- region 7
  obtain ⟨x13, hx13, hx9o⟩ := bind_some hx9o
  refine VW.cut [(0, .val (dM a0)), (1, .val (.bool a1)), (5, .val (i64 (a0.length : Int))), (6, .ref 6 [] true (dI s2.1)), (7, .val (i64 s2.2)), (8, .val (.bool s9.1)), (9, .val (i64 s9.2)), (24, .val (.bool x13))] ?_ fun hy => ?_
  rotate_left
  · clear hx9o
    by_cases hp12 : s9.2 < (a0.length : Int)
    · rw [if_pos hp12] at hx13
      have hp12b : ilt s9.2 (a0.length : Int) = true := by simpa [ieq, ilt, ile] using hp12
      have hp12s := hp12b
      try simp at hp12s
      cases hx13
      refine VW.ws tau_ok Sound.none [some 19, some 20, some 21, some 22, some 23, some 24] _ rfl ?_ hy
      simp [hp12b, hp12s] <;> simp [ieq, ilt, ile]
    · rw [if_neg hp12] at hx13
      have hp12b : ilt s9.2 (a0.length : Int) = false := by simpa [ieq, ilt, ile] using hp12
      have hp12s := hp12b
      try simp at hp12s
      cases hx13
      refine VW.ws tau_ok Sound.none [some 19, some 20, some 21, some 22, some 23, some 24] _ rfl ?_ hy
      simp [hp12b, hp12s] <;> simp [ieq, ilt, ile]
  refine VW.cond rfl (fun hb14 => ?_) (fun hb14 => ?_)
  rotate_left
  ·
    replace hb14 : ¬ (x13 = true) := by simpa [ieq, ilt, ile] using hb14
    rw [if_neg hb14] at hx9o
    refine VW.exit ?_
    cases hx9o
    have hq := hx9b _ rfl
    subst hq
    exact Fits.of rfl
  replace hb14 : x13 = true := by simpa [ieq, ilt, ile] using hb14
  rw [if_pos hb14] at hx9o
  refine VW.skip ?_
  refine hK11 _ ?_
  refine VW.sqc fun K15 hK15 hCK15 => ?_
  refine VW.block ?_
  -- region 9
  obtain ⟨x21, hx21, hx9o⟩ := bind_some hx9o
  refine VW.cut [(0, .val (dM a0)), (1, .val (.bool a1)), (5, .val (i64 (a0.length : Int))), (6, .ref 6 [] true (dI s2.1)), (7, .val (i64 s2.2)), (8, .val (.bool x21)), (9, .val (i64 s9.2))] ?_ fun hy => ?_
  rotate_left
  · clear hx9o
    by_cases hp16 : a1 = false
    · rw [if_pos hp16] at hx21
      have hp16b : a1 = false := by simpa [ieq, ilt, ile] using hp16
      have hp16s := hp16b
      try simp at hp16s
      cases hx21
      refine VW.wds tau_ok Sound.none try_mixed [some 27, some 28, some 29, some 30, some 31, some 32, some 33, some 34, some 35, some 36, some 37, some 38, some 39, some 40, some 41, some 42, some 43, some 44, some 45, some 8] _ 20 rfl (by kernel_rfl) (by rfl) ?_ hy
      simp [hp16b, hp16s] <;> simp [ieq, ilt, ile]
    · rw [if_neg hp16] at hx21
      have hp16b : a1 = true := by simpa [ieq, ilt, ile] using hp16
      have hp16s := hp16b
      try simp at hp16s
      obtain ⟨v17, hv17, hx21⟩ := bind_some hx21
      obtain ⟨hv17a, hv17b, hv17c, hv17d⟩ := idx_some hv17
      obtain ⟨v18, hv18, hx21⟩ := bind_some hx21
      obtain ⟨hv18a, hv18b, hv18c, hv18d⟩ := idx_some hv18
      obtain ⟨v19, hv19, hx21⟩ := bind_some hx21
      obtain ⟨hv19a, hv19b, hv19c, hv19d⟩ := idx_some hv19
      obtain ⟨v20, hv20, hx21⟩ := bind_some hx21
      obtain ⟨hv20a, hv20b, hv20c, hv20d⟩ := idx_some hv20
      cases hx21
      refine VW.wds tau_ok Sound.none try_mixed [some 27, some 28, some 29, some 30, some 31, some 32, some 33, some 34, some 35, some 36, some 37, some 38, some 39, some 40, some 41, some 42, some 43, some 44, some 45, some 8] _ 20 rfl (by kernel_rfl) (by rfl) ?_ hy
      simp [hp16b, hp16s, hv17a, hv17b, hv17c, hv17d, hv18a, hv18b, hv18c, hv18d, hv19a, hv19b, hv19c, hv19d, hv20a, hv20b, hv20c, hv20d] <;> simp [ieq, ilt, ile]
  -- region 10
  refine VW.ws tau_ok Sound.none [some 10] [(0, .val (dM a0)), (1, .val (.bool a1)), (5, .val (i64 (a0.length : Int))), (6, .ref 6 [] true (dI s2.1)), (7, .val (i64 s2.2)), (8, .val (.bool x21)), (9, .val (i64 s9.2)), (10, .val (i64 0))] rfl ?_ ?_
  · simp <;> simp [ieq, ilt, ile]
  obtain ⟨x22, hx22, hx9o⟩ := bind_some hx9o
  refine VW.tlE [(0, .val (dM a0)), (1, .val (.bool a1)), (5, .val (i64 (a0.length : Int))), (6, .ref 6 [] true (dI s2.1)), (7, .val (i64 s2.2)), (8, .val (.bool x22)), (9, .val (i64 s9.2))] (hCK15) ?_ ?_
  · clear hx22
    refine hK15 _ ?_
    -- region 8
    refine VW.wr tau_ok Sound.none [some 25, some 26, some 9] [(0, .val (dM a0)), (1, .val (.bool a1)), (5, .val (i64 (a0.length : Int))), (6, .ref 6 [] true (dI s2.1)), (7, .val (i64 s2.2)), (8, .val (.bool x22)), (9, .val (i64 (w64 (s9.2 + 1))))] rfl ?_ ?_
    · simp <;> simp [ieq, ilt, ile]
    cases hx9o
    exact ⟨_, rfl, Fits.of rfl⟩
  refine VW.block ?_
  refine VW.loopF (s_l13Nucleus_L2 a0 s2 s9) (fun s22 => [(0, .val (dM a0)), (1, .val (.bool a1)), (5, .val (i64 (a0.length : Int))), (6, .ref 6 [] true (dI s2.1)), (7, .val (i64 s2.2)), (8, .val (.bool s22.1)), (9, .val (i64 s9.2)), (10, .val (i64 s22.2))]) hx22 (Fits.of rfl) ?_
  clear hx22
  intro s22 ox22 hx22o hx22b
  unfold s_l13Nucleus_L2 at hx22o
  refine VW.sqc fun K24 hK24 hCK24 => ?_
  -- region 11
  obtain ⟨x26, hx26, hx22o⟩ := bind_some hx22o
  refine VW.cut [(0, .val (dM a0)), (1, .val (.bool a1)), (5, .val (i64 (a0.length : Int))), (6, .ref 6 [] true (dI s2.1)), (7, .val (i64 s2.2)), (8, .val (.bool s22.1)), (9, .val (i64 s9.2)), (10, .val (i64 s22.2)), (51, .val (.bool x26))] ?_ fun hy => ?_
  rotate_left
  · clear hx22o
    by_cases hp25 : s22.2 < (a0.length : Int)
    · rw [if_pos hp25] at hx26
      have hp25b : ilt s22.2 (a0.length : Int) = true := by simpa [ieq, ilt, ile] using hp25
      have hp25s := hp25b
      try simp at hp25s
      cases hx26
      refine VW.ws tau_ok Sound.none [some 46, some 47, some 48, some 49, some 50, some 51] _ rfl ?_ hy
      simp [hp25b, hp25s] <;> simp [ieq, ilt, ile]
    · rw [if_neg hp25] at hx26
      have hp25b : ilt s22.2 (a0.length : Int) = false := by simpa [ieq, ilt, ile] using hp25
      have hp25s := hp25b
      try simp at hp25s
      cases hx26
      refine VW.ws tau_ok Sound.none [some 46, some 47, some 48, some 49, some 50, some 51] _ rfl ?_ hy
      simp [hp25b, hp25s] <;> simp [ieq, ilt, ile]
  refine VW.cond rfl (fun hb27 => ?_) (fun hb27 => ?_)
  rotate_left
  ·
    replace hb27 : ¬ (x26 = true) := by simpa [ieq, ilt, ile] using hb27
    rw [if_neg hb27] at hx22o
    refine VW.exit ?_
    cases hx22o
    have hq := hx22b _ rfl
    subst hq
    exact Fits.of rfl
  replace hb27 : x26 = true := by simpa [ieq, ilt, ile] using hb27
  rw [if_pos hb27] at hx22o
  refine VW.skip ?_
  refine hK24 _ ?_
  refine VW.sqc fun K28 hK28 hCK28 => ?_
  refine VW.block ?_
  -- region 13
  obtain ⟨x34, hx34, hx22o⟩ := bind_some hx22o
  refine VW.cutr [(0, .val (dM a0)), (1, .val (.bool a1)), (5, .val (i64 (a0.length : Int))), (6, .ref 6 [] true (dI s2.1)), (7, .val (i64 s2.2)), (8, .val (.bool x34)), (9, .val (i64 s9.2)), (10, .val (i64 s22.2))] ?_ fun hy => ?_
  rotate_left
  · clear hx22o
    obtain ⟨v29, hv29, hx34⟩ := bind_some hx34
    by_cases hp30 : v29 = true
    · rw [if_pos hp30] at hx34
      have hp30b : v29 = true := by simpa [ieq, ilt, ile] using hp30
      have hp30s := hp30b
      try simp at hp30s
      obtain ⟨v31, hv31, hx34⟩ := bind_some hx34
      by_cases hp32 : v31 = true
      · rw [if_pos hp32] at hx34
        have hp32b : v31 = true := by simpa [ieq, ilt, ile] using hp32
        have hp32s := hp32b
        try simp at hp32s
        obtain ⟨v33, hv33, hx34⟩ := bind_some hx34
        cases hx34
        refine VW.wr tau_ok (((Sound.none.add 58 (s_l13Associates_ok hv29) rfl).add 64 (s_l13Associates_ok hv31) rfl).add 71 (s_l13Associates_ok hv33) rfl) [some 54, some 55, some 56, some 57, some 58, some 59, some 60, some 61, some 62, some 63, some 64, some 65, some 66, some 67, some 68, some 69, some 70, some 71, some 72, some 8] _ rfl ?_ hy
        simp [hp30b, hp30s, hp32b, hp32s] <;> simp [ieq, ilt, ile]
      · rw [if_neg hp32] at hx34
        have hp32b : v31 = false := by simpa [ieq, ilt, ile] using hp32
        have hp32s := hp32b
        try simp at hp32s
        cases hx34
        refine VW.wr tau_ok ((Sound.none.add 58 (s_l13Associates_ok hv29) rfl).add 64 (s_l13Associates_ok hv31) rfl) [some 54, some 55, some 56, some 57, some 58, some 59, some 60, some 61, some 62, some 63, some 64, some 65, some 66, some 67, some 68, some 69, some 70, some 71, some 72, some 8] _ rfl ?_ hy
        simp [hp30b, hp30s, hp32b, hp32s] <;> simp [ieq, ilt, ile]
    · rw [if_neg hp30] at hx34
      have hp30b : v29 = false := by simpa [ieq, ilt, ile] using hp30
      have hp30s := hp30b
      try simp at hp30s
      cases hx34
      refine VW.wr tau_ok (Sound.none.add 58 (s_l13Associates_ok hv29) rfl) [some 54, some 55, some 56, some 57, some 58, some 59, some 60, some 61, some 62, some 63, some 64, some 65, some 66, some 67, some 68, some 69, some 70, some 71, some 72, some 8] _ rfl ?_ hy
      simp [hp30b, hp30s] <;> simp [ieq, ilt, ile]
  refine hK28 _ ?_
  -- region 12
  refine VW.wr tau_ok Sound.none [some 52, some 53, some 10] [(0, .val (dM a0)), (1, .val (.bool a1)), (5, .val (i64 (a0.length : Int))), (6, .ref 6 [] true (dI s2.1)), (7, .val (i64 s2.2)), (8, .val (.bool x34)), (9, .val (i64 s9.2)), (10, .val (i64 (w64 (s22.2 + 1))))] rfl ?_ ?_
  · simp <;> simp [ieq, ilt, ile]
  cases hx22o
  exact ⟨_, rfl, Fits.of rfl⟩

theorem s_LoopCentre_ok {a0 : List (List Int)} {r : (List Int) × Int} (h : s_LoopCentre a0 = some r) :
    VCall Try.prog 80 [dM a0] [.own true (dI r.1), .sc (i64 r.2)] := by
  unfold s_LoopCentre at h
  refine VCall.enter Try.call80 Try.func80 rfl 9 Try.ntmps80 (by simp) [.tmp 2, .tmp 3] rfl ?_
  show VW _ _ _ (mk [(0, .val (dM a0))]) _
  -- region 0
  refine VW.ws tau_ok Sound.none [some 2, some 3] [(0, .val (dM a0))] rfl ?_ ?_
  · simp <;> simp [ieq, ilt, ile]
  refine VW.sqc fun K1 hK1 hCK1 => ?_
  -- region 1
  obtain ⟨v2, hv2, h⟩ := bind_some h
  refine VW.ws tau_ok (Sound.none.add 5 (s_l13Is_ok hv2) rfl) [some 4, some 5, some 6] [(0, .val (dM a0)), (6, .val (.bool (!v2)))] rfl ?_ ?_
  · simp <;> simp [ieq, ilt, ile]
  refine VW.cond rfl (fun hb3 => ?_) (fun hb3 => ?_)
  ·
    replace hb3 : v2 = false := by simpa [ieq, ilt, ile] using hb3
    rw [if_pos hb3] at h
    -- region 2
    refine VW.ws tau_ok Sound.none [some 2, some 3] [(2, .ref 2 [] true (.list [])), (3, .val (i64 1))] rfl ?_ ?_
    · simp <;> simp [ieq, ilt, ile]
    cases h
    refine VW.ret ?_
    simp [Post, PostM, PostC, PostC2, Nx, Bk]
  replace hb3 : ¬ (v2 = false) := by simpa [ieq, ilt, ile] using hb3
  rw [if_neg hb3] at h
  refine VW.skip ?_
  refine hK1 _ ?_
  -- region 3
  obtain ⟨v4, hv4, h⟩ := bind_some h
  refine VW.ws tau_ok (Sound.none.add 8 (s_l13Nucleus_ok hv4) rfl) [some 7, some 8, some 2, some 3] [(2, .ref 2 [] true (dI v4)), (3, .val (i64 0))] rfl ?_ ?_
  · simp <;> simp [ieq, ilt, ile]
  cases h
  refine VW.ret ?_
  simp [Post, PostM, PostC, PostC2, Nx, Bk]

theorem i_length_I_ok {a0 : List Int} {r : Int} (h : i_length_I a0 = some r) :
    VCall Try.prog 230 [dI a0] [.sc (i64 r)] := by
  unfold i_length_I at h
  refine VCall.enter Try.call230 Try.func230 rfl 5 Try.ntmps230 (by simp) [.tmp 2] rfl ?_
  show VW _ _ _ (mk [(0, .val (dI a0))]) _
  -- region 0
  refine VW.ws tau_ok Sound.none [some 2] [(0, .val (dI a0))] rfl ?_ ?_
  · simp <;> simp [ieq, ilt, ile]
  -- region 1
  refine VW.ws tau_ok Sound.none [some 3, some 4, some 2] [(2, .val (i64 (a0.length : Int)))] rfl ?_ ?_
  · simp <;> simp [ieq, ilt, ile]
  cases h
  refine VW.ret ?_
  simp [Post, PostM, PostC, PostC2, Nx, Bk]

theorem i_inRange_ok {a0 : Int} {a1 : Int} {a2 : Int} {r : Bool} (h : i_inRange a0 a1 a2 = some r) :
    VCall Try.prog 96 [i64 a0, i64 a1, i64 a2] [.sc (.bool r)] := by
  unfold i_inRange at h
  refine VCall.enter Try.call96 Try.func96 rfl 15 Try.ntmps96 (by simp) [.tmp 6] rfl ?_
  show VW _ _ _ (mk [(0, .val (i64 a0)), (1, .val (i64 a1)), (2, .val (i64 a2))]) _
  -- region 0
  refine VW.ws tau_ok Sound.none [some 6] [(0, .val (i64 a0)), (1, .val (i64 a1)), (2, .val (i64 a2))] rfl ?_ ?_
  · simp <;> simp [ieq, ilt, ile]
  -- region 1
  obtain ⟨x2, hx2, h⟩ := bind_some h
  refine VW.cut [(6, .val (.bool x2))] ?_ fun hy => ?_
  rotate_left
  · clear h
    by_cases hp1 : a1 ≤ a0
    · rw [if_pos hp1] at hx2
      have hp1b : ile a1 a0 = true := by simpa [ieq, ilt, ile] using hp1
      have hp1s := hp1b
      try simp at hp1s
      cases hx2
      refine VW.ws tau_ok Sound.none [some 7, some 8, some 9, some 10, some 11, some 12, some 13, some 14, some 6] _ rfl ?_ hy
      simp [hp1b, hp1s] <;> simp [ieq, ilt, ile]
    · rw [if_neg hp1] at hx2
      have hp1b : ile a1 a0 = false := by simpa [ieq, ilt, ile] using hp1
      have hp1s := hp1b
      try simp at hp1s
      cases hx2
      refine VW.ws tau_ok Sound.none [some 7, some 8, some 9, some 10, some 11, some 12, some 13, some 14, some 6] _ rfl ?_ hy
      simp [hp1b, hp1s] <;> simp [ieq, ilt, ile]
  cases h
  refine VW.ret ?_
  simp [Post, PostM, PostC, PostC2, Nx, Bk]

theorem i_isOnce_ok {a0 : List Int} {r : Bool} (h : i_isOnce a0 = some r) :
    VCall Try.prog 149 [dI a0] [.sc (.bool r)] := by
  unfold i_isOnce at h
  refine VCall.enter Try.call149 Try.func149 rfl 31 Try.ntmps149 (by simp) [.tmp 2] rfl ?_
  show VW _ _ _ (mk [(0, .val (dI a0))]) _
  -- region 0
  refine VW.ws tau_ok Sound.none [some 2] [(0, .val (dI a0))] rfl ?_ ?_
  · simp <;> simp [ieq, ilt, ile]
  -- region 1
  obtain ⟨hc1, h⟩ := chk_some h
  have hc1s := hc1
  try simp at hc1s
  refine VW.ws tau_ok Sound.none [some 6, some 7, some 8, some 3] [(0, .val (dI a0)), (3, .ref 3 [] true (dB (List.replicate (a0.length : Int).toNat false)))] rfl ?_ ?_
  · simp [hc1, hc1s] <;> simp [ieq, ilt, ile]
  refine VW.sqc fun K2 hK2 hCK2 => ?_
  -- region 2
  refine VW.ws tau_ok Sound.none [some 9, some 10, some 11] [(0, .val (dI a0)), (3, .ref 3 [] true (dB (List.replicate (a0.length : Int).toNat false))), (9, .val (dI a0)), (10, .val (i64 (a0.length : Int))), (11, .val (i64 0))] rfl ?_ ?_
  · simp <;> simp [ieq, ilt, ile]
  obtain ⟨x3, hx3, h⟩ := bind_some h
  refine VW.tlO (fun y5 => []) x3 (hCK2) ?_ ?_
  · clear hx3
    rintro y5 rfl
    dsimp only at h
    refine hK2 _ ?_
    -- region 9
    refine VW.ws tau_ok Sound.none [some 2] [(2, .val (.bool true))] rfl ?_ ?_
    · simp <;> simp [ieq, ilt, ile]
    cases h
    refine VW.ret ?_
    simp [Post, PostM, PostC, PostC2, Nx, Bk]
  refine VW.block ?_
  refine VW.loopF (i_isOnce_L0 a0) (fun s3 => [(0, .val (dI a0)), (3, .ref 3 [] true (dB s3.1)), (9, .val (dI a0)), (10, .val (i64 (a0.length : Int))), (11, .val (i64 s3.2))]) hx3 (Fits.of rfl) ?_
  clear hx3
  intro s3 ox3 hx3o hx3b
  unfold i_isOnce_L0 at hx3o
  -- region 3
  refine VW.ws tau_ok Sound.none [some 12] [(0, .val (dI a0)), (3, .ref 3 [] true (dB s3.1)), (9, .val (dI a0)), (10, .val (i64 (a0.length : Int))), (11, .val (i64 s3.2)), (12, .val (.bool (ilt s3.2 (a0.length : Int))))] rfl ?_ ?_
  · simp <;> simp [ieq, ilt, ile]
  refine VW.sqc fun K6 hK6 hCK6 => ?_
  refine VW.cond rfl (fun hb7 => ?_) (fun hb7 => ?_)
  rotate_left
  ·
    replace hb7 : ¬ (s3.2 < (a0.length : Int)) := by simpa [ieq, ilt, ile] using hb7
    rw [if_neg hb7] at hx3o
    refine VW.exit ?_
    cases hx3o
    have hq := hx3b _ rfl
    subst hq
    exact ⟨_, rfl, Fits.of rfl⟩
  replace hb7 : s3.2 < (a0.length : Int) := by simpa [ieq, ilt, ile] using hb7
  rw [if_pos hb7] at hx3o
  refine VW.skip ?_
  refine hK6 _ ?_
  refine VW.sqc fun K8 hK8 hCK8 => ?_
  refine VW.block ?_
  -- region 4
  obtain ⟨v9, hv9, hx3o⟩ := bind_some hx3o
  obtain ⟨hv9a, hv9b, hv9c, hv9d⟩ := idx_some hv9
  refine VW.ws tau_ok Sound.none [some 13, some 14, some 5] [(0, .val (dI a0)), (3, .ref 3 [] true (dB s3.1)), (5, .val (i64 v9)), (9, .val (dI a0)), (10, .val (i64 (a0.length : Int))), (11, .val (i64 s3.2))] rfl ?_ ?_
  · simp [hv9a, hv9b, hv9c, hv9d] <;> simp [ieq, ilt, ile]
  refine VW.sqc fun K10 hK10 hCK10 => ?_
  -- region 5
  obtain ⟨x15, hx15, hx3o⟩ := bind_some hx3o
  refine VW.cut [(0, .val (dI a0)), (3, .ref 3 [] true (dB s3.1)), (5, .val (i64 v9)), (9, .val (dI a0)), (10, .val (i64 (a0.length : Int))), (11, .val (i64 s3.2)), (26, .val (.bool x15))] ?_ fun hy => ?_
  rotate_left
  · clear hx3o
    obtain ⟨v11, hv11, hx15⟩ := bind_some hx15
    obtain ⟨v12, hv12, hx15⟩ := bind_some hx15
    by_cases hp13 : v12 = false
    · rw [if_pos hp13] at hx15
      have hp13b : v12 = false := by simpa [ieq, ilt, ile] using hp13
      have hp13s := hp13b
      try simp at hp13s
      cases hx15
      refine VW.ws tau_ok ((Sound.none.add 17 (i_length_I_ok hv11) rfl).add 19 (i_inRange_ok hv12) rfl) [some 15, some 16, some 17, some 18, some 19, some 20, some 21, some 22, some 23, some 24, some 25, some 26] _ rfl ?_ hy
      simp [hp13b, hp13s] <;> simp [ieq, ilt, ile]
    · rw [if_neg hp13] at hx15
      have hp13b : v12 = true := by simpa [ieq, ilt, ile] using hp13
      have hp13s := hp13b
      try simp at hp13s
      obtain ⟨v14, hv14, hx15⟩ := bind_some hx15
      obtain ⟨hv14a, hv14b, hv14c, hv14d⟩ := idx_some hv14
      cases hx15
      refine VW.ws tau_ok ((Sound.none.add 17 (i_length_I_ok hv11) rfl).add 19 (i_inRange_ok hv12) rfl) [some 15, some 16, some 17, some 18, some 19, some 20, some 21, some 22, some 23, some 24, some 25, some 26] _ rfl ?_ hy
      simp [hp13b, hp13s, hv14a, hv14b, hv14c, hv14d] <;> simp [ieq, ilt, ile]
  refine VW.cond rfl (fun hb16 => ?_) (fun hb16 => ?_)
  ·
    replace hb16 : x15 = true := by simpa [ieq, ilt, ile] using hb16
    rw [if_pos hb16] at hx3o
    -- region 6
    refine VW.ws tau_ok Sound.none [some 2] [(2, .val (.bool false))] rfl ?_ ?_
    · simp <;> simp [ieq, ilt, ile]
    cases hx3o
    have hq := hx3b _ rfl
    subst hq
    dsimp only at h
    cases h
    refine VW.ret ?_
    simp [Post, PostM, PostC, PostC2, Nx, Bk]
  replace hb16 : ¬ (x15 = true) := by simpa [ieq, ilt, ile] using hb16
  rw [if_neg hb16] at hx3o
  refine VW.skip ?_
  refine hK10 _ ?_
  -- region 7
  obtain ⟨v17, hv17, hx3o⟩ := bind_some hx3o
  obtain ⟨hv17a, hv17b, hv17c, hv17d⟩ := idx_some hv17
  refine VW.wr tau_ok Sound.none [some 27, some 28, some 29, none] [(0, .val (dI a0)), (3, .ref 3 [] true (dB (s3.1.set v9.toNat true))), (9, .val (dI a0)), (10, .val (i64 (a0.length : Int))), (11, .val (i64 s3.2))] rfl ?_ ?_
  · simp [hv17a, hv17b, hv17c, hv17d] <;> simp [ieq, ilt, ile]
  refine hK8 _ ?_
  -- region 8
  refine VW.wr tau_ok Sound.none [some 30, some 11] [(0, .val (dI a0)), (3, .ref 3 [] true (dB (s3.1.set v9.toNat true))), (9, .val (dI a0)), (10, .val (i64 (a0.length : Int))), (11, .val (i64 (w64 (s3.2 + 1))))] rfl ?_ ?_
  · simp <;> simp [ieq, ilt, ile]
  cases hx3o
  exact ⟨_, rfl, Fits.of rfl⟩

theorem i_transpose_ok {a0 : List (List Int)} {r : List (List Int)} (h : i_transpose a0 = some r) :
    VCall Try.prog 145 [dM a0] [.own true (dM r)] := by
  unfold i_transpose at h
  refine VCall.enter Try.call145 Try.func145 rfl 38 Try.ntmps145 (by simp) [.tmp 2] rfl ?_
  show VW _ _ _ (mk [(0, .val (dM a0))]) _
  -- region 0
  refine VW.ws tau_ok Sound.none [some 2] [(0, .val (dM a0))] rfl ?_ ?_
  · simp <;> simp [ieq, ilt, ile]
  -- region 1
  refine VW.ws tau_ok Sound.none [some 7, some 3] [(0, .val (dM a0)), (3, .ref 3 [] true (dM []))] rfl ?_ ?_
  · simp <;> simp [ieq, ilt, ile]
  refine VW.sqc fun K1 hK1 hCK1 => ?_
  -- region 2
  obtain ⟨v2, hv2, h⟩ := bind_some h
  obtain ⟨hv2a, hv2b, hv2c, hv2d⟩ := idx_some hv2
  replace hv2b : 0 < a0.length := hv2b
  replace hv2c : a0[0]? = some v2 := hv2c
  replace hv2d : ∀ h, a0[0]'h = v2 := hv2d
  refine VW.ws tau_ok Sound.none [some 8, some 9, some 10, some 11, some 12] [(0, .val (dM a0)), (3, .ref 3 [] true (dM [])), (11, .val (i64 (v2.length : Int))), (12, .val (i64 0))] rfl ?_ ?_
  · simp [hv2a, hv2b, hv2c, hv2d] <;> simp [ieq, ilt, ile]
  obtain ⟨x3, hx3, h⟩ := bind_some h
  refine VW.tlE [(3, .ref 3 [] true (dM x3))] (hCK1) ?_ ?_
  · clear hx3
    refine hK1 _ ?_
    -- region 13
    refine VW.ws tau_ok Sound.none [some 37, some 2] [(2, .ref 2 [] true (dM x3))] rfl ?_ ?_
    · simp <;> simp [ieq, ilt, ile]
    cases h
    refine VW.ret ?_
    simp [Post, PostM, PostC, PostC2, Nx, Bk]
  refine VW.block ?_
  refine VW.loopF (i_transpose_L0 a0 v2) (fun s3 => [(0, .val (dM a0)), (3, .ref 3 [] true (dM s3.1)), (11, .val (i64 (v2.length : Int))), (12, .val (i64 s3.2))]) hx3 (Fits.of rfl) ?_
  clear hx3
  intro s3 ox3 hx3o hx3b
  unfold i_transpose_L0 at hx3o
  -- region 3
  refine VW.ws tau_ok Sound.none [some 13] [(0, .val (dM a0)), (3, .ref 3 [] true (dM s3.1)), (11, .val (i64 (v2.length : Int))), (12, .val (i64 s3.2)), (13, .val (.bool (ilt s3.2 (v2.length : Int))))] rfl ?_ ?_
  · simp <;> simp [ieq, ilt, ile]
  refine VW.sqc fun K5 hK5 hCK5 => ?_
  refine VW.cond rfl (fun hb6 => ?_) (fun hb6 => ?_)
  rotate_left
  ·
    replace hb6 : ¬ (s3.2 < (v2.length : Int)) := by simpa [ieq, ilt, ile] using hb6
    rw [if_neg hb6] at hx3o
    refine VW.exit ?_
    cases hx3o
    have hq := hx3b _ rfl
    subst hq
    exact Fits.of rfl
  replace hb6 : s3.2 < (v2.length : Int) := by simpa [ieq, ilt, ile] using hb6
  rw [if_pos hb6] at hx3o
  refine VW.skip ?_
  refine hK5 _ ?_
  refine VW.sqc fun K7 hK7 hCK7 => ?_
  refine VW.block ?_
  -- region 4
  refine VW.ws tau_ok Sound.none [some 14, some 4] [(0, .val (dM a0)), (3, .ref 3 [] true (dM s3.1)), (4, .val (i64 s3.2)), (11, .val (i64 (v2.length : Int))), (12, .val (i64 s3.2))] rfl ?_ ?_
  · simp <;> simp [ieq, ilt, ile]
  -- region 5
  refine VW.ws tau_ok Sound.none [some 15, some 5] [(0, .val (dM a0)), (3, .ref 3 [] true (dM s3.1)), (4, .val (i64 s3.2)), (5, .ref 5 [] true (dI [])), (11, .val (i64 (v2.length : Int))), (12, .val (i64 s3.2))] rfl ?_ ?_
  · simp <;> simp [ieq, ilt, ile]
  refine VW.sqc fun K8 hK8 hCK8 => ?_
  -- region 6
  refine VW.ws tau_ok Sound.none [some 16, some 17, some 18] [(0, .val (dM a0)), (3, .ref 3 [] true (dM s3.1)), (4, .val (i64 s3.2)), (5, .ref 5 [] true (dI [])), (11, .val (i64 (v2.length : Int))), (12, .val (i64 s3.2)), (17, .val (i64 (a0.length : Int))), (18, .val (i64 0))] rfl ?_ ?_
  · simp <;> simp [ieq, ilt, ile]
  obtain ⟨x9, hx9, hx3o⟩ := bind_some hx3o
  refine VW.tlE [(0, .val (dM a0)), (3, .ref 3 [] true (dM s3.1)), (5, .ref 5 [] true (dI x9)), (11, .val (i64 (v2.length : Int))), (12, .val (i64 s3.2))] (hCK8) ?_ ?_
  · clear hx9
    refine hK8 _ ?_
    -- region 11
    obtain ⟨hc17, hx3o⟩ := chk_some hx3o
    have hc17s := hc17
    try simp at hc17s
    refine VW.wr tau_ok Sound.none [some 32, some 33, some 34, some 35, some 3] [(0, .val (dM a0)), (3, .ref 3 [] true (dM (s3.1 ++ [x9]))), (11, .val (i64 (v2.length : Int))), (12, .val (i64 s3.2))] rfl ?_ ?_
    · simp [hc17, hc17s] <;> simp [ieq, ilt, ile]
    refine hK7 _ ?_
    -- region 12
    refine VW.wr tau_ok Sound.none [some 36, some 12] [(0, .val (dM a0)), (3, .ref 3 [] true (dM (s3.1 ++ [x9]))), (11, .val (i64 (v2.length : Int))), (12, .val (i64 (w64 (s3.2 + 1))))] rfl ?_ ?_
    · simp <;> simp [ieq, ilt, ile]
    cases hx3o
    exact ⟨_, rfl, Fits.of rfl⟩
  refine VW.block ?_
  refine VW.loopF (i_transpose_L1 a0 s3) (fun s9 => [(0, .val (dM a0)), (3, .ref 3 [] true (dM s3.1)), (4, .val (i64 s3.2)), (5, .ref 5 [] true (dI s9.1)), (11, .val (i64 (v2.length : Int))), (12, .val (i64 s3.2)), (17, .val (i64 (a0.length : Int))), (18, .val (i64 s9.2))]) hx9 (Fits.of rfl) ?_
  clear hx9
  intro s9 ox9 hx9o hx9b
  unfold i_transpose_L1 at hx9o
  -- region 7
  refine VW.ws tau_ok Sound.none [some 19] [(0, .val (dM a0)), (3, .ref 3 [] true (dM s3.1)), (4, .val (i64 s3.2)), (5, .ref 5 [] true (dI s9.1)), (11, .val (i64 (v2.length : Int))), (12, .val (i64 s3.2)), (17, .val (i64 (a0.length : Int))), (18, .val (i64 s9.2)), (19, .val (.bool (ilt s9.2 (a0.length : Int))))] rfl ?_ ?_
  · simp <;> simp [ieq, ilt, ile]
  refine VW.sqc fun K11 hK11 hCK11 => ?_
  refine VW.cond rfl (fun hb12 => ?_) (fun hb12 => ?_)
  rotate_left
  ·
    replace hb12 : ¬ (s9.2 < (a0.length : Int)) := by simpa [ieq, ilt, ile] using hb12
    rw [if_neg hb12] at hx9o
    refine VW.exit ?_
    cases hx9o
    have hq := hx9b _ rfl
    subst hq
    exact Fits.of rfl
  replace hb12 : s9.2 < (a0.length : Int) := by simpa [ieq, ilt, ile] using hb12
  rw [if_pos hb12] at hx9o
  refine VW.skip ?_
  refine hK11 _ ?_
  refine VW.sqc fun K13 hK13 hCK13 => ?_
  refine VW.block ?_
  -- region 8
  refine VW.ws tau_ok Sound.none [some 20, some 6] [(0, .val (dM a0)), (3, .ref 3 [] true (dM s3.1)), (4, .val (i64 s3.2)), (5, .ref 5 [] true (dI s9.1)), (6, .val (i64 s9.2)), (11, .val (i64 (v2.length : Int))), (12, .val (i64 s3.2)), (17, .val (i64 (a0.length : Int))), (18, .val (i64 s9.2))] rfl ?_ ?_
  · simp <;> simp [ieq, ilt, ile]
  -- region 9
  obtain ⟨v14, hv14, hx9o⟩ := bind_some hx9o
  obtain ⟨hv14a, hv14b, hv14c, hv14d⟩ := idx_some hv14
  obtain ⟨v15, hv15, hx9o⟩ := bind_some hx9o
  obtain ⟨hv15a, hv15b, hv15c, hv15d⟩ := idx_some hv15
  obtain ⟨hc16, hx9o⟩ := chk_some hx9o
  have hc16s := hc16
  try simp at hc16s
  refine VW.wr tau_ok Sound.none [some 21, some 22, some 23, some 24, some 25, some 26, some 27, some 28, some 29, some 30, some 5] [(0, .val (dM a0)), (3, .ref 3 [] true (dM s3.1)), (4, .val (i64 s3.2)), (5, .ref 5 [] true (dI (s9.1 ++ [v15]))), (11, .val (i64 (v2.length : Int))), (12, .val (i64 s3.2)), (17, .val (i64 (a0.length : Int))), (18, .val (i64 s9.2))] rfl ?_ ?_
  · simp [hv14a, hv14b, hv14c, hv14d, hv15a, hv15b, hv15c, hv15d, hc16, hc16s] <;> simp [ieq, ilt, ile]
  refine hK13 _ ?_
  -- region 10
  refine VW.wr tau_ok Sound.none [some 31, some 18] [(0, .val (dM a0)), (3, .ref 3 [] true (dM s3.1)), (4, .val (i64 s3.2)), (5, .ref 5 [] true (dI (s9.1 ++ [v15]))), (11, .val (i64 (v2.length : Int))), (12, .val (i64 s3.2)), (17, .val (i64 (a0.length : Int))), (18, .val (i64 (w64 (s9.2 + 1))))] rfl ?_ ?_
  · simp <;> simp [ieq, ilt, ile]
  cases hx9o
  exact ⟨_, rfl, Fits.of rfl⟩

theorem i_IsLoop_c1_ok {a0 : List Int} {r : Bool} (h : i_IsLoop_c1 a0 = some r) :
    VCall Try.prog 151 [dI a0] [.sc (.bool r)] := by
  unfold i_IsLoop_c1 at h
  refine VCall.enter Try.call151 Try.func151 rfl 6 Try.ntmps151 (by simp) [.tmp 2] rfl ?_
  show VW _ _ _ (mk [(0, .val (dI a0))]) _
  -- region 0
  refine VW.ws tau_ok Sound.none [some 2] [(0, .val (dI a0))] rfl ?_ ?_
  · simp <;> simp [ieq, ilt, ile]
  -- region 1
  obtain ⟨v1, hv1, h⟩ := bind_some h
  refine VW.ws tau_ok (Sound.none.add 4 (i_isOnce_ok hv1) rfl) [some 3, some 4, some 5, some 2] [(2, .val (.bool (!v1)))] rfl ?_ ?_
  · simp <;> simp [ieq, ilt, ile]
  cases h
  refine VW.ret ?_
  simp [Post, PostM, PostC, PostC2, Nx, Bk]

theorem g_slices_IndexFunc_LLI_LI_of_i_IsLoop_c1_ok {a0 : List (List Int)} {r : Int} (h : g_slices_IndexFunc_LLI_LI_of_i_IsLoop_c1 a0 = some r) :
    VCall Try.prog 120 [dM a0, .fn 151 []] [.sc (i64 r)] := by
  unfold g_slices_IndexFunc_LLI_LI_of_i_IsLoop_c1 at h
  refine VCall.enter Try.call120 Try.func120 rfl 19 Try.ntmps120 (by simp) [.tmp 4] rfl ?_
  show VW _ _ _ (mk [(0, .val (dM a0)), (1, .val (.fn 151 []))]) _
  -- region 0
  refine VW.ws tau_ok Sound.none [some 4] [(0, .val (dM a0)), (1, .val (.fn 151 []))] rfl ?_ ?_
  · simp <;> simp [ieq, ilt, ile]
  refine VW.sqc fun K1 hK1 hCK1 => ?_
  -- region 1
  refine VW.ws tau_ok Sound.none [some 6, some 7, some 8] [(0, .val (dM a0)), (1, .val (.fn 151 [])), (7, .val (i64 (a0.length : Int))), (8, .val (i64 0))] rfl ?_ ?_
  · simp <;> simp [ieq, ilt, ile]
  obtain ⟨x2, hx2, h⟩ := bind_some h
  refine VW.tlO (fun y4 => []) x2 (hCK1) ?_ ?_
  · clear hx2
    rintro y4 rfl
    dsimp only at h
    refine hK1 _ ?_
    -- region 7
    refine VW.ws tau_ok Sound.none [some 4] [(4, .val (i64 (-1)))] rfl ?_ ?_
    · simp <;> simp [ieq, ilt, ile]
    cases h
    refine VW.ret ?_
    simp [Post, PostM, PostC, PostC2, Nx, Bk]
  refine VW.block ?_
  refine VW.loopF (g_slices_IndexFunc_LLI_LI_of_i_IsLoop_c1_L0 a0) (fun s2 => [(0, .val (dM a0)), (1, .val (.fn 151 [])), (7, .val (i64 (a0.length : Int))), (8, .val (i64 s2))]) hx2 (Fits.of rfl) ?_
  clear hx2
  intro s2 ox2 hx2o hx2b
  unfold g_slices_IndexFunc_LLI_LI_of_i_IsLoop_c1_L0 at hx2o
  -- region 2
  refine VW.ws tau_ok Sound.none [some 9] [(0, .val (dM a0)), (1, .val (.fn 151 [])), (7, .val (i64 (a0.length : Int))), (8, .val (i64 s2)), (9, .val (.bool (ilt s2 (a0.length : Int))))] rfl ?_ ?_
  · simp <;> simp [ieq, ilt, ile]
  refine VW.sqc fun K5 hK5 hCK5 => ?_
  refine VW.cond rfl (fun hb6 => ?_) (fun hb6 => ?_)
  rotate_left
  ·
    replace hb6 : ¬ (s2 < (a0.length : Int)) := by simpa [ieq, ilt, ile] using hb6
    rw [if_neg hb6] at hx2o
    refine VW.exit ?_
    cases hx2o
    have hq := hx2b _ rfl
    subst hq
    exact ⟨_, rfl, Fits.of rfl⟩
  replace hb6 : s2 < (a0.length : Int) := by simpa [ieq, ilt, ile] using hb6
  rw [if_pos hb6] at hx2o
  refine VW.skip ?_
  refine hK5 _ ?_
  refine VW.sqc fun K7 hK7 hCK7 => ?_
  refine VW.block ?_
  -- region 3
  refine VW.ws tau_ok Sound.none [some 10, some 5] [(0, .val (dM a0)), (1, .val (.fn 151 [])), (5, .val (i64 s2)), (7, .val (i64 (a0.length : Int))), (8, .val (i64 s2))] rfl ?_ ?_
  · simp <;> simp [ieq, ilt, ile]
  -- region 4
  obtain ⟨v8, hv8, hx2o⟩ := bind_some hx2o
  obtain ⟨hv8a, hv8b, hv8c, hv8d⟩ := idx_some hv8
  obtain ⟨v9, hv9, hx2o⟩ := bind_some hx2o
  refine VW.ws tau_ok (Sound.none.add 16 (i_IsLoop_c1_ok hv9) rfl) [some 11, some 12, some 13, some 14, some 15, some 16] [(0, .val (dM a0)), (1, .val (.fn 151 [])), (5, .val (i64 s2)), (7, .val (i64 (a0.length : Int))), (8, .val (i64 s2)), (16, .val (.bool v9))] rfl ?_ ?_
  · simp [hv8a, hv8b, hv8c, hv8d] <;> simp [ieq, ilt, ile]
  refine VW.cond rfl (fun hb10 => ?_) (fun hb10 => ?_)
  rotate_left
  ·
    replace hb10 : ¬ (v9 = true) := by simpa [ieq, ilt, ile] using hb10
    rw [if_neg hb10] at hx2o
    refine VW.skip ?_
    refine hK7 _ ?_
    -- region 6
    refine VW.wr tau_ok Sound.none [some 18, some 8] [(0, .val (dM a0)), (1, .val (.fn 151 [])), (7, .val (i64 (a0.length : Int))), (8, .val (i64 (w64 (s2 + 1))))] rfl ?_ ?_
    · simp <;> simp [ieq, ilt, ile]
    cases hx2o
    exact ⟨_, rfl, Fits.of rfl⟩
  replace hb10 : v9 = true := by simpa [ieq, ilt, ile] using hb10
  rw [if_pos hb10] at hx2o
  -- region 5
  refine VW.ws tau_ok Sound.none [some 17, some 4] [(4, .val (i64 s2))] rfl ?_ ?_
  · simp <;> simp [ieq, ilt, ile]
  cases hx2o
  have hq := hx2b _ rfl
  subst hq
  dsimp only at h
  cases h
  refine VW.ret ?_
  simp [Post, PostM, PostC, PostC2, Nx, Bk]

theorem g_slices_ContainsFunc_LLI_LI_of_i_IsLoop_c1_ok {a0 : List (List Int)} {r : Bool} (h : g_slices_ContainsFunc_LLI_LI_of_i_IsLoop_c1 a0 = some r) :
    VCall Try.prog 150 [dM a0, .fn 151 []] [.sc (.bool r)] := by
  unfold g_slices_ContainsFunc_LLI_LI_of_i_IsLoop_c1 at h
  refine VCall.enter Try.call150 Try.func150 rfl 9 Try.ntmps150 (by simp) [.tmp 4] rfl ?_
  show VW _ _ _ (mk [(0, .val (dM a0)), (1, .val (.fn 151 []))]) _
  -- region 0
  refine VW.ws tau_ok Sound.none [some 4] [(0, .val (dM a0)), (1, .val (.fn 151 []))] rfl ?_ ?_
  · simp <;> simp [ieq, ilt, ile]
  -- region 1
  obtain ⟨v1, hv1, h⟩ := bind_some h
  refine VW.ws tau_ok (Sound.none.add 7 (g_slices_IndexFunc_LLI_LI_of_i_IsLoop_c1_ok hv1) rfl) [some 5, some 6, some 7, some 8, some 4] [(4, .val (.bool (ile 0 v1)))] rfl ?_ ?_
  · simp <;> simp [ieq, ilt, ile]
  cases h
  refine VW.ret ?_
  simp [Post, PostM, PostC, PostC2, Nx, Bk]

theorem i_IsLoop_ok {a0 : List (List Int)} {r : Bool} (h : i_IsLoop a0 = some r) :
    VCall Try.prog 68 [dM a0] [.sc (.bool r)] := by
  unfold i_IsLoop at h
  refine VCall.enter Try.call68 Try.func68 rfl 59 Try.ntmps68 (by simp) [.tmp 2] rfl ?_
  show VW _ _ _ (mk [(0, .val (dM a0))]) _
  -- region 0
  refine VW.ws tau_ok Sound.none [some 2] [(0, .val (dM a0))] rfl ?_ ?_
  · simp <;> simp [ieq, ilt, ile]
  -- region 1
  refine VW.ws tau_ok Sound.none [some 8, some 9, some 3] [(0, .val (dM a0)), (3, .val (i64 (a0.length : Int)))] rfl ?_ ?_
  · simp <;> simp [ieq, ilt, ile]
  refine VW.sqc fun K1 hK1 hCK1 => ?_
  -- region 2
  obtain ⟨x3, hx3, h⟩ := bind_some h
  refine VW.cut [(0, .val (dM a0)), (3, .val (i64 (a0.length : Int))), (15, .val (.bool x3))] ?_ fun hy => ?_
  rotate_left
  · clear h
    by_cases hp2 : (a0.length : Int) < 1
    · rw [if_pos hp2] at hx3
      have hp2b : ilt (a0.length : Int) 1 = true := by simpa [ieq, ilt, ile] using hp2
      have hp2s := hp2b
      try simp at hp2s
      cases hx3
      refine VW.ws tau_ok Sound.none [some 10, some 11, some 12, some 13, some 14, some 15] _ rfl ?_ hy
      simp [hp2b, hp2s] <;> simp [ieq, ilt, ile]
    · rw [if_neg hp2] at hx3
      have hp2b : ilt (a0.length : Int) 1 = false := by simpa [ieq, ilt, ile] using hp2
      have hp2s := hp2b
      try simp at hp2s
      cases hx3
      refine VW.ws tau_ok Sound.none [some 10, some 11, some 12, some 13, some 14, some 15] _ rfl ?_ hy
      simp [hp2b, hp2s] <;> simp [ieq, ilt, ile]
  refine VW.cond rfl (fun hb4 => ?_) (fun hb4 => ?_)
  ·
    replace hb4 : x3 = true := by simpa [ieq, ilt, ile] using hb4
    rw [if_pos hb4] at h
    -- region 3
    refine VW.ws tau_ok Sound.none [some 2] [(2, .val (.bool false))] rfl ?_ ?_
    · simp <;> simp [ieq, ilt, ile]
    cases h
    refine VW.ret ?_
    simp [Post, PostM, PostC, PostC2, Nx, Bk]
  replace hb4 : ¬ (x3 = true) := by simpa [ieq, ilt, ile] using hb4
  rw [if_neg hb4] at h
  refine VW.skip ?_
  refine hK1 _ ?_
  refine VW.sqc fun K5 hK5 hCK5 => ?_
  -- region 4
  refine VW.ws tau_ok Sound.none [some 16, some 17, some 18] [(0, .val (dM a0)), (3, .val (i64 (a0.length : Int))), (16, .val (dM a0)), (17, .val (i64 (a0.length : Int))), (18, .val (i64 0))] rfl ?_ ?_
  · simp <;> simp [ieq, ilt, ile]
  obtain ⟨x6, hx6, h⟩ := bind_some h
  refine VW.tlO (fun y8 => [(0, .val (dM a0))]) x6 (hCK5) ?_ ?_
  · clear hx6
    rintro y8 rfl
    dsimp only at h
    refine hK5 _ ?_
    refine VW.sqc fun K14 hK14 hCK14 => ?_
    -- region 10
    refine VW.ws tau_ok Sound.none [some 27, some 28, some 29] [(0, .val (dM a0)), (27, .val (dM a0)), (28, .val (i64 (a0.length : Int))), (29, .val (i64 0))] rfl ?_ ?_
    · simp <;> simp [ieq, ilt, ile]
    obtain ⟨x15, hx15, h⟩ := bind_some h
    refine VW.tlO (fun y17 => [(0, .val (dM a0))]) x15 (hCK14) ?_ ?_
    · clear hx15
      rintro y17 rfl
      dsimp only at h
      refine hK14 _ ?_
      -- region 16
      obtain ⟨v30, hv30, h⟩ := bind_some h
      obtain ⟨v31, hv31, h⟩ := bind_some h
      refine VW.ws tau_ok ((Sound.none.add 56 (i_transpose_ok hv30) rfl).add 57 (g_slices_ContainsFunc_LLI_LI_of_i_IsLoop_c1_ok hv31) rfl) [some 55, some 56, some 57, some 58, some 2] [(2, .val (.bool (!v31)))] rfl ?_ ?_
      · simp <;> simp [ieq, ilt, ile]
      cases h
      refine VW.ret ?_
      simp [Post, PostM, PostC, PostC2, Nx, Bk]
    refine VW.block ?_
    refine VW.loopF (i_IsLoop_L1 a0) (fun s15 => [(0, .val (dM a0)), (27, .val (dM a0)), (28, .val (i64 (a0.length : Int))), (29, .val (i64 s15))]) hx15 (Fits.of rfl) ?_
    clear hx15
    intro s15 ox15 hx15o hx15b
    unfold i_IsLoop_L1 at hx15o
    -- region 11
    refine VW.ws tau_ok Sound.none [some 30] [(0, .val (dM a0)), (27, .val (dM a0)), (28, .val (i64 (a0.length : Int))), (29, .val (i64 s15)), (30, .val (.bool (ilt s15 (a0.length : Int))))] rfl ?_ ?_
    · simp <;> simp [ieq, ilt, ile]
    refine VW.sqc fun K18 hK18 hCK18 => ?_
    refine VW.cond rfl (fun hb19 => ?_) (fun hb19 => ?_)
    rotate_left
    ·
      replace hb19 : ¬ (s15 < (a0.length : Int)) := by simpa [ieq, ilt, ile] using hb19
      rw [if_neg hb19] at hx15o
      refine VW.exit ?_
      cases hx15o
      have hq := hx15b _ rfl
      subst hq
      exact ⟨_, rfl, Fits.of rfl⟩
    replace hb19 : s15 < (a0.length : Int) := by simpa [ieq, ilt, ile] using hb19
    rw [if_pos hb19] at hx15o
    refine VW.skip ?_
    refine hK18 _ ?_
    refine VW.sqc fun K20 hK20 hCK20 => ?_
    refine VW.block ?_
    -- region 12
    obtain ⟨v21, hv21, hx15o⟩ := bind_some hx15o
    obtain ⟨hv21a, hv21b, hv21c, hv21d⟩ := idx_some hv21
    refine VW.ws tau_ok Sound.none [some 31, some 32, some 33, some 6, some 7] [(0, .val (dM a0)), (6, .val (i64 s15)), (7, .val (dI v21)), (27, .val (dM a0)), (28, .val (i64 (a0.length : Int))), (29, .val (i64 s15))] rfl ?_ ?_
    · simp [hv21a, hv21b, hv21c, hv21d] <;> simp [ieq, ilt, ile]
    -- region 13
    obtain ⟨x28, hx28, hx15o⟩ := bind_some hx15o
    refine VW.cut [(0, .val (dM a0)), (27, .val (dM a0)), (28, .val (i64 (a0.length : Int))), (29, .val (i64 s15)), (53, .val (.bool x28))] ?_ fun hy => ?_
    rotate_left
    · clear hx15o
      obtain ⟨v22, hv22, hx28⟩ := bind_some hx28
      obtain ⟨hv22a, hv22b, hv22c, hv22d⟩ := idx_some hv22
      replace hv22b : 0 < v21.length := hv22b
      replace hv22c : v21[0]? = some v22 := hv22c
      replace hv22d : ∀ h, v21[0]'h = v22 := hv22d
      by_cases hp23 : ¬ v22 = s15
      · rw [if_pos hp23] at hx28
        have hp23b : ieq v22 s15 = false := by simpa [ieq, ilt, ile] using hp23
        have hp23s := hp23b
        try simp at hp23s
        cases hx28
        refine VW.ws tau_ok Sound.none [some 34, some 35, some 36, some 37, some 38, some 39, some 40, some 41, some 42, some 43, some 44, some 45, some 46, some 47, some 48, some 49, some 50, some 51, some 52, some 53] _ rfl ?_ hy
        simp [hv22a, hv22b, hv22c, hv22d, hp23b, hp23s] <;> simp [ieq, ilt, ile]
      · rw [if_neg hp23] at hx28
        have hp23b : ieq v22 s15 = true := by simpa [ieq, ilt, ile] using hp23
        have hp23s := hp23b
        try simp at hp23s
        obtain ⟨v24, hv24, hx28⟩ := bind_some hx28
        obtain ⟨hv24a, hv24b, hv24c, hv24d⟩ := idx_some hv24
        replace hv24b : 0 < a0.length := hv24b
        replace hv24c : a0[0]? = some v24 := hv24c
        replace hv24d : ∀ h, a0[0]'h = v24 := hv24d
        obtain ⟨v25, hv25, hx28⟩ := bind_some hx28
        obtain ⟨hv25a, hv25b, hv25c, hv25d⟩ := idx_some hv25
        by_cases hp26 : ¬ v25 = s15
        · rw [if_pos hp26] at hx28
          have hp26b : ieq v25 s15 = false := by simpa [ieq, ilt, ile] using hp26
          have hp26s := hp26b
          try simp at hp26s
          cases hx28
          refine VW.ws tau_ok Sound.none [some 34, some 35, some 36, some 37, some 38, some 39, some 40, some 41, some 42, some 43, some 44, some 45, some 46, some 47, some 48, some 49, some 50, some 51, some 52, some 53] _ rfl ?_ hy
          simp [hv22a, hv22b, hv22c, hv22d, hp23b, hp23s, hv24a, hv24b, hv24c, hv24d, hv25a, hv25b, hv25c, hv25d, hp26b, hp26s] <;> simp [ieq, ilt, ile]
        · rw [if_neg hp26] at hx28
          have hp26b : ieq v25 s15 = true := by simpa [ieq, ilt, ile] using hp26
          have hp26s := hp26b
          try simp at hp26s
          obtain ⟨v27, hv27, hx28⟩ := bind_some hx28
          cases hx28
          refine VW.ws tau_ok (Sound.none.add 51 (i_isOnce_ok hv27) rfl) [some 34, some 35, some 36, some 37, some 38, some 39, some 40, some 41, some 42, some 43, some 44, some 45, some 46, some 47, some 48, some 49, some 50, some 51, some 52, some 53] _ rfl ?_ hy
          simp [hv22a, hv22b, hv22c, hv22d, hp23b, hp23s, hv24a, hv24b, hv24c, hv24d, hv25a, hv25b, hv25c, hv25d, hp26b, hp26s] <;> simp [ieq, ilt, ile]
    refine VW.cond rfl (fun hb29 => ?_) (fun hb29 => ?_)
    rotate_left
    ·
      replace hb29 : ¬ (x28 = true) := by simpa [ieq, ilt, ile] using hb29
      rw [if_neg hb29] at hx15o
      refine VW.skip ?_
      refine hK20 _ ?_
      -- region 15
      refine VW.wr tau_ok Sound.none [some 54, some 29] [(0, .val (dM a0)), (27, .val (dM a0)), (28, .val (i64 (a0.length : Int))), (29, .val (i64 (w64 (s15 + 1))))] rfl ?_ ?_
      · simp <;> simp [ieq, ilt, ile]
      cases hx15o
      exact ⟨_, rfl, Fits.of rfl⟩
    replace hb29 : x28 = true := by simpa [ieq, ilt, ile] using hb29
    rw [if_pos hb29] at hx15o
    -- region 14
    refine VW.ws tau_ok Sound.none [some 2] [(2, .val (.bool false))] rfl ?_ ?_
    · simp <;> simp [ieq, ilt, ile]
    cases hx15o
    have hq := hx15b _ rfl
    subst hq
    dsimp only at h
    cases h
    refine VW.ret ?_
    simp [Post, PostM, PostC, PostC2, Nx, Bk]
  refine VW.block ?_
  refine VW.loopF (i_IsLoop_L0 a0) (fun s6 => [(0, .val (dM a0)), (3, .val (i64 (a0.length : Int))), (16, .val (dM a0)), (17, .val (i64 (a0.length : Int))), (18, .val (i64 s6))]) hx6 (Fits.of rfl) ?_
  clear hx6
  intro s6 ox6 hx6o hx6b
  unfold i_IsLoop_L0 at hx6o
  -- region 5
  refine VW.ws tau_ok Sound.none [some 19] [(0, .val (dM a0)), (3, .val (i64 (a0.length : Int))), (16, .val (dM a0)), (17, .val (i64 (a0.length : Int))), (18, .val (i64 s6)), (19, .val (.bool (ilt s6 (a0.length : Int))))] rfl ?_ ?_
  · simp <;> simp [ieq, ilt, ile]
  refine VW.sqc fun K9 hK9 hCK9 => ?_
  refine VW.cond rfl (fun hb10 => ?_) (fun hb10 => ?_)
  rotate_left
  ·
    replace hb10 : ¬ (s6 < (a0.length : Int)) := by simpa [ieq, ilt, ile] using hb10
    rw [if_neg hb10] at hx6o
    refine VW.exit ?_
    cases hx6o
    have hq := hx6b _ rfl
    subst hq
    exact ⟨_, rfl, Fits.of rfl⟩
  replace hb10 : s6 < (a0.length : Int) := by simpa [ieq, ilt, ile] using hb10
  rw [if_pos hb10] at hx6o
  refine VW.skip ?_
  refine hK9 _ ?_
  refine VW.sqc fun K11 hK11 hCK11 => ?_
  refine VW.block ?_
  -- region 6
  obtain ⟨v12, hv12, hx6o⟩ := bind_some hx6o
  obtain ⟨hv12a, hv12b, hv12c, hv12d⟩ := idx_some hv12
  refine VW.ws tau_ok Sound.none [some 20, some 21, some 5] [(0, .val (dM a0)), (3, .val (i64 (a0.length : Int))), (5, .val (dI v12)), (16, .val (dM a0)), (17, .val (i64 (a0.length : Int))), (18, .val (i64 s6))] rfl ?_ ?_
  · simp [hv12a, hv12b, hv12c, hv12d] <;> simp [ieq, ilt, ile]
  -- region 7
  refine VW.ws tau_ok Sound.none [some 22, some 23, some 24, some 25] [(0, .val (dM a0)), (3, .val (i64 (a0.length : Int))), (16, .val (dM a0)), (17, .val (i64 (a0.length : Int))), (18, .val (i64 s6)), (25, .val (.bool (!(ieq (v12.length : Int) (a0.length : Int)))))] rfl ?_ ?_
  · simp <;> simp [ieq, ilt, ile]
  refine VW.cond rfl (fun hb13 => ?_) (fun hb13 => ?_)
  rotate_left
  ·
    replace hb13 : ¬ (¬ (v12.length : Int) = (a0.length : Int)) := by simpa [ieq, ilt, ile] using hb13
    rw [if_neg hb13] at hx6o
    refine VW.skip ?_
    refine hK11 _ ?_
    -- region 9
    refine VW.wr tau_ok Sound.none [some 26, some 18] [(0, .val (dM a0)), (3, .val (i64 (a0.length : Int))), (16, .val (dM a0)), (17, .val (i64 (a0.length : Int))), (18, .val (i64 (w64 (s6 + 1))))] rfl ?_ ?_
    · simp <;> simp [ieq, ilt, ile]
    cases hx6o
    exact ⟨_, rfl, Fits.of rfl⟩
  replace hb13 : ¬ (v12.length : Int) = (a0.length : Int) := by simpa [ieq, ilt, ile] using hb13
  rw [if_pos hb13] at hx6o
  -- region 8
  refine VW.ws tau_ok Sound.none [some 2] [(2, .val (.bool false))] rfl ?_ ?_
  · simp <;> simp [ieq, ilt, ile]
  cases hx6o
  have hq := hx6b _ rfl
  subst hq
  dsimp only at h
  cases h
  refine VW.ret ?_
  simp [Post, PostM, PostC, PostC2, Nx, Bk]

theorem i_length_LI_ok {a0 : List (List Int)} {r : Int} (h : i_length_LI a0 = some r) :
    VCall Try.prog 146 [dM a0] [.sc (i64 r)] := by
  unfold i_length_LI at h
  refine VCall.enter Try.call146 Try.func146 rfl 5 Try.ntmps146 (by simp) [.tmp 2] rfl ?_
  show VW _ _ _ (mk [(0, .val (dM a0))]) _
  -- region 0
  refine VW.ws tau_ok Sound.none [some 2] [(0, .val (dM a0))] rfl ?_ ?_
  · simp <;> simp [ieq, ilt, ile]
  -- region 1
  refine VW.ws tau_ok Sound.none [some 3, some 4, some 2] [(2, .val (i64 (a0.length : Int)))] rfl ?_ ?_
  · simp <;> simp [ieq, ilt, ile]
  cases h
  refine VW.ret ?_
  simp [Post, PostM, PostC, PostC2, Nx, Bk]

theorem i_checkLoop_c1_ok {a0 : Int} {a1_0 : List (List Int)} {r : Bool} (h : i_checkLoop_c1 a0 a1_0 = some r) :
    VCall Try.prog 223 [i64 a0, .ptr [dM a1_0]] [.sc (.bool r)] := by
  unfold i_checkLoop_c1 at h
  refine VCall.enter Try.call223 Try.func223 rfl 10 Try.ntmps223 (by simp) [.tmp 3] rfl ?_
  show VW _ _ _ (mk [(0, .val (i64 a0)), (1, .val (.ptr [dM a1_0]))]) _
  -- region 0
  refine VW.ws tau_ok Sound.none [some 3] [(0, .val (i64 a0)), (1, .val (.ptr [dM a1_0]))] rfl ?_ ?_
  · simp <;> simp [ieq, ilt, ile]
  -- region 1
  obtain ⟨v1, hv1, h⟩ := bind_some h
  obtain ⟨v2, hv2, h⟩ := bind_some h
  refine VW.ws tau_ok ((Sound.none.add 6 (i_length_LI_ok hv1) rfl).add 8 (i_inRange_ok hv2) rfl) [some 4, some 5, some 6, some 7, some 8, some 9, some 3] [(3, .val (.bool (!v2)))] rfl ?_ ?_
  · simp <;> simp [ieq, ilt, ile]
  cases h
  refine VW.ret ?_
  simp [Post, PostM, PostC, PostC2, Nx, Bk]

theorem g_slices_IndexFunc_LI_I_of_i_checkLoop_c1_ok {a0 : List Int} {a1_0_0 : List (List Int)} {r : Int} (h : g_slices_IndexFunc_LI_I_of_i_checkLoop_c1 a0 a1_0_0 = some r) :
    VCall Try.prog 226 [dI a0, .fn 223 [.ptr [dM a1_0_0]]] [.sc (i64 r)] := by
  unfold g_slices_IndexFunc_LI_I_of_i_checkLoop_c1 at h
  refine VCall.enter Try.call226 Try.func226 rfl 19 Try.ntmps226 (by simp) [.tmp 4] rfl ?_
  show VW _ _ _ (mk [(0, .val (dI a0)), (1, .val (.fn 223 [.ptr [dM a1_0_0]]))]) _
  -- region 0
  refine VW.ws tau_ok Sound.none [some 4] [(0, .val (dI a0)), (1, .val (.fn 223 [.ptr [dM a1_0_0]]))] rfl ?_ ?_
  · simp <;> simp [ieq, ilt, ile]
  refine VW.sqc fun K1 hK1 hCK1 => ?_
  -- region 1
  refine VW.ws tau_ok Sound.none [some 6, some 7, some 8] [(0, .val (dI a0)), (1, .val (.fn 223 [.ptr [dM a1_0_0]])), (7, .val (i64 (a0.length : Int))), (8, .val (i64 0))] rfl ?_ ?_
  · simp <;> simp [ieq, ilt, ile]
  obtain ⟨x2, hx2, h⟩ := bind_some h
  refine VW.tlO (fun y4 => []) x2 (hCK1) ?_ ?_
  · clear hx2
    rintro y4 rfl
    dsimp only at h
    refine hK1 _ ?_
    -- region 7
    refine VW.ws tau_ok Sound.none [some 4] [(4, .val (i64 (-1)))] rfl ?_ ?_
    · simp <;> simp [ieq, ilt, ile]
    cases h
    refine VW.ret ?_
    simp [Post, PostM, PostC, PostC2, Nx, Bk]
  refine VW.block ?_
  refine VW.loopF (g_slices_IndexFunc_LI_I_of_i_checkLoop_c1_L0 a0 a1_0_0) (fun s2 => [(0, .val (dI a0)), (1, .val (.fn 223 [.ptr [dM a1_0_0]])), (7, .val (i64 (a0.length : Int))), (8, .val (i64 s2))]) hx2 (Fits.of rfl) ?_
  clear hx2
  intro s2 ox2 hx2o hx2b
  unfold g_slices_IndexFunc_LI_I_of_i_checkLoop_c1_L0 at hx2o
  -- region 2
  refine VW.ws tau_ok Sound.none [some 9] [(0, .val (dI a0)), (1, .val (.fn 223 [.ptr [dM a1_0_0]])), (7, .val (i64 (a0.length : Int))), (8, .val (i64 s2)), (9, .val (.bool (ilt s2 (a0.length : Int))))] rfl ?_ ?_
  · simp <;> simp [ieq, ilt, ile]
  refine VW.sqc fun K5 hK5 hCK5 => ?_
  refine VW.cond rfl (fun hb6 => ?_) (fun hb6 => ?_)
  rotate_left
  ·
    replace hb6 : ¬ (s2 < (a0.length : Int)) := by simpa [ieq, ilt, ile] using hb6
    rw [if_neg hb6] at hx2o
    refine VW.exit ?_
    cases hx2o
    have hq := hx2b _ rfl
    subst hq
    exact ⟨_, rfl, Fits.of rfl⟩
  replace hb6 : s2 < (a0.length : Int) := by simpa [ieq, ilt, ile] using hb6
  rw [if_pos hb6] at hx2o
  refine VW.skip ?_
  refine hK5 _ ?_
  refine VW.sqc fun K7 hK7 hCK7 => ?_
  refine VW.block ?_
  -- region 3
  refine VW.ws tau_ok Sound.none [some 10, some 5] [(0, .val (dI a0)), (1, .val (.fn 223 [.ptr [dM a1_0_0]])), (5, .val (i64 s2)), (7, .val (i64 (a0.length : Int))), (8, .val (i64 s2))] rfl ?_ ?_
  · simp <;> simp [ieq, ilt, ile]
  -- region 4
  obtain ⟨v8, hv8, hx2o⟩ := bind_some hx2o
  obtain ⟨hv8a, hv8b, hv8c, hv8d⟩ := idx_some hv8
  obtain ⟨v9, hv9, hx2o⟩ := bind_some hx2o
  refine VW.ws tau_ok (Sound.none.add 16 (i_checkLoop_c1_ok hv9) rfl) [some 11, some 12, some 13, some 14, some 15, some 16] [(0, .val (dI a0)), (1, .val (.fn 223 [.ptr [dM a1_0_0]])), (5, .val (i64 s2)), (7, .val (i64 (a0.length : Int))), (8, .val (i64 s2)), (16, .val (.bool v9))] rfl ?_ ?_
  · simp [hv8a, hv8b, hv8c, hv8d] <;> simp [ieq, ilt, ile]
  refine VW.cond rfl (fun hb10 => ?_) (fun hb10 => ?_)
  rotate_left
  ·
    replace hb10 : ¬ (v9 = true) := by simpa [ieq, ilt, ile] using hb10
    rw [if_neg hb10] at hx2o
    refine VW.skip ?_
    refine hK7 _ ?_
    -- region 6
    refine VW.wr tau_ok Sound.none [some 18, some 8] [(0, .val (dI a0)), (1, .val (.fn 223 [.ptr [dM a1_0_0]])), (7, .val (i64 (a0.length : Int))), (8, .val (i64 (w64 (s2 + 1))))] rfl ?_ ?_
    · simp <;> simp [ieq, ilt, ile]
    cases hx2o
    exact ⟨_, rfl, Fits.of rfl⟩
  replace hb10 : v9 = true := by simpa [ieq, ilt, ile] using hb10
  rw [if_pos hb10] at hx2o
  -- region 5
  refine VW.ws tau_ok Sound.none [some 17, some 4] [(4, .val (i64 s2))] rfl ?_ ?_
  · simp <;> simp [ieq, ilt, ile]
  cases hx2o
  have hq := hx2b _ rfl
  subst hq
  dsimp only at h
  cases h
  refine VW.ret ?_
  simp [Post, PostM, PostC, PostC2, Nx, Bk]

theorem g_slices_ContainsFunc_LI_I_of_i_checkLoop_c1_ok {a0 : List Int} {a1_0_0 : List (List Int)} {r : Bool} (h : g_slices_ContainsFunc_LI_I_of_i_checkLoop_c1 a0 a1_0_0 = some r) :
    VCall Try.prog 135 [dI a0, .fn 223 [.ptr [dM a1_0_0]]] [.sc (.bool r)] := by
  unfold g_slices_ContainsFunc_LI_I_of_i_checkLoop_c1 at h
  refine VCall.enter Try.call135 Try.func135 rfl 9 Try.ntmps135 (by simp) [.tmp 4] rfl ?_
  show VW _ _ _ (mk [(0, .val (dI a0)), (1, .val (.fn 223 [.ptr [dM a1_0_0]]))]) _
  -- region 0
  refine VW.ws tau_ok Sound.none [some 4] [(0, .val (dI a0)), (1, .val (.fn 223 [.ptr [dM a1_0_0]]))] rfl ?_ ?_
  · simp <;> simp [ieq, ilt, ile]
  -- region 1
  obtain ⟨v1, hv1, h⟩ := bind_some h
  refine VW.ws tau_ok (Sound.none.add 7 (g_slices_IndexFunc_LI_I_of_i_checkLoop_c1_ok hv1) rfl) [some 5, some 6, some 7, some 8, some 4] [(4, .val (.bool (ile 0 v1)))] rfl ?_ ?_
  · simp <;> simp [ieq, ilt, ile]
  cases h
  refine VW.ret ?_
  simp [Post, PostM, PostC, PostC2, Nx, Bk]

theorem i_checkLoop_ok {a0 : List (List Int)} {a1 : List Int} {r : Int} (h : i_checkLoop a0 a1 = some r) :
    VCall Try.prog 129 [dM a0, dI a1] [.sc (i64 r)] := by
  unfold i_checkLoop at h
  refine VCall.enter Try.call129 Try.func129 rfl 11 Try.ntmps129 (by simp) [.tmp 4] rfl ?_
  show VW _ _ _ (mk [(0, .val (dM a0)), (1, .val (dI a1))]) _
  -- region 0
  refine VW.ws tau_ok Sound.none [some 2, some 4] [(1, .val (dI a1)), (2, .val (.ptr [dM a0]))] rfl ?_ ?_
  · simp <;> simp [ieq, ilt, ile]
  refine VW.sqc fun K1 hK1 hCK1 => ?_
  -- region 1
  obtain ⟨v2, hv2, h⟩ := bind_some h
  refine VW.ws tau_ok (Sound.none.add 6 (i_IsLoop_ok hv2) rfl) [some 5, some 6, some 7] [(1, .val (dI a1)), (2, .val (.ptr [dM a0])), (7, .val (.bool (!v2)))] rfl ?_ ?_
  · simp <;> simp [ieq, ilt, ile]
  refine VW.cond rfl (fun hb3 => ?_) (fun hb3 => ?_)
  ·
    replace hb3 : v2 = false := by simpa [ieq, ilt, ile] using hb3
    rw [if_pos hb3] at h
    -- region 2
    refine VW.ws tau_ok Sound.none [some 4] [(4, .val (i64 1))] rfl ?_ ?_
    · simp <;> simp [ieq, ilt, ile]
    cases h
    refine VW.ret ?_
    simp [Post, PostM, PostC, PostC2, Nx, Bk]
  replace hb3 : ¬ (v2 = false) := by simpa [ieq, ilt, ile] using hb3
  rw [if_neg hb3] at h
  refine VW.skip ?_
  refine hK1 _ ?_
  refine VW.sqc fun K4 hK4 hCK4 => ?_
  -- region 3
  obtain ⟨v5, hv5, h⟩ := bind_some h
  refine VW.ws tau_ok (Sound.none.add 10 (g_slices_ContainsFunc_LI_I_of_i_checkLoop_c1_ok hv5) rfl) [some 8, some 9, some 10] [(10, .val (.bool v5))] rfl ?_ ?_
  · simp <;> simp [ieq, ilt, ile]
  refine VW.cond rfl (fun hb6 => ?_) (fun hb6 => ?_)
  ·
    replace hb6 : v5 = true := by simpa [ieq, ilt, ile] using hb6
    rw [if_pos hb6] at h
    -- region 4
    refine VW.ws tau_ok Sound.none [some 4] [(4, .val (i64 2))] rfl ?_ ?_
    · simp <;> simp [ieq, ilt, ile]
    cases h
    refine VW.ret ?_
    simp [Post, PostM, PostC, PostC2, Nx, Bk]
  replace hb6 : ¬ (v5 = true) := by simpa [ieq, ilt, ile] using hb6
  rw [if_neg hb6] at h
  refine VW.skip ?_
  refine hK4 _ ?_
  -- region 5
  refine VW.ws tau_ok Sound.none [some 4] [(4, .val (i64 0))] rfl ?_ ?_
  · simp <;> simp [ieq, ilt, ile]
  cases h
  refine VW.ret ?_
  simp [Post, PostM, PostC, PostC2, Nx, Bk]

theorem i_associates_ok {a0 : List (List Int)} {a1 : Int} {a2 : Int} {a3 : Int} {r : Bool} (h : i_associates a0 a1 a2 a3 = some r) :
    VCall Try.prog 143 [dM a0, i64 a1, i64 a2, i64 a3] [.sc (.bool r)] := by
  unfold i_associates at h
  refine VCall.enter Try.call143 Try.func143 rfl 36 Try.ntmps143 (by simp) [.tmp 8] rfl ?_
  show VW _ _ _ (mk [(0, .val (dM a0)), (1, .val (i64 a1)), (2, .val (i64 a2)), (3, .val (i64 a3))]) _
  -- region 0
  refine VW.ws tau_ok Sound.none [some 8] [(0, .val (dM a0)), (1, .val (i64 a1)), (2, .val (i64 a2)), (3, .val (i64 a3))] rfl ?_ ?_
  · simp <;> simp [ieq, ilt, ile]
  -- region 1
  obtain ⟨v1, hv1, h⟩ := bind_some h
  obtain ⟨hv1a, hv1b, hv1c, hv1d⟩ := idx_some hv1
  obtain ⟨v2, hv2, h⟩ := bind_some h
  obtain ⟨hv2a, hv2b, hv2c, hv2d⟩ := idx_some hv2
  obtain ⟨v3, hv3, h⟩ := bind_some h
  obtain ⟨hv3a, hv3b, hv3c, hv3d⟩ := idx_some hv3
  obtain ⟨v4, hv4, h⟩ := bind_some h
  obtain ⟨hv4a, hv4b, hv4c, hv4d⟩ := idx_some hv4
  obtain ⟨v5, hv5, h⟩ := bind_some h
  obtain ⟨hv5a, hv5b, hv5c, hv5d⟩ := idx_some hv5
  obtain ⟨v6, hv6, h⟩ := bind_some h
  obtain ⟨hv6a, hv6b, hv6c, hv6d⟩ := idx_some hv6
  obtain ⟨v7, hv7, h⟩ := bind_some h
  obtain ⟨hv7a, hv7b, hv7c, hv7d⟩ := idx_some hv7
  refine VW.wds tau_ok Sound.none try_mixed [some 9, some 10, some 11, some 12, some 13, some 14, some 15, some 16, some 17, some 18, some 19, some 20, some 21, some 22, some 23, some 24, some 25, some 26, some 27, some 28, some 29, some 30, some 31, some 32, some 33, some 34, some 35, some 8] [(8, .val (.bool (ieq v4 v7)))] 28 rfl (by kernel_rfl) (by rfl) ?_ ?_
  · simp [hv1a, hv1b, hv1c, hv1d, hv2a, hv2b, hv2c, hv2d, hv3a, hv3b, hv3c, hv3d, hv4a, hv4b, hv4c, hv4d, hv5a, hv5b, hv5c, hv5d, hv6a, hv6b, hv6c, hv6d, hv7a, hv7b, hv7c, hv7d] <;> simp [ieq, ilt, ile]
  cases h
  refine VW.ret ?_
  simp [Post, PostM, PostC, PostC2, Nx, Bk]

theorem i_nucleus_ok {a0 : List (List Int)} {r : List Int} (h : i_nucleus a0 = some r) :
    VCall Try.prog 154 [dM a0] [.own true (dI r)] := by
  unfold i_nucleus at h
  refine VCall.enter Try.call154 Try.func154 rfl 55 Try.ntmps154 (by simp) [.tmp 2] rfl ?_
  show VW _ _ _ (mk [(0, .val (dM a0))]) _
  -- region 0
  refine VW.ws tau_ok Sound.none [some 2] [(0, .val (dM a0))] rfl ?_ ?_
  · simp <;> simp [ieq, ilt, ile]
  -- region 1
  refine VW.ws tau_ok Sound.none [some 8, some 3] [(0, .val (dM a0)), (3, .ref 3 [] true (dI []))] rfl ?_ ?_
  · simp <;> simp [ieq, ilt, ile]
  refine VW.sqc fun K1 hK1 hCK1 => ?_
  -- region 2
  obtain ⟨v2, hv2, h⟩ := bind_some h
  refine VW.ws tau_ok (Sound.none.add 10 (i_length_LI_ok hv2) rfl) [some 9, some 10, some 11] [(0, .val (dM a0)), (3, .ref 3 [] true (dI [])), (10, .val (i64 v2)), (11, .val (i64 0))] rfl ?_ ?_
  · simp <;> simp [ieq, ilt, ile]
  obtain ⟨x3, hx3, h⟩ := bind_some h
  refine VW.tlE [(3, .ref 3 [] true (dI x3))] (hCK1) ?_ ?_
  · clear hx3
    refine hK1 _ ?_
    -- region 18
    refine VW.ws tau_ok Sound.none [some 54, some 2] [(2, .ref 2 [] true (dI x3))] rfl ?_ ?_
    · simp <;> simp [ieq, ilt, ile]
    cases h
    refine VW.ret ?_
    simp [Post, PostM, PostC, PostC2, Nx, Bk]
  refine VW.block ?_
  refine VW.loopF (i_nucleus_L0 a0 v2) (fun s3 => [(0, .val (dM a0)), (3, .ref 3 [] true (dI s3.1)), (10, .val (i64 v2)), (11, .val (i64 s3.2))]) hx3 (Fits.of rfl) ?_
  clear hx3
  intro s3 ox3 hx3o hx3b
  unfold i_nucleus_L0 at hx3o
  -- region 3
  refine VW.ws tau_ok Sound.none [some 12] [(0, .val (dM a0)), (3, .ref 3 [] true (dI s3.1)), (10, .val (i64 v2)), (11, .val (i64 s3.2)), (12, .val (.bool (ilt s3.2 v2)))] rfl ?_ ?_
  · simp <;> simp [ieq, ilt, ile]
  refine VW.sqc fun K5 hK5 hCK5 => ?_
  refine VW.cond rfl (fun hb6 => ?_) (fun hb6 => ?_)
  rotate_left
  ·
    replace hb6 : ¬ (s3.2 < v2) := by simpa [ieq, ilt, ile] using hb6
    rw [if_neg hb6] at hx3o
    refine VW.exit ?_
    cases hx3o
    have hq := hx3b _ rfl
    subst hq
    exact Fits.of rfl
  replace hb6 : s3.2 < v2 := by simpa [ieq, ilt, ile] using hb6
  rw [if_pos hb6] at hx3o
  refine VW.skip ?_
  refine hK5 _ ?_
  obtain ⟨x7, hx7, hx3o⟩ := bind_some hx3o
  refine VW.sqE [(0, .val (dM a0)), (3, .ref 3 [] true (dI x7)), (10, .val (i64 v2)), (11, .val (i64 s3.2))] ?_ ?_
  · clear hx7
    -- region 17
    refine VW.wr tau_ok Sound.none [some 53, some 11] [(0, .val (dM a0)), (3, .ref 3 [] true (dI x7)), (10, .val (i64 v2)), (11, .val (i64 (w64 (s3.2 + 1))))] rfl ?_ ?_
    · simp <;> simp [ieq, ilt, ile]
    cases hx3o
    exact ⟨_, rfl, Fits.of rfl⟩
  refine VW.block ?_
  -- region 4
  refine VW.ws tau_ok Sound.none [some 13, some 4] [(0, .val (dM a0)), (3, .ref 3 [] true (dI s3.1)), (4, .val (i64 s3.2)), (10, .val (i64 v2)), (11, .val (i64 s3.2))] rfl ?_ ?_
  · simp <;> simp [ieq, ilt, ile]
  -- region 5
  refine VW.ws tau_ok Sound.none [some 5] [(0, .val (dM a0)), (3, .ref 3 [] true (dI s3.1)), (4, .val (i64 s3.2)), (5, .val (.bool true)), (10, .val (i64 v2)), (11, .val (i64 s3.2))] rfl ?_ ?_
  · simp <;> simp [ieq, ilt, ile]
  refine VW.sqc fun K9 hK9 hCK9 => ?_
  -- region 6
  obtain ⟨v10, hv10, hx7⟩ := bind_some hx7
  refine VW.ws tau_ok (Sound.none.add 15 (i_length_LI_ok hv10) rfl) [some 14, some 15, some 16] [(0, .val (dM a0)), (3, .ref 3 [] true (dI s3.1)), (4, .val (i64 s3.2)), (5, .val (.bool true)), (10, .val (i64 v2)), (11, .val (i64 s3.2)), (15, .val (i64 v10)), (16, .val (i64 0))] rfl ?_ ?_
  · simp <;> simp [ieq, ilt, ile]
  obtain ⟨x11, hx11, hx7⟩ := bind_some hx7
  refine VW.tlE [(0, .val (dM a0)), (3, .ref 3 [] true (dI s3.1)), (4, .val (i64 s3.2)), (5, .val (.bool x11)), (10, .val (i64 v2)), (11, .val (i64 s3.2))] (hCK9) ?_ ?_
  · clear hx11
    refine hK9 _ ?_
    -- region 15
    refine VW.ws tau_ok Sound.none [some 48] [(0, .val (dM a0)), (3, .ref 3 [] true (dI s3.1)), (4, .val (i64 s3.2)), (10, .val (i64 v2)), (11, .val (i64 s3.2)), (48, .val (.bool x11))] rfl ?_ ?_
    · simp <;> simp [ieq, ilt, ile]
    refine VW.cond rfl (fun hb29 => ?_) (fun hb29 => ?_)
    rotate_left
    ·
      replace hb29 : ¬ (x11 = true) := by simpa [ieq, ilt, ile] using hb29
      rw [if_neg hb29] at hx7
      refine VW.skip ?_
      cases hx7
      exact Fits.of rfl
    replace hb29 : x11 = true := by simpa [ieq, ilt, ile] using hb29
    rw [if_pos hb29] at hx7
    -- region 16
    obtain ⟨hc30, hx7⟩ := chk_some hx7
    have hc30s := hc30
    try simp at hc30s
    refine VW.wr tau_ok Sound.none [some 49, some 50, some 51, some 52, some 3] [(0, .val (dM a0)), (3, .ref 3 [] true (dI (s3.1 ++ [s3.2]))), (10, .val (i64 v2)), (11, .val (i64 s3.2))] rfl ?_ ?_
    · simp [hc30, hc30s] <;> simp [ieq, ilt, ile]
    cases hx7
    exact Fits.of rfl
  refine VW.block ?_
  refine VW.loopF (i_nucleus_L1 a0 s3 v10) (fun s11 => [(0, .val (dM a0)), (3, .ref 3 [] true (dI s3.1)), (4, .val (i64 s3.2)), (5, .val (.bool s11.1)), (10, .val (i64 v2)), (11, .val (i64 s3.2)), (15, .val (i64 v10)), (16, .val (i64 s11.2))]) hx11 (Fits.of rfl) ?_
  clear hx11
  intro s11 ox11 hx11o hx11b
  unfold i_nucleus_L1 at hx11o
  -- region 7
  refine VW.ws tau_ok Sound.none [some 17] [(0, .val (dM a0)), (3, .ref 3 [] true (dI s3.1)), (4, .val (i64 s3.2)), (5, .val (.bool s11.1)), (10, .val (i64 v2)), (11, .val (i64 s3.2)), (15, .val (i64 v10)), (16, .val (i64 s11.2)), (17, .val (.bool (ilt s11.2 v10)))] rfl ?_ ?_
  · simp <;> simp [ieq, ilt, ile]
  refine VW.sqc fun K13 hK13 hCK13 => ?_
  refine VW.cond rfl (fun hb14 => ?_) (fun hb14 => ?_)
  rotate_left
  ·
    replace hb14 : ¬ (s11.2 < v10) := by simpa [ieq, ilt, ile] using hb14
    rw [if_neg hb14] at hx11o
    refine VW.exit ?_
    cases hx11o
    have hq := hx11b _ rfl
    subst hq
    exact Fits.of rfl
  replace hb14 : s11.2 < v10 := by simpa [ieq, ilt, ile] using hb14
  rw [if_pos hb14] at hx11o
  refine VW.skip ?_
  refine hK13 _ ?_
  refine VW.sqc fun K15 hK15 hCK15 => ?_
  refine VW.block ?_
  -- region 8
  refine VW.ws tau_ok Sound.none [some 18, some 6] [(0, .val (dM a0)), (3, .ref 3 [] true (dI s3.1)), (4, .val (i64 s3.2)), (5, .val (.bool s11.1)), (6, .val (i64 s11.2)), (10, .val (i64 v2)), (11, .val (i64 s3.2)), (15, .val (i64 v10)), (16, .val (i64 s11.2))] rfl ?_ ?_
  · simp <;> simp [ieq, ilt, ile]
  -- region 9
  obtain ⟨v16, hv16, hx11o⟩ := bind_some hx11o
  refine VW.ws tau_ok (Sound.none.add 20 (i_length_LI_ok hv16) rfl) [some 19, some 20, some 21] [(0, .val (dM a0)), (3, .ref 3 [] true (dI s3.1)), (4, .val (i64 s3.2)), (5, .val (.bool s11.1)), (6, .val (i64 s11.2)), (10, .val (i64 v2)), (11, .val (i64 s3.2)), (15, .val (i64 v10)), (16, .val (i64 s11.2)), (20, .val (i64 v16)), (21, .val (i64 0))] rfl ?_ ?_
  · simp <;> simp [ieq, ilt, ile]
  obtain ⟨x17, hx17, hx11o⟩ := bind_some hx11o
  refine VW.tlE [(0, .val (dM a0)), (3, .ref 3 [] true (dI s3.1)), (4, .val (i64 s3.2)), (5, .val (.bool x17)), (10, .val (i64 v2)), (11, .val (i64 s3.2)), (15, .val (i64 v10)), (16, .val (i64 s11.2))] (hCK15) ?_ ?_
  · clear hx17
    refine hK15 _ ?_
    -- region 14
    refine VW.wr tau_ok Sound.none [some 47, some 16] [(0, .val (dM a0)), (3, .ref 3 [] true (dI s3.1)), (4, .val (i64 s3.2)), (5, .val (.bool x17)), (10, .val (i64 v2)), (11, .val (i64 s3.2)), (15, .val (i64 v10)), (16, .val (i64 (w64 (s11.2 + 1))))] rfl ?_ ?_
    · simp <;> simp [ieq, ilt, ile]
    cases hx11o
    exact ⟨_, rfl, Fits.of rfl⟩
  refine VW.block ?_
  refine VW.loopF (i_nucleus_L2 a0 s3 s11 v16) (fun s17 => [(0, .val (dM a0)), (3, .ref 3 [] true (dI s3.1)), (4, .val (i64 s3.2)), (5, .val (.bool s17.1)), (6, .val (i64 s11.2)), (10, .val (i64 v2)), (11, .val (i64 s3.2)), (15, .val (i64 v10)), (16, .val (i64 s11.2)), (20, .val (i64 v16)), (21, .val (i64 s17.2))]) hx17 (Fits.of rfl) ?_
  clear hx17
  intro s17 ox17 hx17o hx17b
  unfold i_nucleus_L2 at hx17o
  -- region 10
  refine VW.ws tau_ok Sound.none [some 22] [(0, .val (dM a0)), (3, .ref 3 [] true (dI s3.1)), (4, .val (i64 s3.2)), (5, .val (.bool s17.1)), (6, .val (i64 s11.2)), (10, .val (i64 v2)), (11, .val (i64 s3.2)), (15, .val (i64 v10)), (16, .val (i64 s11.2)), (20, .val (i64 v16)), (21, .val (i64 s17.2)), (22, .val (.bool (ilt s17.2 v16)))] rfl ?_ ?_
  · simp <;> simp [ieq, ilt, ile]
  refine VW.sqc fun K19 hK19 hCK19 => ?_
  refine VW.cond rfl (fun hb20 => ?_) (fun hb20 => ?_)
  rotate_left
  ·
    replace hb20 : ¬ (s17.2 < v16) := by simpa [ieq, ilt, ile] using hb20
    rw [if_neg hb20] at hx17o
    refine VW.exit ?_
    cases hx17o
    have hq := hx17b _ rfl
    subst hq
    exact Fits.of rfl
  replace hb20 : s17.2 < v16 := by simpa [ieq, ilt, ile] using hb20
  rw [if_pos hb20] at hx17o
  refine VW.skip ?_
  refine hK19 _ ?_
  refine VW.sqc fun K21 hK21 hCK21 => ?_
  refine VW.block ?_
  -- region 11
  refine VW.ws tau_ok Sound.none [some 23, some 7] [(0, .val (dM a0)), (3, .ref 3 [] true (dI s3.1)), (4, .val (i64 s3.2)), (5, .val (.bool s17.1)), (6, .val (i64 s11.2)), (7, .val (i64 s17.2)), (10, .val (i64 v2)), (11, .val (i64 s3.2)), (15, .val (i64 v10)), (16, .val (i64 s11.2)), (20, .val (i64 v16)), (21, .val (i64 s17.2))] rfl ?_ ?_
  · simp <;> simp [ieq, ilt, ile]
  -- region 12
  obtain ⟨x28, hx28, hx17o⟩ := bind_some hx17o
  refine VW.cutr [(0, .val (dM a0)), (3, .ref 3 [] true (dI s3.1)), (4, .val (i64 s3.2)), (5, .val (.bool x28)), (6, .val (i64 s11.2)), (10, .val (i64 v2)), (11, .val (i64 s3.2)), (15, .val (i64 v10)), (16, .val (i64 s11.2)), (20, .val (i64 v16)), (21, .val (i64 s17.2))] ?_ fun hy => ?_
  rotate_left
  · clear hx17o
    by_cases hp22 : s17.1 = true
    · rw [if_pos hp22] at hx28
      have hp22b : s17.1 = true := by simpa [ieq, ilt, ile] using hp22
      have hp22s := hp22b
      try simp at hp22s
      obtain ⟨v23, hv23, hx28⟩ := bind_some hx28
      by_cases hp24 : v23 = true
      · rw [if_pos hp24] at hx28
        have hp24b : v23 = true := by simpa [ieq, ilt, ile] using hp24
        have hp24s := hp24b
        try simp at hp24s
        obtain ⟨v25, hv25, hx28⟩ := bind_some hx28
        by_cases hp26 : v25 = true
        · rw [if_pos hp26] at hx28
          have hp26b : v25 = true := by simpa [ieq, ilt, ile] using hp26
          have hp26s := hp26b
          try simp at hp26s
          obtain ⟨v27, hv27, hx28⟩ := bind_some hx28
          cases hx28
          refine VW.wr tau_ok (((Sound.none.add 30 (i_associates_ok hv23) rfl).add 37 (i_associates_ok hv25) rfl).add 44 (i_associates_ok hv27) rfl) [some 24, some 25, some 26, some 27, some 28, some 29, some 30, some 31, some 32, some 33, some 34, some 35, some 36, some 37, some 38, some 39, some 40, some 41, some 42, some 43, some 44, some 45, some 5] _ rfl ?_ hy
          simp [hp22b, hp22s, hp24b, hp24s, hp26b, hp26s] <;> simp [ieq, ilt, ile]
        · rw [if_neg hp26] at hx28
          have hp26b : v25 = false := by simpa [ieq, ilt, ile] using hp26
          have hp26s := hp26b
          try simp at hp26s
          cases hx28
          refine VW.wr tau_ok ((Sound.none.add 30 (i_associates_ok hv23) rfl).add 37 (i_associates_ok hv25) rfl) [some 24, some 25, some 26, some 27, some 28, some 29, some 30, some 31, some 32, some 33, some 34, some 35, some 36, some 37, some 38, some 39, some 40, some 41, some 42, some 43, some 44, some 45, some 5] _ rfl ?_ hy
          simp [hp22b, hp22s, hp24b, hp24s, hp26b, hp26s] <;> simp [ieq, ilt, ile]
      · rw [if_neg hp24] at hx28
        have hp24b : v23 = false := by simpa [ieq, ilt, ile] using hp24
        have hp24s := hp24b
        try simp at hp24s
        cases hx28
        refine VW.wr tau_ok (Sound.none.add 30 (i_associates_ok hv23) rfl) [some 24, some 25, some 26, some 27, some 28, some 29, some 30, some 31, some 32, some 33, some 34, some 35, some 36, some 37, some 38, some 39, some 40, some 41, some 42, some 43, some 44, some 45, some 5] _ rfl ?_ hy
        simp [hp22b, hp22s, hp24b, hp24s] <;> simp [ieq, ilt, ile]
    · rw [if_neg hp22] at hx28
      have hp22b : s17.1 = false := by simpa [ieq, ilt, ile] using hp22
      have hp22s := hp22b
      try simp at hp22s
      cases hx28
      refine VW.wr tau_ok Sound.none [some 24, some 25, some 26, some 27, some 28, some 29, some 30, some 31, some 32, some 33, some 34, some 35, some 36, some 37, some 38, some 39, some 40, some 41, some 42, some 43, some 44, some 45, some 5] _ rfl ?_ hy
      simp [hp22b, hp22s] <;> simp [ieq, ilt, ile]
  refine hK21 _ ?_
  -- region 13
  refine VW.wr tau_ok Sound.none [some 46, some 21] [(0, .val (dM a0)), (3, .ref 3 [] true (dI s3.1)), (4, .val (i64 s3.2)), (5, .val (.bool x28)), (6, .val (i64 s11.2)), (10, .val (i64 v2)), (11, .val (i64 s3.2)), (15, .val (i64 v10)), (16, .val (i64 s11.2)), (20, .val (i64 v16)), (21, .val (i64 (w64 (s17.2 + 1))))] rfl ?_ ?_
  · simp <;> simp [ieq, ilt, ile]
  cases hx17o
  exact ⟨_, rfl, Fits.of rfl⟩

theorem i_LoopCentre_c1_ok {a0 : Int} {a1_0 : List (List Int)} {r : Bool} (h : i_LoopCentre_c1 a0 a1_0 = some r) :
    VCall Try.prog 156 [i64 a0, .ptr [dM a1_0]] [.sc (.bool r)] := by
  unfold i_LoopCentre_c1 at h
  refine VCall.enter Try.call156 Try.func156 rfl 26 Try.ntmps156 (by simp) [.tmp 3] rfl ?_
  show VW _ _ _ (mk [(0, .val (i64 a0)), (1, .val (.ptr [dM a1_0]))]) _
  -- region 0
  refine VW.ws tau_ok Sound.none [some 3] [(0, .val (i64 a0)), (1, .val (.ptr [dM a1_0]))] rfl ?_ ?_
  · simp <;> simp [ieq, ilt, ile]
  refine VW.sqc fun K1 hK1 hCK1 => ?_
  -- region 1
  refine VW.ws tau_ok Sound.none [some 5, some 6, some 7] [(0, .val (i64 a0)), (1, .val (.ptr [dM a1_0])), (6, .val (i64 (a1_0.length : Int))), (7, .val (i64 0))] rfl ?_ ?_
  · simp <;> simp [ieq, ilt, ile]
  obtain ⟨x2, hx2, h⟩ := bind_some h
  refine VW.tlO (fun y4 => []) x2 (hCK1) ?_ ?_
  · clear hx2
    rintro y4 rfl
    dsimp only at h
    refine hK1 _ ?_
    -- region 7
    refine VW.ws tau_ok Sound.none [some 3] [(3, .val (.bool false))] rfl ?_ ?_
    · simp <;> simp [ieq, ilt, ile]
    cases h
    refine VW.ret ?_
    simp [Post, PostM, PostC, PostC2, Nx, Bk]
  refine VW.block ?_
  refine VW.loopF (i_LoopCentre_c1_L0 a0 a1_0) (fun s2 => [(0, .val (i64 a0)), (1, .val (.ptr [dM a1_0])), (6, .val (i64 (a1_0.length : Int))), (7, .val (i64 s2))]) hx2 (Fits.of rfl) ?_
  clear hx2
  intro s2 ox2 hx2o hx2b
  unfold i_LoopCentre_c1_L0 at hx2o
  -- region 2
  refine VW.ws tau_ok Sound.none [some 8] [(0, .val (i64 a0)), (1, .val (.ptr [dM a1_0])), (6, .val (i64 (a1_0.length : Int))), (7, .val (i64 s2)), (8, .val (.bool (ilt s2 (a1_0.length : Int))))] rfl ?_ ?_
  · simp <;> simp [ieq, ilt, ile]
  refine VW.sqc fun K5 hK5 hCK5 => ?_
  refine VW.cond rfl (fun hb6 => ?_) (fun hb6 => ?_)
  rotate_left
  ·
    replace hb6 : ¬ (s2 < (a1_0.length : Int)) := by simpa [ieq, ilt, ile] using hb6
    rw [if_neg hb6] at hx2o
    refine VW.exit ?_
    cases hx2o
    have hq := hx2b _ rfl
    subst hq
    exact ⟨_, rfl, Fits.of rfl⟩
  replace hb6 : s2 < (a1_0.length : Int) := by simpa [ieq, ilt, ile] using hb6
  rw [if_pos hb6] at hx2o
  refine VW.skip ?_
  refine hK5 _ ?_
  refine VW.sqc fun K7 hK7 hCK7 => ?_
  refine VW.block ?_
  -- region 3
  refine VW.ws tau_ok Sound.none [some 9, some 4] [(0, .val (i64 a0)), (1, .val (.ptr [dM a1_0])), (4, .val (i64 s2)), (6, .val (i64 (a1_0.length : Int))), (7, .val (i64 s2))] rfl ?_ ?_
  · simp <;> simp [ieq, ilt, ile]
  -- region 4
  obtain ⟨v8, hv8, hx2o⟩ := bind_some hx2o
  obtain ⟨hv8a, hv8b, hv8c, hv8d⟩ := idx_some hv8
  obtain ⟨v9, hv9, hx2o⟩ := bind_some hx2o
  obtain ⟨hv9a, hv9b, hv9c, hv9d⟩ := idx_some hv9
  obtain ⟨v10, hv10, hx2o⟩ := bind_some hx2o
  obtain ⟨hv10a, hv10b, hv10c, hv10d⟩ := idx_some hv10
  obtain ⟨v11, hv11, hx2o⟩ := bind_some hx2o
  obtain ⟨hv11a, hv11b, hv11c, hv11d⟩ := idx_some hv11
  refine VW.wds tau_ok Sound.none try_mixed [some 10, some 11, some 12, some 13, some 14, some 15, some 16, some 17, some 18, some 19, some 20, some 21, some 22, some 23, some 24] [(0, .val (i64 a0)), (1, .val (.ptr [dM a1_0])), (6, .val (i64 (a1_0.length : Int))), (7, .val (i64 s2)), (24, .val (.bool (!(ieq v9 v11))))] 15 rfl (by kernel_rfl) (by rfl) ?_ ?_
  · simp [hv8a, hv8b, hv8c, hv8d, hv9a, hv9b, hv9c, hv9d, hv10a, hv10b, hv10c, hv10d, hv11a, hv11b, hv11c, hv11d] <;> simp [ieq, ilt, ile]
  refine VW.cond rfl (fun hb12 => ?_) (fun hb12 => ?_)
  rotate_left
  ·
    replace hb12 : ¬ (¬ v9 = v11) := by simpa [ieq, ilt, ile] using hb12
    rw [if_neg hb12] at hx2o
    refine VW.skip ?_
    refine hK7 _ ?_
    -- region 6
    refine VW.wr tau_ok Sound.none [some 25, some 7] [(0, .val (i64 a0)), (1, .val (.ptr [dM a1_0])), (6, .val (i64 (a1_0.length : Int))), (7, .val (i64 (w64 (s2 + 1))))] rfl ?_ ?_
    · simp <;> simp [ieq, ilt, ile]
    cases hx2o
    exact ⟨_, rfl, Fits.of rfl⟩
  replace hb12 : ¬ v9 = v11 := by simpa [ieq, ilt, ile] using hb12
  rw [if_pos hb12] at hx2o
  -- region 5
  refine VW.ws tau_ok Sound.none [some 3] [(3, .val (.bool true))] rfl ?_ ?_
  · simp <;> simp [ieq, ilt, ile]
  cases hx2o
  have hq := hx2b _ rfl
  subst hq
  dsimp only at h
  cases h
  refine VW.ret ?_
  simp [Post, PostM, PostC, PostC2, Nx, Bk]

theorem g_slices_IndexFunc_LI_I_of_i_LoopCentre_c1_ok {a0 : List Int} {a1_0_0 : List (List Int)} {r : Int} (h : g_slices_IndexFunc_LI_I_of_i_LoopCentre_c1 a0 a1_0_0 = some r) :
    VCall Try.prog 226 [dI a0, .fn 156 [.ptr [dM a1_0_0]]] [.sc (i64 r)] := by
  unfold g_slices_IndexFunc_LI_I_of_i_LoopCentre_c1 at h
  refine VCall.enter Try.call226 Try.func226 rfl 19 Try.ntmps226 (by simp) [.tmp 4] rfl ?_
  show VW _ _ _ (mk [(0, .val (dI a0)), (1, .val (.fn 156 [.ptr [dM a1_0_0]]))]) _
  -- region 0
  refine VW.ws tau_ok Sound.none [some 4] [(0, .val (dI a0)), (1, .val (.fn 156 [.ptr [dM a1_0_0]]))] rfl ?_ ?_
  · simp <;> simp [ieq, ilt, ile]
  refine VW.sqc fun K1 hK1 hCK1 => ?_
  -- region 1
  refine VW.ws tau_ok Sound.none [some 6, some 7, some 8] [(0, .val (dI a0)), (1, .val (.fn 156 [.ptr [dM a1_0_0]])), (7, .val (i64 (a0.length : Int))), (8, .val (i64 0))] rfl ?_ ?_
  · simp <;> simp [ieq, ilt, ile]
  obtain ⟨x2, hx2, h⟩ := bind_some h
  refine VW.tlO (fun y4 => []) x2 (hCK1) ?_ ?_
  · clear hx2
    rintro y4 rfl
    dsimp only at h
    refine hK1 _ ?_
    -- region 7
    refine VW.ws tau_ok Sound.none [some 4] [(4, .val (i64 (-1)))] rfl ?_ ?_
    · simp <;> simp [ieq, ilt, ile]
    cases h
    refine VW.ret ?_
    simp [Post, PostM, PostC, PostC2, Nx, Bk]
  refine VW.block ?_
  refine VW.loopF (g_slices_IndexFunc_LI_I_of_i_LoopCentre_c1_L0 a0 a1_0_0) (fun s2 => [(0, .val (dI a0)), (1, .val (.fn 156 [.ptr [dM a1_0_0]])), (7, .val (i64 (a0.length : Int))), (8, .val (i64 s2))]) hx2 (Fits.of rfl) ?_
  clear hx2
  intro s2 ox2 hx2o hx2b
  unfold g_slices_IndexFunc_LI_I_of_i_LoopCentre_c1_L0 at hx2o
  -- region 2
  refine VW.ws tau_ok Sound.none [some 9] [(0, .val (dI a0)), (1, .val (.fn 156 [.ptr [dM a1_0_0]])), (7, .val (i64 (a0.length : Int))), (8, .val (i64 s2)), (9, .val (.bool (ilt s2 (a0.length : Int))))] rfl ?_ ?_
  · simp <;> simp [ieq, ilt, ile]
  refine VW.sqc fun K5 hK5 hCK5 => ?_
  refine VW.cond rfl (fun hb6 => ?_) (fun hb6 => ?_)
  rotate_left
  ·
    replace hb6 : ¬ (s2 < (a0.length : Int)) := by simpa [ieq, ilt, ile] using hb6
    rw [if_neg hb6] at hx2o
    refine VW.exit ?_
    cases hx2o
    have hq := hx2b _ rfl
    subst hq
    exact ⟨_, rfl, Fits.of rfl⟩
  replace hb6 : s2 < (a0.length : Int) := by simpa [ieq, ilt, ile] using hb6
  rw [if_pos hb6] at hx2o
  refine VW.skip ?_
  refine hK5 _ ?_
  refine VW.sqc fun K7 hK7 hCK7 => ?_
  refine VW.block ?_
  -- region 3
  refine VW.ws tau_ok Sound.none [some 10, some 5] [(0, .val (dI a0)), (1, .val (.fn 156 [.ptr [dM a1_0_0]])), (5, .val (i64 s2)), (7, .val (i64 (a0.length : Int))), (8, .val (i64 s2))] rfl ?_ ?_
  · simp <;> simp [ieq, ilt, ile]
  -- region 4
  obtain ⟨v8, hv8, hx2o⟩ := bind_some hx2o
  obtain ⟨hv8a, hv8b, hv8c, hv8d⟩ := idx_some hv8
  obtain ⟨v9, hv9, hx2o⟩ := bind_some hx2o
  refine VW.ws tau_ok (Sound.none.add 16 (i_LoopCentre_c1_ok hv9) rfl) [some 11, some 12, some 13, some 14, some 15, some 16] [(0, .val (dI a0)), (1, .val (.fn 156 [.ptr [dM a1_0_0]])), (5, .val (i64 s2)), (7, .val (i64 (a0.length : Int))), (8, .val (i64 s2)), (16, .val (.bool v9))] rfl ?_ ?_
  · simp [hv8a, hv8b, hv8c, hv8d] <;> simp [ieq, ilt, ile]
  refine VW.cond rfl (fun hb10 => ?_) (fun hb10 => ?_)
  rotate_left
  ·
    replace hb10 : ¬ (v9 = true) := by simpa [ieq, ilt, ile] using hb10
    rw [if_neg hb10] at hx2o
    refine VW.skip ?_
    refine hK7 _ ?_
    -- region 6
    refine VW.wr tau_ok Sound.none [some 18, some 8] [(0, .val (dI a0)), (1, .val (.fn 156 [.ptr [dM a1_0_0]])), (7, .val (i64 (a0.length : Int))), (8, .val (i64 (w64 (s2 + 1))))] rfl ?_ ?_
    · simp <;> simp [ieq, ilt, ile]
    cases hx2o
    exact ⟨_, rfl, Fits.of rfl⟩
  replace hb10 : v9 = true := by simpa [ieq, ilt, ile] using hb10
  rw [if_pos hb10] at hx2o
  -- region 5
  refine VW.ws tau_ok Sound.none [some 17, some 4] [(4, .val (i64 s2))] rfl ?_ ?_
  · simp <;> simp [ieq, ilt, ile]
  cases hx2o
  have hq := hx2b _ rfl
  subst hq
  dsimp only at h
  cases h
  refine VW.ret ?_
  simp [Post, PostM, PostC, PostC2, Nx, Bk]

theorem g_slices_DeleteFunc_LI_I_of_i_LoopCentre_c1_ok {a0 : List Int} {a1_0_0 : List (List Int)} {r : List Int} (h : g_slices_DeleteFunc_LI_I_of_i_LoopCentre_c1 a0 a1_0_0 = some r) :
    VTake Try.prog 155 (dI a0) [.fn 156 [.ptr [dM a1_0_0]]] (dI r) := by
  unfold g_slices_DeleteFunc_LI_I_of_i_LoopCentre_c1 at h
  refine VTake.enter Try.call155 Try.func155 rfl 42 Try.ntmps155 (by simp) 4 rfl ?_
  show VW _ _ _ (mk [(0, .ref 0 [] true (dI a0)), (1, .val (.fn 156 [.ptr [dM a1_0_0]]))]) _
  -- region 0
  refine VW.ws tau_ok Sound.none [some 4] [(0, .ref 0 [] true (dI a0)), (1, .val (.fn 156 [.ptr [dM a1_0_0]]))] rfl ?_ ?_
  · simp <;> simp [ieq, ilt, ile]
  -- region 1
  obtain ⟨v1, hv1, h⟩ := bind_some h
  refine VW.ws tau_ok (Sound.none.add 10 (g_slices_IndexFunc_LI_I_of_i_LoopCentre_c1_ok hv1) rfl) [some 8, some 9, some 10, some 5] [(0, .ref 0 [] true (dI a0)), (1, .val (.fn 156 [.ptr [dM a1_0_0]])), (5, .val (i64 v1))] rfl ?_ ?_
  · simp <;> simp [ieq, ilt, ile]
  refine VW.sqc fun K2 hK2 hCK2 => ?_
  -- region 2
  refine VW.ws tau_ok Sound.none [some 11, some 12] [(0, .ref 0 [] true (dI a0)), (1, .val (.fn 156 [.ptr [dM a1_0_0]])), (5, .val (i64 v1)), (12, .val (.bool (ieq v1 (-1))))] rfl ?_ ?_
  · simp <;> simp [ieq, ilt, ile]
  refine VW.cond rfl (fun hb3 => ?_) (fun hb3 => ?_)
  ·
    replace hb3 : v1 = (-1) := by simpa [ieq, ilt, ile] using hb3
    rw [if_pos hb3] at h
    -- region 3
    refine VW.ws tau_ok Sound.none [some 13, some 4] [(4, .ref 4 [] true (dI a0))] rfl ?_ ?_
    · simp <;> simp [ieq, ilt, ile]
    cases h
    refine VW.ret ?_
    simp [Post, PostM, PostC, PostC2, Nx, Bk]
  replace hb3 : ¬ (v1 = (-1)) := by simpa [ieq, ilt, ile] using hb3
  rw [if_neg hb3] at h
  refine VW.skip ?_
  refine hK2 _ ?_
  refine VW.sqc fun K4 hK4 hCK4 => ?_
  -- region 4
  refine VW.ws tau_ok Sound.none [some 14, some 15, some 6] [(0, .ref 0 [] true (dI a0)), (1, .val (.fn 156 [.ptr [dM a1_0_0]])), (5, .val (i64 v1)), (6, .val (i64 (w64 (v1 + 1))))] rfl ?_ ?_
  · simp <;> simp [ieq, ilt, ile]
  obtain ⟨x5, hx5, h⟩ := bind_some h
  refine VW.tlE [(0, .ref 0 [] true (dI x5.1)), (5, .val (i64 x5.2))] (hCK4) ?_ ?_
  · clear hx5
    refine hK4 _ ?_
    -- region 11
    obtain ⟨hc15, h⟩ := chk_some h
    refine VW.clr tau_ok (T := 39) rfl ⟨_, rfl, rfl⟩ (t0 := 0) (ti := 5) rfl rfl (by simpa using hc15) rfl rfl rfl (by simp) rfl rfl rfl (by simp) rfl rfl rfl (by simp) rfl rfl rfl (by decide) ?_
    -- region 12
    obtain ⟨hc16, h⟩ := chk_some h
    have hc16s := hc16
    try simp at hc16s
    refine VW.ws tau_ok Sound.none [some 39, some 40, some 41, some 4] [(4, .ref 4 [] true (dI (x5.1.take x5.2.toNat)))] rfl ?_ ?_
    · simp [hc16, hc16s] <;> simp [ieq, ilt, ile]
    cases h
    refine VW.ret ?_
    simp [Post, PostM, PostC, PostC2, Nx, Bk]
  refine VW.block ?_
  refine VW.loopF (g_slices_DeleteFunc_LI_I_of_i_LoopCentre_c1_L0 a1_0_0) (fun s5 => [(0, .ref 0 [] true (dI s5.1)), (1, .val (.fn 156 [.ptr [dM a1_0_0]])), (5, .val (i64 s5.2.1)), (6, .val (i64 s5.2.2))]) hx5 (Fits.of rfl) ?_
  clear hx5
  intro s5 ox5 hx5o hx5b
  unfold g_slices_DeleteFunc_LI_I_of_i_LoopCentre_c1_L0 at hx5o
  refine VW.sqc fun K7 hK7 hCK7 => ?_
  -- region 5
  refine VW.ws tau_ok Sound.none [some 16, some 17, some 18, some 19] [(0, .ref 0 [] true (dI s5.1)), (1, .val (.fn 156 [.ptr [dM a1_0_0]])), (5, .val (i64 s5.2.1)), (6, .val (i64 s5.2.2)), (19, .val (.bool (ilt s5.2.2 (s5.1.length : Int))))] rfl ?_ ?_
  · simp <;> simp [ieq, ilt, ile]
  refine VW.cond rfl (fun hb8 => ?_) (fun hb8 => ?_)
  rotate_left
  ·
    replace hb8 : ¬ (s5.2.2 < (s5.1.length : Int)) := by simpa [ieq, ilt, ile] using hb8
    rw [if_neg hb8] at hx5o
    refine VW.exit ?_
    cases hx5o
    have hq := hx5b _ rfl
    subst hq
    exact Fits.of rfl
  replace hb8 : s5.2.2 < (s5.1.length : Int) := by simpa [ieq, ilt, ile] using hb8
  rw [if_pos hb8] at hx5o
  refine VW.skip ?_
  refine hK7 _ ?_
  obtain ⟨x9, hx9, hx5o⟩ := bind_some hx5o
  refine VW.sqE [(0, .ref 0 [] true (dI x9.1)), (1, .val (.fn 156 [.ptr [dM a1_0_0]])), (5, .val (i64 x9.2)), (6, .val (i64 s5.2.2))] ?_ ?_
  · clear hx9
    -- region 6
    refine VW.wr tau_ok Sound.none [some 20, some 21, some 6] [(0, .ref 0 [] true (dI x9.1)), (1, .val (.fn 156 [.ptr [dM a1_0_0]])), (5, .val (i64 x9.2)), (6, .val (i64 (w64 (s5.2.2 + 1))))] rfl ?_ ?_
    · simp <;> simp [ieq, ilt, ile]
    cases hx5o
    exact ⟨_, rfl, Fits.of rfl⟩
  refine VW.block ?_
  -- region 7
  obtain ⟨v11, hv11, hx9⟩ := bind_some hx9
  obtain ⟨hv11a, hv11b, hv11c, hv11d⟩ := idx_some hv11
  refine VW.ws tau_ok Sound.none [some 22, some 23, some 24, some 25, some 7] [(0, .ref 0 [] true (dI s5.1)), (1, .val (.fn 156 [.ptr [dM a1_0_0]])), (5, .val (i64 s5.2.1)), (6, .val (i64 s5.2.2)), (7, .val (i64 v11))] rfl ?_ ?_
  · simp [hv11a, hv11b, hv11c, hv11d] <;> simp [ieq, ilt, ile]
  -- region 8
  obtain ⟨v12, hv12, hx9⟩ := bind_some hx9
  refine VW.ws tau_ok (Sound.none.add 28 (i_LoopCentre_c1_ok hv12) rfl) [some 26, some 27, some 28, some 29] [(0, .ref 0 [] true (dI s5.1)), (1, .val (.fn 156 [.ptr [dM a1_0_0]])), (5, .val (i64 s5.2.1)), (6, .val (i64 s5.2.2)), (7, .val (i64 v11)), (29, .val (.bool (!v12)))] rfl ?_ ?_
  · simp <;> simp [ieq, ilt, ile]
  refine VW.cond rfl (fun hb13 => ?_) (fun hb13 => ?_)
  rotate_left
  ·
    replace hb13 : ¬ (v12 = false) := by simpa [ieq, ilt, ile] using hb13
    rw [if_neg hb13] at hx9
    refine VW.skip ?_
    cases hx9
    exact Fits.of rfl
  replace hb13 : v12 = false := by simpa [ieq, ilt, ile] using hb13
  rw [if_pos hb13] at hx9
  -- region 9
  obtain ⟨v14, hv14, hx9⟩ := bind_some hx9
  obtain ⟨hv14a, hv14b, hv14c, hv14d⟩ := idx_some hv14
  refine VW.ws tau_ok Sound.none [some 30, some 31, some 32, some 33, none] [(0, .ref 0 [] true (dI (s5.1.set s5.2.1.toNat v11))), (1, .val (.fn 156 [.ptr [dM a1_0_0]])), (5, .val (i64 s5.2.1)), (6, .val (i64 s5.2.2))] rfl ?_ ?_
  · simp [hv14a, hv14b, hv14c, hv14d] <;> simp [ieq, ilt, ile]
  -- region 10
  refine VW.wr tau_ok Sound.none [some 34, some 35, some 5] [(0, .ref 0 [] true (dI (s5.1.set s5.2.1.toNat v11))), (1, .val (.fn 156 [.ptr [dM a1_0_0]])), (5, .val (i64 (w64 (s5.2.1 + 1)))), (6, .val (i64 s5.2.2))] rfl ?_ ?_
  · simp <;> simp [ieq, ilt, ile]
  cases hx9
  exact Fits.of rfl

theorem i_LoopCentre_ok {a0 : List (List Int)} {r : (List Int) × Int} (h : i_LoopCentre a0 = some r) :
    VCall Try.prog 73 [dM a0] [.own true (dI r.1), .sc (i64 r.2)] := by
  unfold i_LoopCentre at h
  refine VCall.enter Try.call73 Try.func73 rfl 14 Try.ntmps73 (by simp) [.tmp 2, .tmp 3] rfl ?_
  show VW _ _ _ (mk [(0, .val (dM a0))]) _
  -- region 0
  refine VW.ws tau_ok Sound.none [some 1, some 2, some 3] [(1, .val (.ptr [dM a0]))] rfl ?_ ?_
  · simp <;> simp [ieq, ilt, ile]
  refine VW.sqc fun K1 hK1 hCK1 => ?_
  -- region 1
  obtain ⟨v2, hv2, h⟩ := bind_some h
  refine VW.ws tau_ok (Sound.none.add 6 (i_checkLoop_ok hv2) rfl) [some 5, some 6, some 4] [(1, .val (.ptr [dM a0])), (4, .val (i64 v2))] rfl ?_ ?_
  · simp <;> simp [ieq, ilt, ile]
  -- region 2
  refine VW.ws tau_ok Sound.none [some 7, some 8] [(1, .val (.ptr [dM a0])), (4, .val (i64 v2)), (8, .val (.bool (!(ieq v2 0))))] rfl ?_ ?_
  · simp <;> simp [ieq, ilt, ile]
  refine VW.cond rfl (fun hb3 => ?_) (fun hb3 => ?_)
  ·
    replace hb3 : ¬ v2 = 0 := by simpa [ieq, ilt, ile] using hb3
    rw [if_pos hb3] at h
    -- region 3
    refine VW.ws tau_ok Sound.none [some 9, some 2, some 3] [(2, .ref 2 [] true (.list [])), (3, .val (i64 v2))] rfl ?_ ?_
    · simp <;> simp [ieq, ilt, ile]
    cases h
    refine VW.ret ?_
    simp [Post, PostM, PostC, PostC2, Nx, Bk]
  replace hb3 : ¬ (¬ v2 = 0) := by simpa [ieq, ilt, ile] using hb3
  rw [if_neg hb3] at h
  refine VW.skip ?_
  refine hK1 _ ?_
  -- region 4
  obtain ⟨v4, hv4, h⟩ := bind_some h
  obtain ⟨v5, hv5, h⟩ := bind_some h
  refine VW.mid tau_ok (Sound.none.add 11 (i_nucleus_ok hv4) rfl) [some 10, some 11, some 12, some 13, some 2, some 3] 3 [(11, .ref 11 [] true (dI v4)), (12, .val (.fn 156 [.ptr [dM a0]]))] _ (fun _ => [(2, .ref 2 [] true (dI v5)), (3, .val (i64 0))]) (fun _ => True) _ rfl rfl rfl ?_ (step_take rfl rfl rfl (by simp) rfl rfl (g_slices_DeleteFunc_LI_I_of_i_LoopCentre_c1_ok hv5)) (fun _ _ => ?_) (fun _ _ => ?_)
  · simp <;> simp [ieq, ilt, ile]
  · simp <;> simp [ieq, ilt, ile]
  cases h
  refine VW.ret ?_
  simp [Post, PostM, PostC, PostC2, Nx, Bk]

theorem l_eqInt64S_ok {a0 : List Int} {a1 : List Int} {r : Bool} (h : l_eqInt64S a0 a1 = some r) :
    VCall Try.prog 81 [dI a0, dI a1] [.sc (.bool r)] := by
  unfold l_eqInt64S at h
  refine VCall.enter Try.call81 Try.func81 rfl 26 Try.ntmps81 (by simp) [.tmp 4] rfl ?_
  show VW _ _ _ (mk [(0, .val (dI a0)), (1, .val (dI a1))]) _
  -- region 0
  refine VW.ws tau_ok Sound.none [some 4] [(0, .val (dI a0)), (1, .val (dI a1))] rfl ?_ ?_
  · simp <;> simp [ieq, ilt, ile]
  refine VW.sqc fun K1 hK1 hCK1 => ?_
  -- region 1
  refine VW.ws tau_ok Sound.none [some 6, some 7, some 8, some 9, some 10] [(0, .val (dI a0)), (1, .val (dI a1)), (10, .val (.bool (!(ieq (a0.length : Int) (a1.length : Int)))))] rfl ?_ ?_
  · simp <;> simp [ieq, ilt, ile]
  refine VW.cond rfl (fun hb2 => ?_) (fun hb2 => ?_)
  ·
    replace hb2 : ¬ (a0.length : Int) = (a1.length : Int) := by simpa [ieq, ilt, ile] using hb2
    rw [if_pos hb2] at h
    -- region 2
    refine VW.ws tau_ok Sound.none [some 4] [(4, .val (.bool false))] rfl ?_ ?_
    · simp <;> simp [ieq, ilt, ile]
    cases h
    refine VW.ret ?_
    simp [Post, PostM, PostC, PostC2, Nx, Bk]
  replace hb2 : ¬ (¬ (a0.length : Int) = (a1.length : Int)) := by simpa [ieq, ilt, ile] using hb2
  rw [if_neg hb2] at h
  refine VW.skip ?_
  refine hK1 _ ?_
  refine VW.sqc fun K3 hK3 hCK3 => ?_
  -- region 3
  refine VW.ws tau_ok Sound.none [some 5] [(0, .val (dI a0)), (1, .val (dI a1)), (5, .val (i64 0))] rfl ?_ ?_
  · simp <;> simp [ieq, ilt, ile]
  obtain ⟨x4, hx4, h⟩ := bind_some h
  refine VW.tlO (fun y6 => []) x4 (hCK3) ?_ ?_
  · clear hx4
    rintro y6 rfl
    dsimp only at h
    refine hK3 _ ?_
    -- region 8
    refine VW.ws tau_ok Sound.none [some 4] [(4, .val (.bool true))] rfl ?_ ?_
    · simp <;> simp [ieq, ilt, ile]
    cases h
    refine VW.ret ?_
    simp [Post, PostM, PostC, PostC2, Nx, Bk]
  refine VW.block ?_
  refine VW.loopF (l_eqInt64S_L0 a0 a1) (fun s4 => [(0, .val (dI a0)), (1, .val (dI a1)), (5, .val (i64 s4))]) hx4 (Fits.of rfl) ?_
  clear hx4
  intro s4 ox4 hx4o hx4b
  unfold l_eqInt64S_L0 at hx4o
  refine VW.sqc fun K7 hK7 hCK7 => ?_
  -- region 4
  refine VW.ws tau_ok Sound.none [some 11, some 12, some 13, some 14] [(0, .val (dI a0)), (1, .val (dI a1)), (5, .val (i64 s4)), (14, .val (.bool (ilt s4 (a0.length : Int))))] rfl ?_ ?_
  · simp <;> simp [ieq, ilt, ile]
  refine VW.cond rfl (fun hb8 => ?_) (fun hb8 => ?_)
  rotate_left
  ·
    replace hb8 : ¬ (s4 < (a0.length : Int)) := by simpa [ieq, ilt, ile] using hb8
    rw [if_neg hb8] at hx4o
    refine VW.exit ?_
    cases hx4o
    have hq := hx4b _ rfl
    subst hq
    exact ⟨_, rfl, Fits.of rfl⟩
  replace hb8 : s4 < (a0.length : Int) := by simpa [ieq, ilt, ile] using hb8
  rw [if_pos hb8] at hx4o
  refine VW.skip ?_
  refine hK7 _ ?_
  refine VW.sqc fun K9 hK9 hCK9 => ?_
  refine VW.block ?_
  -- region 6
  obtain ⟨v10, hv10, hx4o⟩ := bind_some hx4o
  obtain ⟨hv10a, hv10b, hv10c, hv10d⟩ := idx_some hv10
  obtain ⟨v11, hv11, hx4o⟩ := bind_some hx4o
  obtain ⟨hv11a, hv11b, hv11c, hv11d⟩ := idx_some hv11
  refine VW.wds tau_ok Sound.none try_mixed [some 17, some 18, some 19, some 20, some 21, some 22, some 23, some 24, some 25] [(0, .val (dI a0)), (1, .val (dI a1)), (5, .val (i64 s4)), (25, .val (.bool (!(ieq v10 v11))))] 9 rfl (by kernel_rfl) (by rfl) ?_ ?_
  · simp [hv10a, hv10b, hv10c, hv10d, hv11a, hv11b, hv11c, hv11d] <;> simp [ieq, ilt, ile]
  refine VW.cond rfl (fun hb12 => ?_) (fun hb12 => ?_)
  rotate_left
  ·
    replace hb12 : ¬ (¬ v10 = v11) := by simpa [ieq, ilt, ile] using hb12
    rw [if_neg hb12] at hx4o
    refine VW.skip ?_
    refine hK9 _ ?_
    -- region 5
    refine VW.wr tau_ok Sound.none [some 15, some 16, some 5] [(0, .val (dI a0)), (1, .val (dI a1)), (5, .val (i64 (w64 (s4 + 1))))] rfl ?_ ?_
    · simp <;> simp [ieq, ilt, ile]
    cases hx4o
    exact ⟨_, rfl, Fits.of rfl⟩
  replace hb12 : ¬ v10 = v11 := by simpa [ieq, ilt, ile] using hb12
  rw [if_pos hb12] at hx4o
  -- region 7
  refine VW.ws tau_ok Sound.none [some 4] [(4, .val (.bool false))] rfl ?_ ?_
  · simp <;> simp [ieq, ilt, ile]
  cases hx4o
  have hq := hx4b _ rfl
  subst hq
  dsimp only at h
  cases h
  refine VW.ret ?_
  simp [Post, PostM, PostC, PostC2, Nx, Bk]

theorem l_eqInt64SS_ok {a0 : List (List Int)} {a1 : List (List Int)} {r : Bool} (h : l_eqInt64SS a0 a1 = some r) :
    VCall Try.prog 44 [dM a0, dM a1] [.sc (.bool r)] := by
  unfold l_eqInt64SS at h
  refine VCall.enter Try.call44 Try.func44 rfl 27 Try.ntmps44 (by simp) [.tmp 4] rfl ?_
  show VW _ _ _ (mk [(0, .val (dM a0)), (1, .val (dM a1))]) _
  -- region 0
  refine VW.ws tau_ok Sound.none [some 4] [(0, .val (dM a0)), (1, .val (dM a1))] rfl ?_ ?_
  · simp <;> simp [ieq, ilt, ile]
  refine VW.sqc fun K1 hK1 hCK1 => ?_
  -- region 1
  refine VW.ws tau_ok Sound.none [some 6, some 7, some 8, some 9, some 10] [(0, .val (dM a0)), (1, .val (dM a1)), (10, .val (.bool (!(ieq (a0.length : Int) (a1.length : Int)))))] rfl ?_ ?_
  · simp <;> simp [ieq, ilt, ile]
  refine VW.cond rfl (fun hb2 => ?_) (fun hb2 => ?_)
  ·
    replace hb2 : ¬ (a0.length : Int) = (a1.length : Int) := by simpa [ieq, ilt, ile] using hb2
    rw [if_pos hb2] at h
    -- region 2
    refine VW.ws tau_ok Sound.none [some 4] [(4, .val (.bool false))] rfl ?_ ?_
    · simp <;> simp [ieq, ilt, ile]
    cases h
    refine VW.ret ?_
    simp [Post, PostM, PostC, PostC2, Nx, Bk]
  replace hb2 : ¬ (¬ (a0.length : Int) = (a1.length : Int)) := by simpa [ieq, ilt, ile] using hb2
  rw [if_neg hb2] at h
  refine VW.skip ?_
  refine hK1 _ ?_
  refine VW.sqc fun K3 hK3 hCK3 => ?_
  -- region 3
  refine VW.ws tau_ok Sound.none [some 5] [(0, .val (dM a0)), (1, .val (dM a1)), (5, .val (i64 0))] rfl ?_ ?_
  · simp <;> simp [ieq, ilt, ile]
  obtain ⟨x4, hx4, h⟩ := bind_some h
  refine VW.tlO (fun y6 => []) x4 (hCK3) ?_ ?_
  · clear hx4
    rintro y6 rfl
    dsimp only at h
    refine hK3 _ ?_
    -- region 8
    refine VW.ws tau_ok Sound.none [some 4] [(4, .val (.bool true))] rfl ?_ ?_
    · simp <;> simp [ieq, ilt, ile]
    cases h
    refine VW.ret ?_
    simp [Post, PostM, PostC, PostC2, Nx, Bk]
  refine VW.block ?_
  refine VW.loopF (l_eqInt64SS_L0 a0 a1) (fun s4 => [(0, .val (dM a0)), (1, .val (dM a1)), (5, .val (i64 s4))]) hx4 (Fits.of rfl) ?_
  clear hx4
  intro s4 ox4 hx4o hx4b
  unfold l_eqInt64SS_L0 at hx4o
  refine VW.sqc fun K7 hK7 hCK7 => ?_
  -- region 4
  refine VW.ws tau_ok Sound.none [some 11, some 12, some 13, some 14] [(0, .val (dM a0)), (1, .val (dM a1)), (5, .val (i64 s4)), (14, .val (.bool (ilt s4 (a0.length : Int))))] rfl ?_ ?_
  · simp <;> simp [ieq, ilt, ile]
  refine VW.cond rfl (fun hb8 => ?_) (fun hb8 => ?_)
  rotate_left
  ·
    replace hb8 : ¬ (s4 < (a0.length : Int)) := by simpa [ieq, ilt, ile] using hb8
    rw [if_neg hb8] at hx4o
    refine VW.exit ?_
    cases hx4o
    have hq := hx4b _ rfl
    subst hq
    exact ⟨_, rfl, Fits.of rfl⟩
  replace hb8 : s4 < (a0.length : Int) := by simpa [ieq, ilt, ile] using hb8
  rw [if_pos hb8] at hx4o
  refine VW.skip ?_
  refine hK7 _ ?_
  refine VW.sqc fun K9 hK9 hCK9 => ?_
  refine VW.block ?_
  -- region 6
  obtain ⟨v10, hv10, hx4o⟩ := bind_some hx4o
  obtain ⟨hv10a, hv10b, hv10c, hv10d⟩ := idx_some hv10
  obtain ⟨v11, hv11, hx4o⟩ := bind_some hx4o
  obtain ⟨hv11a, hv11b, hv11c, hv11d⟩ := idx_some hv11
  obtain ⟨v12, hv12, hx4o⟩ := bind_some hx4o
  refine VW.wds tau_ok (Sound.none.add 25 (l_eqInt64S_ok hv12) rfl) try_mixed [some 17, some 18, some 19, some 20, some 21, some 22, some 23, some 24, some 25, some 26] [(0, .val (dM a0)), (1, .val (dM a1)), (5, .val (i64 s4)), (26, .val (.bool (!v12)))] 10 rfl (by kernel_rfl) (by rfl) ?_ ?_
  · simp [hv10a, hv10b, hv10c, hv10d, hv11a, hv11b, hv11c, hv11d] <;> simp [ieq, ilt, ile]
  refine VW.cond rfl (fun hb13 => ?_) (fun hb13 => ?_)
  rotate_left
  ·
    replace hb13 : ¬ (v12 = false) := by simpa [ieq, ilt, ile] using hb13
    rw [if_neg hb13] at hx4o
    refine VW.skip ?_
    refine hK9 _ ?_
    -- region 5
    refine VW.wr tau_ok Sound.none [some 15, some 16, some 5] [(0, .val (dM a0)), (1, .val (dM a1)), (5, .val (i64 (w64 (s4 + 1))))] rfl ?_ ?_
    · simp <;> simp [ieq, ilt, ile]
    cases hx4o
    exact ⟨_, rfl, Fits.of rfl⟩
  replace hb13 : v12 = false := by simpa [ieq, ilt, ile] using hb13
  rw [if_pos hb13] at hx4o
  -- region 7
  refine VW.ws tau_ok Sound.none [some 4] [(4, .val (.bool false))] rfl ?_ ?_
  · simp <;> simp [ieq, ilt, ile]
  cases hx4o
  have hq := hx4b _ rfl
  subst hq
  dsimp only at h
  cases h
  refine VW.ret ?_
  simp [Post, PostM, PostC, PostC2, Nx, Bk]

theorem l_markInt64S_ok {a0 : List Int} {a1 : Int} {r : Int × (List Int)} (h : l_markInt64S a0 a1 = some r) :
    VMut Try.prog 82 (dI a0) [i64 a1] (i64 r.1) (dI r.2) := by
  unfold l_markInt64S at h
  refine VMut.enter Try.call82 Try.func82 rfl 19 Try.ntmps82 (by simp) [.tmp 4] rfl ?_
  show VW _ _ _ (mk [(0, .ref 0 [] true (dI a0)), (1, .val (i64 a1))]) _
  -- region 0
  refine VW.ws tau_ok Sound.none [some 4] [(0, .ref 0 [] true (dI a0)), (1, .val (i64 a1))] rfl ?_ ?_
  · simp <;> simp [ieq, ilt, ile]
  refine VW.sqc fun K1 hK1 hCK1 => ?_
  -- region 1
  refine VW.ws tau_ok Sound.none [some 5] [(0, .ref 0 [] true (dI a0)), (1, .val (i64 a1)), (5, .val (i64 0))] rfl ?_ ?_
  · simp <;> simp [ieq, ilt, ile]
  obtain ⟨x2, hx2, h⟩ := bind_some h
  refine VW.tlE [(0, .ref 0 [] true (dI x2.1)), (1, .val (i64 x2.2))] (hCK1) ?_ ?_
  · clear hx2
    refine hK1 _ ?_
    -- region 6
    refine VW.ws tau_ok Sound.none [some 18, some 4] [(0, .ref 0 [] true (dI x2.1)), (4, .val (i64 x2.2))] rfl ?_ ?_
    · simp <;> simp [ieq, ilt, ile]
    cases h
    refine VW.ret ?_
    simp [Post, PostM, PostC, PostC2, Nx, Bk]
  refine VW.block ?_
  refine VW.loopF l_markInt64S_L0 (fun s2 => [(0, .ref 0 [] true (dI s2.1)), (1, .val (i64 s2.2.1)), (5, .val (i64 s2.2.2))]) hx2 (Fits.of rfl) ?_
  clear hx2
  intro s2 ox2 hx2o hx2b
  unfold l_markInt64S_L0 at hx2o
  refine VW.sqc fun K4 hK4 hCK4 => ?_
  -- region 2
  refine VW.ws tau_ok Sound.none [some 6, some 7, some 8, some 9] [(0, .ref 0 [] true (dI s2.1)), (1, .val (i64 s2.2.1)), (5, .val (i64 s2.2.2)), (9, .val (.bool (ilt s2.2.2 (s2.1.length : Int))))] rfl ?_ ?_
  · simp <;> simp [ieq, ilt, ile]
  refine VW.cond rfl (fun hb5 => ?_) (fun hb5 => ?_)
  rotate_left
  ·
    replace hb5 : ¬ (s2.2.2 < (s2.1.length : Int)) := by simpa [ieq, ilt, ile] using hb5
    rw [if_neg hb5] at hx2o
    refine VW.exit ?_
    cases hx2o
    have hq := hx2b _ rfl
    subst hq
    exact Fits.of rfl
  replace hb5 : s2.2.2 < (s2.1.length : Int) := by simpa [ieq, ilt, ile] using hb5
  rw [if_pos hb5] at hx2o
  refine VW.skip ?_
  refine hK4 _ ?_
  refine VW.sqc fun K6 hK6 hCK6 => ?_
  refine VW.block ?_
  -- region 4
  obtain ⟨v7, hv7, hx2o⟩ := bind_some hx2o
  obtain ⟨hv7a, hv7b, hv7c, hv7d⟩ := idx_some hv7
  refine VW.ws tau_ok Sound.none [some 12, some 13, some 14, some 15, none] [(0, .ref 0 [] true (dI (s2.1.set s2.2.2.toNat s2.2.1))), (1, .val (i64 s2.2.1)), (5, .val (i64 s2.2.2))] rfl ?_ ?_
  · simp [hv7a, hv7b, hv7c, hv7d] <;> simp [ieq, ilt, ile]
  -- region 5
  refine VW.wr tau_ok Sound.none [some 16, some 17, some 1] [(0, .ref 0 [] true (dI (s2.1.set s2.2.2.toNat s2.2.1))), (1, .val (i64 (w64 (s2.2.1 + 1)))), (5, .val (i64 s2.2.2))] rfl ?_ ?_
  · simp <;> simp [ieq, ilt, ile]
  refine hK6 _ ?_
  -- region 3
  refine VW.wr tau_ok Sound.none [some 10, some 11, some 5] [(0, .ref 0 [] true (dI (s2.1.set s2.2.2.toNat s2.2.1))), (1, .val (i64 (w64 (s2.2.1 + 1)))), (5, .val (i64 (w64 (s2.2.2 + 1))))] rfl ?_ ?_
  · simp <;> simp [ieq, ilt, ile]
  cases hx2o
  exact ⟨_, rfl, Fits.of rfl⟩

theorem l_markInt64SS_ok {a0 : List (List Int)} {a1 : Int} {r : Int × (List (List Int))} (h : l_markInt64SS a0 a1 = some r) :
    VMut Try.prog 48 (dM a0) [i64 a1] (i64 r.1) (dM r.2) := by
  unfold l_markInt64SS at h
  refine VMut.enter Try.call48 Try.func48 rfl 19 Try.ntmps48 (by simp) [.tmp 4] rfl ?_
  show VW _ _ _ (mk [(0, .ref 0 [] true (dM a0)), (1, .val (i64 a1))]) _
  -- region 0
  refine VW.ws tau_ok Sound.none [some 4] [(0, .ref 0 [] true (dM a0)), (1, .val (i64 a1))] rfl ?_ ?_
  · simp <;> simp [ieq, ilt, ile]
  refine VW.sqc fun K1 hK1 hCK1 => ?_
  -- region 1
  refine VW.ws tau_ok Sound.none [some 5] [(0, .ref 0 [] true (dM a0)), (1, .val (i64 a1)), (5, .val (i64 0))] rfl ?_ ?_
  · simp <;> simp [ieq, ilt, ile]
  obtain ⟨x2, hx2, h⟩ := bind_some h
  refine VW.tlE [(0, .ref 0 [] true (dM x2.1)), (1, .val (i64 x2.2))] (hCK1) ?_ ?_
  · clear hx2
    refine hK1 _ ?_
    -- region 5
    refine VW.ws tau_ok Sound.none [some 18, some 4] [(0, .ref 0 [] true (dM x2.1)), (4, .val (i64 x2.2))] rfl ?_ ?_
    · simp <;> simp [ieq, ilt, ile]
    cases h
    refine VW.ret ?_
    simp [Post, PostM, PostC, PostC2, Nx, Bk]
  refine VW.block ?_
  refine VW.loopF l_markInt64SS_L0 (fun s2 => [(0, .ref 0 [] true (dM s2.1)), (1, .val (i64 s2.2.1)), (5, .val (i64 s2.2.2))]) hx2 (Fits.of rfl) ?_
  clear hx2
  intro s2 ox2 hx2o hx2b
  unfold l_markInt64SS_L0 at hx2o
  refine VW.sqc fun K4 hK4 hCK4 => ?_
  -- region 2
  refine VW.ws tau_ok Sound.none [some 6, some 7, some 8, some 9] [(0, .ref 0 [] true (dM s2.1)), (1, .val (i64 s2.2.1)), (5, .val (i64 s2.2.2)), (9, .val (.bool (ilt s2.2.2 (s2.1.length : Int))))] rfl ?_ ?_
  · simp <;> simp [ieq, ilt, ile]
  refine VW.cond rfl (fun hb5 => ?_) (fun hb5 => ?_)
  rotate_left
  ·
    replace hb5 : ¬ (s2.2.2 < (s2.1.length : Int)) := by simpa [ieq, ilt, ile] using hb5
    rw [if_neg hb5] at hx2o
    refine VW.exit ?_
    cases hx2o
    have hq := hx2b _ rfl
    subst hq
    exact Fits.of rfl
  replace hb5 : s2.2.2 < (s2.1.length : Int) := by simpa [ieq, ilt, ile] using hb5
  rw [if_pos hb5] at hx2o
  refine VW.skip ?_
  refine hK4 _ ?_
  refine VW.sqc fun K6 hK6 hCK6 => ?_
  refine VW.block ?_
  -- region 4
  obtain ⟨v7, hv7, hx2o⟩ := bind_some hx2o
  obtain ⟨hv7a, hv7b, hv7c, hv7d⟩ := idx_some hv7
  obtain ⟨v8, hv8, hx2o⟩ := bind_some hx2o
  refine VW.wr tau_ok (Sound.none.mutc 17 (l_markInt64S_ok hv8)) [some 12, some 13, some 14, some 15, some 16, some 17, some 1] [(0, .ref 0 [] true (dM (s2.1.set s2.2.2.toNat v8.2))), (1, .val (i64 v8.1)), (5, .val (i64 s2.2.2))] rfl ?_ ?_
  · simp [hv7a, hv7b, hv7c, hv7d] <;> simp [ieq, ilt, ile]
  refine hK6 _ ?_
  -- region 3
  refine VW.wr tau_ok Sound.none [some 10, some 11, some 5] [(0, .ref 0 [] true (dM (s2.1.set s2.2.2.toNat v8.2))), (1, .val (i64 v8.1)), (5, .val (i64 (w64 (s2.2.2 + 1))))] rfl ?_ ?_
  · simp <;> simp [ieq, ilt, ile]
  cases hx2o
  exact ⟨_, rfl, Fits.of rfl⟩
end Go.Vam
