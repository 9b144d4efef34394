import Derived.Test.YtbbkiinopmnapaaR3T
import Derived.Test.YtbbkiinopmnapaaFnD
namespace Go.Vam
open Go Go.RowKit Go.Proofs
set_option maxRecDepth 100000
set_option linter.unusedSimpArgs false
set_option linter.unusedVariables false

theorem l_szInt64S_ok {a0 : List Int} {a1 : Int} {r : Int} (h : l_szInt64S a0 a1 = some r) :
    VCall Try.prog 78 [dI a0, i64 a1] [.sc (i64 r)] := by
  unfold l_szInt64S at h
  refine VCall.enter Try.call78 Try.func78 rfl 12 Try.ntmps78 (by simp) [.tmp 4] rfl ?_
  show VW _ _ _ (mk [(0, .val (dI a0)), (1, .val (i64 a1))]) _
  -- region 0
  refine VW.ws tau_ok Sound.none [some 4] [(0, .val (dI a0)), (1, .val (i64 a1))] rfl ?_ ?_
  · simp <;> simp [ieq, ilt, ile]
  -- region 1
  refine VW.ws tau_ok Sound.none [some 5, some 6, some 7, some 8, some 1] [(1, .val (i64 (w64 (a1 - (a0.length : Int)))))] rfl ?_ ?_
  · simp <;> simp [ieq, ilt, ile]
  refine VW.sqc fun K1 hK1 hCK1 => ?_
  -- region 2
  refine VW.ws tau_ok Sound.none [some 9, some 10] [(1, .val (i64 (w64 (a1 - (a0.length : Int))))), (10, .val (.bool (ilt (w64 (a1 - (a0.length : Int))) 0)))] rfl ?_ ?_
  · simp <;> simp [ieq, ilt, ile]
  refine VW.cond rfl (fun hb2 => ?_) (fun hb2 => ?_)
  ·
    replace hb2 : (w64 (a1 - (a0.length : Int))) < 0 := by simpa [ieq, ilt, ile] using hb2
    rw [if_pos hb2] at h
    -- region 3
    refine VW.ws tau_ok Sound.none [some 4] [(4, .val (i64 (-1)))] rfl ?_ ?_
    · simp <;> simp [ieq, ilt, ile]
    cases h
    refine VW.ret ?_
    simp [Post, PostM, PostC, PostC2, Nx, Bk]
  replace hb2 : ¬ ((w64 (a1 - (a0.length : Int))) < 0) := by simpa [ieq, ilt, ile] using hb2
  rw [if_neg hb2] at h
  refine VW.skip ?_
  refine hK1 _ ?_
  -- region 4
  refine VW.ws tau_ok Sound.none [some 11, some 4] [(4, .val (i64 (w64 (a1 - (a0.length : Int)))))] rfl ?_ ?_
  · simp <;> simp [ieq, ilt, ile]
  cases h
  refine VW.ret ?_
  simp [Post, PostM, PostC, PostC2, Nx, Bk]

theorem l_szInt64SS_ok {a0 : List (List Int)} {a1 : Int} {r : Int} (h : l_szInt64SS a0 a1 = some r) :
    VCall Try.prog 15 [dM a0, i64 a1] [.sc (i64 r)] := by
  unfold l_szInt64SS at h
  refine VCall.enter Try.call15 Try.func15 rfl 27 Try.ntmps15 (by simp) [.tmp 4] rfl ?_
  show VW _ _ _ (mk [(0, .val (dM a0)), (1, .val (i64 a1))]) _
  -- region 0
  refine VW.ws tau_ok Sound.none [some 4] [(0, .val (dM a0)), (1, .val (i64 a1))] rfl ?_ ?_
  · simp <;> simp [ieq, ilt, ile]
  -- region 1
  refine VW.ws tau_ok Sound.none [some 6, some 7, some 8, some 9, some 1] [(0, .val (dM a0)), (1, .val (i64 (w64 (a1 - (a0.length : Int)))))] rfl ?_ ?_
  · simp <;> simp [ieq, ilt, ile]
  refine VW.sqc fun K1 hK1 hCK1 => ?_
  -- region 2
  refine VW.ws tau_ok Sound.none [some 10, some 11] [(0, .val (dM a0)), (1, .val (i64 (w64 (a1 - (a0.length : Int))))), (11, .val (.bool (ilt (w64 (a1 - (a0.length : Int))) 0)))] rfl ?_ ?_
  · simp <;> simp [ieq, ilt, ile]
  refine VW.cond rfl (fun hb2 => ?_) (fun hb2 => ?_)
  ·
    replace hb2 : (w64 (a1 - (a0.length : Int))) < 0 := by simpa [ieq, ilt, ile] using hb2
    rw [if_pos hb2] at h
    -- region 3
    refine VW.ws tau_ok Sound.none [some 4] [(4, .val (i64 (-1)))] rfl ?_ ?_
    · simp <;> simp [ieq, ilt, ile]
    cases h
    refine VW.ret ?_
    simp [Post, PostM, PostC, PostC2, Nx, Bk]
  replace hb2 : ¬ ((w64 (a1 - (a0.length : Int))) < 0) := by simpa [ieq, ilt, ile] using hb2
  rw [if_neg hb2] at h
  refine VW.skip ?_
  refine hK1 _ ?_
  refine VW.sqc fun K3 hK3 hCK3 => ?_
  -- region 4
  refine VW.ws tau_ok Sound.none [some 5] [(0, .val (dM a0)), (1, .val (i64 (w64 (a1 - (a0.length : Int))))), (5, .val (i64 0))] rfl ?_ ?_
  · simp <;> simp [ieq, ilt, ile]
  obtain ⟨x4, hx4, h⟩ := bind_some h
  refine VW.tlO (fun y6 => [(1, .val (i64 y6))]) x4 (hCK3) ?_ ?_
  · clear hx4
    rintro y6 rfl
    dsimp only at h
    refine hK3 _ ?_
    -- region 10
    refine VW.ws tau_ok Sound.none [some 26, some 4] [(4, .val (i64 y6))] rfl ?_ ?_
    · simp <;> simp [ieq, ilt, ile]
    cases h
    refine VW.ret ?_
    simp [Post, PostM, PostC, PostC2, Nx, Bk]
  refine VW.block ?_
  refine VW.loopF (l_szInt64SS_L0 a0) (fun s4 => [(0, .val (dM a0)), (1, .val (i64 s4.1)), (5, .val (i64 s4.2))]) hx4 (Fits.of rfl) ?_
  clear hx4
  intro s4 ox4 hx4o hx4b
  unfold l_szInt64SS_L0 at hx4o
  refine VW.sqc fun K7 hK7 hCK7 => ?_
  -- region 5
  refine VW.ws tau_ok Sound.none [some 12, some 13, some 14, some 15] [(0, .val (dM a0)), (1, .val (i64 s4.1)), (5, .val (i64 s4.2)), (15, .val (.bool (ilt s4.2 (a0.length : Int))))] rfl ?_ ?_
  · simp <;> simp [ieq, ilt, ile]
  refine VW.cond rfl (fun hb8 => ?_) (fun hb8 => ?_)
  rotate_left
  ·
    replace hb8 : ¬ (s4.2 < (a0.length : Int)) := by simpa [ieq, ilt, ile] using hb8
    rw [if_neg hb8] at hx4o
    refine VW.exit ?_
    cases hx4o
    have hq := hx4b _ rfl
    subst hq
    exact ⟨_, rfl, Fits.of rfl⟩
  replace hb8 : s4.2 < (a0.length : Int) := by simpa [ieq, ilt, ile] using hb8
  rw [if_pos hb8] at hx4o
  refine VW.skip ?_
  refine hK7 _ ?_
  refine VW.sqc fun K9 hK9 hCK9 => ?_
  refine VW.block ?_
  -- region 7
  obtain ⟨v10, hv10, hx4o⟩ := bind_some hx4o
  obtain ⟨hv10a, hv10b, hv10c, hv10d⟩ := idx_some hv10
  obtain ⟨v11, hv11, hx4o⟩ := bind_some hx4o
  refine VW.ws tau_ok (Sound.none.add 23 (l_szInt64S_ok hv11) rfl) [some 18, some 19, some 20, some 21, some 22, some 23, some 1] [(0, .val (dM a0)), (1, .val (i64 v11)), (5, .val (i64 s4.2))] rfl ?_ ?_
  · simp [hv10a, hv10b, hv10c, hv10d] <;> simp [ieq, ilt, ile]
  -- region 8
  refine VW.ws tau_ok Sound.none [some 24, some 25] [(0, .val (dM a0)), (1, .val (i64 v11)), (5, .val (i64 s4.2)), (25, .val (.bool (ilt v11 0)))] rfl ?_ ?_
  · simp <;> simp [ieq, ilt, ile]
  refine VW.cond rfl (fun hb12 => ?_) (fun hb12 => ?_)
  rotate_left
  ·
    replace hb12 : ¬ (v11 < 0) := by simpa [ieq, ilt, ile] using hb12
    rw [if_neg hb12] at hx4o
    refine VW.skip ?_
    refine hK9 _ ?_
    -- region 6
    refine VW.wr tau_ok Sound.none [some 16, some 17, some 5] [(0, .val (dM a0)), (1, .val (i64 v11)), (5, .val (i64 (w64 (s4.2 + 1))))] rfl ?_ ?_
    · simp <;> simp [ieq, ilt, ile]
    cases hx4o
    exact ⟨_, rfl, Fits.of rfl⟩
  replace hb12 : v11 < 0 := by simpa [ieq, ilt, ile] using hb12
  rw [if_pos hb12] at hx4o
  -- region 9
  refine VW.ws tau_ok Sound.none [some 4] [(4, .val (i64 (-1)))] rfl ?_ ?_
  · simp <;> simp [ieq, ilt, ile]
  cases hx4o
  have hq := hx4b _ rfl
  subst hq
  dsimp only at h
  cases h
  refine VW.ret ?_
  simp [Post, PostM, PostC, PostC2, Nx, Bk]

theorem l_toInt64S_ok {a0 : List Int} {r : List Int} (h : l_toInt64S a0 = some r) :
    VCall Try.prog 52 [dI a0] [.own true (dI r)] := by
  unfold l_toInt64S at h
  refine VCall.enter Try.call52 Try.func52 rfl 22 Try.ntmps52 (by simp) [.tmp 2] rfl ?_
  show VW _ _ _ (mk [(0, .val (dI a0))]) _
  -- region 0
  refine VW.ws tau_ok Sound.none [some 2] [(0, .val (dI a0))] rfl ?_ ?_
  · simp <;> simp [ieq, ilt, ile]
  -- region 1
  obtain ⟨hc1, h⟩ := chk_some h
  have hc1s := hc1
  try simp at hc1s
  refine VW.ws tau_ok Sound.none [some 5, some 6, some 7, some 3] [(0, .val (dI a0)), (3, .ref 3 [] true (dI (List.replicate (a0.length : Int).toNat 0)))] rfl ?_ ?_
  · simp [hc1, hc1s] <;> simp [ieq, ilt, ile]
  refine VW.sqc fun K2 hK2 hCK2 => ?_
  -- region 2
  refine VW.ws tau_ok Sound.none [some 4] [(0, .val (dI a0)), (3, .ref 3 [] true (dI (List.replicate (a0.length : Int).toNat 0))), (4, .val (i64 0))] rfl ?_ ?_
  · simp <;> simp [ieq, ilt, ile]
  obtain ⟨x3, hx3, h⟩ := bind_some h
  refine VW.tlE [(3, .ref 3 [] true (dI x3))] (hCK2) ?_ ?_
  · clear hx3
    refine hK2 _ ?_
    -- region 6
    refine VW.ws tau_ok Sound.none [some 21, some 2] [(2, .ref 2 [] true (dI x3))] rfl ?_ ?_
    · simp <;> simp [ieq, ilt, ile]
    cases h
    refine VW.ret ?_
    simp [Post, PostM, PostC, PostC2, Nx, Bk]
  refine VW.block ?_
  refine VW.loopF (l_toInt64S_L0 a0) (fun s3 => [(0, .val (dI a0)), (3, .ref 3 [] true (dI s3.1)), (4, .val (i64 s3.2))]) hx3 (Fits.of rfl) ?_
  clear hx3
  intro s3 ox3 hx3o hx3b
  unfold l_toInt64S_L0 at hx3o
  refine VW.sqc fun K5 hK5 hCK5 => ?_
  -- region 3
  refine VW.ws tau_ok Sound.none [some 8, some 9, some 10, some 11] [(0, .val (dI a0)), (3, .ref 3 [] true (dI s3.1)), (4, .val (i64 s3.2)), (11, .val (.bool (ilt s3.2 (a0.length : Int))))] rfl ?_ ?_
  · simp <;> simp [ieq, ilt, ile]
  refine VW.cond rfl (fun hb6 => ?_) (fun hb6 => ?_)
  rotate_left
  ·
    replace hb6 : ¬ (s3.2 < (a0.length : Int)) := by simpa [ieq, ilt, ile] using hb6
    rw [if_neg hb6] at hx3o
    refine VW.exit ?_
    cases hx3o
    have hq := hx3b _ rfl
    subst hq
    exact Fits.of rfl
  replace hb6 : s3.2 < (a0.length : Int) := by simpa [ieq, ilt, ile] using hb6
  rw [if_pos hb6] at hx3o
  refine VW.skip ?_
  refine hK5 _ ?_
  refine VW.sqc fun K7 hK7 hCK7 => ?_
  refine VW.block ?_
  -- region 5
  obtain ⟨v8, hv8, hx3o⟩ := bind_some hx3o
  obtain ⟨hv8a, hv8b, hv8c, hv8d⟩ := idx_some hv8
  obtain ⟨v9, hv9, hx3o⟩ := bind_some hx3o
  obtain ⟨hv9a, hv9b, hv9c, hv9d⟩ := idx_some hv9
  refine VW.wr tau_ok Sound.none [some 14, some 15, some 16, some 17, some 18, some 19, some 20, none] [(0, .val (dI a0)), (3, .ref 3 [] true (dI (s3.1.set s3.2.toNat v8))), (4, .val (i64 s3.2))] rfl ?_ ?_
  · simp [hv8a, hv8b, hv8c, hv8d, hv9a, hv9b, hv9c, hv9d] <;> simp [ieq, ilt, ile]
  refine hK7 _ ?_
  -- region 4
  refine VW.wr tau_ok Sound.none [some 12, some 13, some 4] [(0, .val (dI a0)), (3, .ref 3 [] true (dI (s3.1.set s3.2.toNat v8))), (4, .val (i64 (w64 (s3.2 + 1))))] rfl ?_ ?_
  · simp <;> simp [ieq, ilt, ile]
  cases hx3o
  exact ⟨_, rfl, Fits.of rfl⟩

theorem l_toInt64SS_ok {a0 : List (List Int)} {r : List (List Int)} (h : l_toInt64SS a0 = some r) :
    VCall Try.prog 17 [dM a0] [.own true (dM r)] := by
  unfold l_toInt64SS at h
  refine VCall.enter Try.call17 Try.func17 rfl 23 Try.ntmps17 (by simp) [.tmp 2] rfl ?_
  show VW _ _ _ (mk [(0, .val (dM a0))]) _
  -- region 0
  refine VW.ws tau_ok Sound.none [some 2] [(0, .val (dM a0))] rfl ?_ ?_
  · simp <;> simp [ieq, ilt, ile]
  -- region 1
  obtain ⟨hc1, h⟩ := chk_some h
  have hc1s := hc1
  try simp at hc1s
  refine VW.ws tau_ok Sound.none [some 5, some 6, some 7, some 3] [(0, .val (dM a0)), (3, .ref 3 [] true (dM (List.replicate (a0.length : Int).toNat [])))] rfl ?_ ?_
  · simp [hc1, hc1s] <;> simp [ieq, ilt, ile]
  refine VW.sqc fun K2 hK2 hCK2 => ?_
  -- region 2
  refine VW.ws tau_ok Sound.none [some 4] [(0, .val (dM a0)), (3, .ref 3 [] true (dM (List.replicate (a0.length : Int).toNat []))), (4, .val (i64 0))] rfl ?_ ?_
  · simp <;> simp [ieq, ilt, ile]
  obtain ⟨x3, hx3, h⟩ := bind_some h
  refine VW.tlE [(3, .ref 3 [] true (dM x3))] (hCK2) ?_ ?_
  · clear hx3
    refine hK2 _ ?_
    -- region 6
    refine VW.ws tau_ok Sound.none [some 22, some 2] [(2, .ref 2 [] true (dM x3))] rfl ?_ ?_
    · simp <;> simp [ieq, ilt, ile]
    cases h
    refine VW.ret ?_
    simp [Post, PostM, PostC, PostC2, Nx, Bk]
  refine VW.block ?_
  refine VW.loopF (l_toInt64SS_L0 a0) (fun s3 => [(0, .val (dM a0)), (3, .ref 3 [] true (dM s3.1)), (4, .val (i64 s3.2))]) hx3 (Fits.of rfl) ?_
  clear hx3
  intro s3 ox3 hx3o hx3b
  unfold l_toInt64SS_L0 at hx3o
  refine VW.sqc fun K5 hK5 hCK5 => ?_
  -- region 3
  refine VW.ws tau_ok Sound.none [some 8, some 9, some 10, some 11] [(0, .val (dM a0)), (3, .ref 3 [] true (dM s3.1)), (4, .val (i64 s3.2)), (11, .val (.bool (ilt s3.2 (a0.length : Int))))] rfl ?_ ?_
  · simp <;> simp [ieq, ilt, ile]
  refine VW.cond rfl (fun hb6 => ?_) (fun hb6 => ?_)
  rotate_left
  ·
    replace hb6 : ¬ (s3.2 < (a0.length : Int)) := by simpa [ieq, ilt, ile] using hb6
    rw [if_neg hb6] at hx3o
    refine VW.exit ?_
    cases hx3o
    have hq := hx3b _ rfl
    subst hq
    exact Fits.of rfl
  replace hb6 : s3.2 < (a0.length : Int) := by simpa [ieq, ilt, ile] using hb6
  rw [if_pos hb6] at hx3o
  refine VW.skip ?_
  refine hK5 _ ?_
  refine VW.sqc fun K7 hK7 hCK7 => ?_
  refine VW.block ?_
  -- region 5
  obtain ⟨v8, hv8, hx3o⟩ := bind_some hx3o
  obtain ⟨hv8a, hv8b, hv8c, hv8d⟩ := idx_some hv8
  obtain ⟨v9, hv9, hx3o⟩ := bind_some hx3o
  obtain ⟨v10, hv10, hx3o⟩ := bind_some hx3o
  obtain ⟨hv10a, hv10b, hv10c, hv10d⟩ := idx_some hv10
  refine VW.wr tau_ok (Sound.none.add 20 (l_toInt64S_ok hv9) rfl) [some 14, some 15, some 16, some 17, some 18, some 19, some 20, some 21, none] [(0, .val (dM a0)), (3, .ref 3 [] true (dM (s3.1.set s3.2.toNat v9))), (4, .val (i64 s3.2))] rfl ?_ ?_
  · simp [hv8a, hv8b, hv8c, hv8d, hv10a, hv10b, hv10c, hv10d] <;> simp [ieq, ilt, ile]
  refine hK7 _ ?_
  -- region 4
  refine VW.wr tau_ok Sound.none [some 12, some 13, some 4] [(0, .val (dM a0)), (3, .ref 3 [] true (dM (s3.1.set s3.2.toNat v9))), (4, .val (i64 (w64 (s3.2 + 1))))] rfl ?_ ?_
  · simp <;> simp [ieq, ilt, ile]
  cases hx3o
  exact ⟨_, rfl, Fits.of rfl⟩

theorem s_l01Prime_ok {a0 : Int} {r : Bool} (h : s_l01Prime a0 = some r) :
    VCall Try.prog 180 [i64 a0] [.sc (.bool r)] := by
  unfold s_l01Prime at h
  refine VCall.enter Try.call180 Try.func180 rfl 21 Try.ntmps180 (by simp) [.tmp 2] rfl ?_
  show VW _ _ _ (mk [(0, .val (i64 a0))]) _
  -- region 0
  refine VW.ws tau_ok Sound.none [some 2] [(0, .val (i64 a0))] rfl ?_ ?_
  · simp <;> simp [ieq, ilt, ile]
  -- region 1
  obtain ⟨x5, hx5, h⟩ := bind_some h
  refine VW.cut [(2, .val (.bool x5))] ?_ fun hy => ?_
  rotate_left
  · clear h
    by_cases hp1 : a0 = 3
    · rw [if_pos hp1] at hx5
      have hp1b : ieq a0 3 = true := by simpa [ieq, ilt, ile] using hp1
      have hp1s := hp1b
      try simp at hp1s
      cases hx5
      refine VW.ws tau_ok Sound.none [some 3, some 4, some 5, some 6, some 7, some 8, some 9, some 10, some 11, some 12, some 13, some 14, some 15, some 16, some 17, some 18, some 19, some 20, some 2] _ rfl ?_ hy
      simp [hp1b, hp1s] <;> simp [ieq, ilt, ile]
    · rw [if_neg hp1] at hx5
      have hp1b : ieq a0 3 = false := by simpa [ieq, ilt, ile] using hp1
      have hp1s := hp1b
      try simp at hp1s
      by_cases hp2 : a0 = 5
      · rw [if_pos hp2] at hx5
        have hp2b : ieq a0 5 = true := by simpa [ieq, ilt, ile] using hp2
        have hp2s := hp2b
        try simp at hp2s
        cases hx5
        refine VW.ws tau_ok Sound.none [some 3, some 4, some 5, some 6, some 7, some 8, some 9, some 10, some 11, some 12, some 13, some 14, some 15, some 16, some 17, some 18, some 19, some 20, some 2] _ rfl ?_ hy
        simp [hp1b, hp1s, hp2b, hp2s] <;> simp [ieq, ilt, ile]
      · rw [if_neg hp2] at hx5
        have hp2b : ieq a0 5 = false := by simpa [ieq, ilt, ile] using hp2
        have hp2s := hp2b
        try simp at hp2s
        by_cases hp3 : a0 = 7
        · rw [if_pos hp3] at hx5
          have hp3b : ieq a0 7 = true := by simpa [ieq, ilt, ile] using hp3
          have hp3s := hp3b
          try simp at hp3s
          cases hx5
          refine VW.ws tau_ok Sound.none [some 3, some 4, some 5, some 6, some 7, some 8, some 9, some 10, some 11, some 12, some 13, some 14, some 15, some 16, some 17, some 18, some 19, some 20, some 2] _ rfl ?_ hy
          simp [hp1b, hp1s, hp2b, hp2s, hp3b, hp3s] <;> simp [ieq, ilt, ile]
        · rw [if_neg hp3] at hx5
          have hp3b : ieq a0 7 = false := by simpa [ieq, ilt, ile] using hp3
          have hp3s := hp3b
          try simp at hp3s
          by_cases hp4 : a0 = 11
          · rw [if_pos hp4] at hx5
            have hp4b : ieq a0 11 = true := by simpa [ieq, ilt, ile] using hp4
            have hp4s := hp4b
            try simp at hp4s
            cases hx5
            refine VW.ws tau_ok Sound.none [some 3, some 4, some 5, some 6, some 7, some 8, some 9, some 10, some 11, some 12, some 13, some 14, some 15, some 16, some 17, some 18, some 19, some 20, some 2] _ rfl ?_ hy
            simp [hp1b, hp1s, hp2b, hp2s, hp3b, hp3s, hp4b, hp4s] <;> simp [ieq, ilt, ile]
          · rw [if_neg hp4] at hx5
            have hp4b : ieq a0 11 = false := by simpa [ieq, ilt, ile] using hp4
            have hp4s := hp4b
            try simp at hp4s
            cases hx5
            refine VW.ws tau_ok Sound.none [some 3, some 4, some 5, some 6, some 7, some 8, some 9, some 10, some 11, some 12, some 13, some 14, some 15, some 16, some 17, some 18, some 19, some 20, some 2] _ rfl ?_ hy
            simp [hp1b, hp1s, hp2b, hp2s, hp3b, hp3s, hp4b, hp4s] <;> simp [ieq, ilt, ile]
  cases h
  refine VW.ret ?_
  simp [Post, PostM, PostC, PostC2, Nx, Bk]

theorem s_l01In_ok {a0 : Int} {a1 : Int} {a2 : Int} {r : Bool} (h : s_l01In a0 a1 a2 = some r) :
    VCall Try.prog 168 [i64 a0, i64 a1, i64 a2] [.sc (.bool r)] := by
  unfold s_l01In at h
  refine VCall.enter Try.call168 Try.func168 rfl 15 Try.ntmps168 (by simp) [.tmp 6] rfl ?_
  show VW _ _ _ (mk [(0, .val (i64 a0)), (1, .val (i64 a1)), (2, .val (i64 a2))]) _
  -- region 0
  refine VW.ws tau_ok Sound.none [some 6] [(0, .val (i64 a0)), (1, .val (i64 a1)), (2, .val (i64 a2))] rfl ?_ ?_
  · simp <;> simp [ieq, ilt, ile]
  -- region 1
  obtain ⟨x2, hx2, h⟩ := bind_some h
  refine VW.cut [(6, .val (.bool x2))] ?_ fun hy => ?_
  rotate_left
  · clear h
    by_cases hp1 : a1 ≤ a0
    · rw [if_pos hp1] at hx2
      have hp1b : ile a1 a0 = true := by simpa [ieq, ilt, ile] using hp1
      have hp1s := hp1b
      try simp at hp1s
      cases hx2
      refine VW.ws tau_ok Sound.none [some 7, some 8, some 9, some 10, some 11, some 12, some 13, some 14, some 6] _ rfl ?_ hy
      simp [hp1b, hp1s] <;> simp [ieq, ilt, ile]
    · rw [if_neg hp1] at hx2
      have hp1b : ile a1 a0 = false := by simpa [ieq, ilt, ile] using hp1
      have hp1s := hp1b
      try simp at hp1s
      cases hx2
      refine VW.ws tau_ok Sound.none [some 7, some 8, some 9, some 10, some 11, some 12, some 13, some 14, some 6] _ rfl ?_ hy
      simp [hp1b, hp1s] <;> simp [ieq, ilt, ile]
  cases h
  refine VW.ret ?_
  simp [Post, PostM, PostC, PostC2, Nx, Bk]

theorem s_l01Numbers_ok {a0 : Int} {a1 : List Int} {r : Bool} (h : s_l01Numbers a0 a1 = some r) :
    VCall Try.prog 112 [i64 a0, dI a1] [.sc (.bool r)] := by
  unfold s_l01Numbers at h
  refine VCall.enter Try.call112 Try.func112 rfl 20 Try.ntmps112 (by simp) [.tmp 4] rfl ?_
  show VW _ _ _ (mk [(0, .val (i64 a0)), (1, .val (dI a1))]) _
  -- region 0
  refine VW.ws tau_ok Sound.none [some 4] [(0, .val (i64 a0)), (1, .val (dI a1))] rfl ?_ ?_
  · simp <;> simp [ieq, ilt, ile]
  refine VW.sqc fun K1 hK1 hCK1 => ?_
  -- region 1
  refine VW.ws tau_ok Sound.none [some 5] [(0, .val (i64 a0)), (1, .val (dI a1)), (5, .val (i64 0))] rfl ?_ ?_
  · simp <;> simp [ieq, ilt, ile]
  obtain ⟨x2, hx2, h⟩ := bind_some h
  refine VW.tlO (fun y4 => []) x2 (hCK1) ?_ ?_
  · clear hx2
    rintro y4 rfl
    dsimp only at h
    refine hK1 _ ?_
    -- region 6
    refine VW.ws tau_ok Sound.none [some 4] [(4, .val (.bool true))] rfl ?_ ?_
    · simp <;> simp [ieq, ilt, ile]
    cases h
    refine VW.ret ?_
    simp [Post, PostM, PostC, PostC2, Nx, Bk]
  refine VW.block ?_
  refine VW.loopF (s_l01Numbers_L0 a0 a1) (fun s2 => [(0, .val (i64 a0)), (1, .val (dI a1)), (5, .val (i64 s2))]) hx2 (Fits.of rfl) ?_
  clear hx2
  intro s2 ox2 hx2o hx2b
  unfold s_l01Numbers_L0 at hx2o
  refine VW.sqc fun K5 hK5 hCK5 => ?_
  -- region 2
  refine VW.ws tau_ok Sound.none [some 6, some 7, some 8, some 9] [(0, .val (i64 a0)), (1, .val (dI a1)), (5, .val (i64 s2)), (9, .val (.bool (ilt s2 (a1.length : Int))))] rfl ?_ ?_
  · simp <;> simp [ieq, ilt, ile]
  refine VW.cond rfl (fun hb6 => ?_) (fun hb6 => ?_)
  rotate_left
  ·
    replace hb6 : ¬ (s2 < (a1.length : Int)) := by simpa [ieq, ilt, ile] using hb6
    rw [if_neg hb6] at hx2o
    refine VW.exit ?_
    cases hx2o
    have hq := hx2b _ rfl
    subst hq
    exact ⟨_, rfl, Fits.of rfl⟩
  replace hb6 : s2 < (a1.length : Int) := by simpa [ieq, ilt, ile] using hb6
  rw [if_pos hb6] at hx2o
  refine VW.skip ?_
  refine hK5 _ ?_
  refine VW.sqc fun K7 hK7 hCK7 => ?_
  refine VW.block ?_
  -- region 4
  obtain ⟨v8, hv8, hx2o⟩ := bind_some hx2o
  obtain ⟨hv8a, hv8b, hv8c, hv8d⟩ := idx_some hv8
  obtain ⟨v9, hv9, hx2o⟩ := bind_some hx2o
  refine VW.ws tau_ok (Sound.none.add 18 (s_l01In_ok hv9) rfl) [some 12, some 13, some 14, some 15, some 16, some 17, some 18, some 19] [(0, .val (i64 a0)), (1, .val (dI a1)), (5, .val (i64 s2)), (19, .val (.bool (!v9)))] rfl ?_ ?_
  · simp [hv8a, hv8b, hv8c, hv8d] <;> simp [ieq, ilt, ile]
  refine VW.cond rfl (fun hb10 => ?_) (fun hb10 => ?_)
  rotate_left
  ·
    replace hb10 : ¬ (v9 = false) := by simpa [ieq, ilt, ile] using hb10
    rw [if_neg hb10] at hx2o
    refine VW.skip ?_
    refine hK7 _ ?_
    -- region 3
    refine VW.wr tau_ok Sound.none [some 10, some 11, some 5] [(0, .val (i64 a0)), (1, .val (dI a1)), (5, .val (i64 (w64 (s2 + 1))))] rfl ?_ ?_
    · simp <;> simp [ieq, ilt, ile]
    cases hx2o
    exact ⟨_, rfl, Fits.of rfl⟩
  replace hb10 : v9 = false := by simpa [ieq, ilt, ile] using hb10
  rw [if_pos hb10] at hx2o
  -- region 5
  refine VW.ws tau_ok Sound.none [some 4] [(4, .val (.bool false))] rfl ?_ ?_
  · simp <;> simp [ieq, ilt, ile]
  cases hx2o
  have hq := hx2b _ rfl
  subst hq
  dsimp only at h
  cases h
  refine VW.ret ?_
  simp [Post, PostM, PostC, PostC2, Nx, Bk]

theorem s_l02Is_ok {a0 : Int} {a1 : List (List Int)} {r : Bool} (h : s_l02Is a0 a1 = some r) :
    VCall Try.prog 111 [i64 a0, dM a1] [.sc (.bool r)] := by
  unfold s_l02Is at h
  refine VCall.enter Try.call111 Try.func111 rfl 58 Try.ntmps111 (by simp) [.tmp 4] rfl ?_
  show VW _ _ _ (mk [(0, .val (i64 a0)), (1, .val (dM a1))]) _
  -- region 0
  refine VW.ws tau_ok Sound.none [some 4] [(0, .val (i64 a0)), (1, .val (dM a1))] rfl ?_ ?_
  · simp <;> simp [ieq, ilt, ile]
  refine VW.sqc fun K1 hK1 hCK1 => ?_
  -- region 1
  obtain ⟨x8, hx8, h⟩ := bind_some h
  refine VW.cut [(0, .val (i64 a0)), (1, .val (dM a1)), (32, .val (.bool x8))] ?_ fun hy => ?_
  rotate_left
  · clear h
    obtain ⟨v2, hv2, hx8⟩ := bind_some hx8
    by_cases hp3 : v2 = false
    · rw [if_pos hp3] at hx8
      have hp3b : v2 = false := by simpa [ieq, ilt, ile] using hp3
      have hp3s := hp3b
      try simp at hp3s
      cases hx8
      refine VW.ws tau_ok (Sound.none.add 7 (s_l01Prime_ok hv2) rfl) [some 6, some 7, some 8, some 9, some 10, some 11, some 12, some 13, some 14, some 15, some 16, some 17, some 18, some 19, some 20, some 21, some 22, some 23, some 24, some 25, some 26, some 27, some 28, some 29, some 30, some 31, some 32] _ rfl ?_ hy
      simp [hp3b, hp3s] <;> simp [ieq, ilt, ile]
    · rw [if_neg hp3] at hx8
      have hp3b : v2 = true := by simpa [ieq, ilt, ile] using hp3
      have hp3s := hp3b
      try simp at hp3s
      by_cases hp4 : (a1.length : Int) < 1
      · rw [if_pos hp4] at hx8
        have hp4b : ilt (a1.length : Int) 1 = true := by simpa [ieq, ilt, ile] using hp4
        have hp4s := hp4b
        try simp at hp4s
        cases hx8
        refine VW.ws tau_ok (Sound.none.add 7 (s_l01Prime_ok hv2) rfl) [some 6, some 7, some 8, some 9, some 10, some 11, some 12, some 13, some 14, some 15, some 16, some 17, some 18, some 19, some 20, some 21, some 22, some 23, some 24, some 25, some 26, some 27, some 28, some 29, some 30, some 31, some 32] _ rfl ?_ hy
        simp [hp3b, hp3s, hp4b, hp4s] <;> simp [ieq, ilt, ile]
      · rw [if_neg hp4] at hx8
        have hp4b : ilt (a1.length : Int) 1 = false := by simpa [ieq, ilt, ile] using hp4
        have hp4s := hp4b
        try simp at hp4s
        by_cases hp5 : 16 < (a1.length : Int)
        · rw [if_pos hp5] at hx8
          have hp5b : ilt 16 (a1.length : Int) = true := by simpa [ieq, ilt, ile] using hp5
          have hp5s := hp5b
          try simp at hp5s
          cases hx8
          refine VW.ws tau_ok (Sound.none.add 7 (s_l01Prime_ok hv2) rfl) [some 6, some 7, some 8, some 9, some 10, some 11, some 12, some 13, some 14, some 15, some 16, some 17, some 18, some 19, some 20, some 21, some 22, some 23, some 24, some 25, some 26, some 27, some 28, some 29, some 30, some 31, some 32] _ rfl ?_ hy
          simp [hp3b, hp3s, hp4b, hp4s, hp5b, hp5s] <;> simp [ieq, ilt, ile]
        · rw [if_neg hp5] at hx8
          have hp5b : ilt 16 (a1.length : Int) = false := by simpa [ieq, ilt, ile] using hp5
          have hp5s := hp5b
          try simp at hp5s
          obtain ⟨v6, hv6, hx8⟩ := bind_some hx8
          obtain ⟨hv6a, hv6b, hv6c, hv6d⟩ := idx_some hv6
          replace hv6b : 0 < a1.length := hv6b
          replace hv6c : a1[0]? = some v6 := hv6c
          replace hv6d : ∀ h, a1[0]'h = v6 := hv6d
          by_cases hp7 : (v6.length : Int) < 1
          · rw [if_pos hp7] at hx8
            have hp7b : ilt (v6.length : Int) 1 = true := by simpa [ieq, ilt, ile] using hp7
            have hp7s := hp7b
            try simp at hp7s
            cases hx8
            refine VW.ws tau_ok (Sound.none.add 7 (s_l01Prime_ok hv2) rfl) [some 6, some 7, some 8, some 9, some 10, some 11, some 12, some 13, some 14, some 15, some 16, some 17, some 18, some 19, some 20, some 21, some 22, some 23, some 24, some 25, some 26, some 27, some 28, some 29, some 30, some 31, some 32] _ rfl ?_ hy
            simp [hp3b, hp3s, hp4b, hp4s, hp5b, hp5s, hv6a, hv6b, hv6c, hv6d, hp7b, hp7s] <;> simp [ieq, ilt, ile]
          · rw [if_neg hp7] at hx8
            have hp7b : ilt (v6.length : Int) 1 = false := by simpa [ieq, ilt, ile] using hp7
            have hp7s := hp7b
            try simp at hp7s
            cases hx8
            refine VW.ws tau_ok (Sound.none.add 7 (s_l01Prime_ok hv2) rfl) [some 6, some 7, some 8, some 9, some 10, some 11, some 12, some 13, some 14, some 15, some 16, some 17, some 18, some 19, some 20, some 21, some 22, some 23, some 24, some 25, some 26, some 27, some 28, some 29, some 30, some 31, some 32] _ rfl ?_ hy
            simp [hp3b, hp3s, hp4b, hp4s, hp5b, hp5s, hv6a, hv6b, hv6c, hv6d, hp7b, hp7s] <;> simp [ieq, ilt, ile]
  refine VW.cond rfl (fun hb9 => ?_) (fun hb9 => ?_)
  ·
    replace hb9 : x8 = true := by simpa [ieq, ilt, ile] using hb9
    rw [if_pos hb9] at h
    -- region 2
    refine VW.ws tau_ok Sound.none [some 4] [(4, .val (.bool false))] rfl ?_ ?_
    · simp <;> simp [ieq, ilt, ile]
    cases h
    refine VW.ret ?_
    simp [Post, PostM, PostC, PostC2, Nx, Bk]
  replace hb9 : ¬ (x8 = true) := by simpa [ieq, ilt, ile] using hb9
  rw [if_neg hb9] at h
  refine VW.skip ?_
  refine hK1 _ ?_
  refine VW.sqc fun K10 hK10 hCK10 => ?_
  -- region 3
  refine VW.ws tau_ok Sound.none [some 5] [(0, .val (i64 a0)), (1, .val (dM a1)), (5, .val (i64 0))] rfl ?_ ?_
  · simp <;> simp [ieq, ilt, ile]
  obtain ⟨x11, hx11, h⟩ := bind_some h
  refine VW.tlO (fun y13 => []) x11 (hCK10) ?_ ?_
  · clear hx11
    rintro y13 rfl
    dsimp only at h
    refine hK10 _ ?_
    -- region 8
    refine VW.ws tau_ok Sound.none [some 4] [(4, .val (.bool true))] rfl ?_ ?_
    · simp <;> simp [ieq, ilt, ile]
    cases h
    refine VW.ret ?_
    simp [Post, PostM, PostC, PostC2, Nx, Bk]
  refine VW.block ?_
  refine VW.loopF (s_l02Is_L0 a0 a1) (fun s11 => [(0, .val (i64 a0)), (1, .val (dM a1)), (5, .val (i64 s11))]) hx11 (Fits.of rfl) ?_
  clear hx11
  intro s11 ox11 hx11o hx11b
  unfold s_l02Is_L0 at hx11o
  refine VW.sqc fun K14 hK14 hCK14 => ?_
  -- region 4
  refine VW.ws tau_ok Sound.none [some 33, some 34, some 35, some 36] [(0, .val (i64 a0)), (1, .val (dM a1)), (5, .val (i64 s11)), (36, .val (.bool (ilt s11 (a1.length : Int))))] rfl ?_ ?_
  · simp <;> simp [ieq, ilt, ile]
  refine VW.cond rfl (fun hb15 => ?_) (fun hb15 => ?_)
  rotate_left
  ·
    replace hb15 : ¬ (s11 < (a1.length : Int)) := by simpa [ieq, ilt, ile] using hb15
    rw [if_neg hb15] at hx11o
    refine VW.exit ?_
    cases hx11o
    have hq := hx11b _ rfl
    subst hq
    exact ⟨_, rfl, Fits.of rfl⟩
  replace hb15 : s11 < (a1.length : Int) := by simpa [ieq, ilt, ile] using hb15
  rw [if_pos hb15] at hx11o
  refine VW.skip ?_
  refine hK14 _ ?_
  refine VW.sqc fun K16 hK16 hCK16 => ?_
  refine VW.block ?_
  -- region 6
  obtain ⟨x21, hx21, hx11o⟩ := bind_some hx11o
  refine VW.cut [(0, .val (i64 a0)), (1, .val (dM a1)), (5, .val (i64 s11)), (57, .val (.bool x21))] ?_ fun hy => ?_
  rotate_left
  · clear hx11o
    obtain ⟨v17, hv17, hx21⟩ := bind_some hx21
    obtain ⟨hv17a, hv17b, hv17c, hv17d⟩ := idx_some hv17
    obtain ⟨v18, hv18, hx21⟩ := bind_some hx21
    obtain ⟨hv18a, hv18b, hv18c, hv18d⟩ := idx_some hv18
    replace hv18b : 0 < a1.length := hv18b
    replace hv18c : a1[0]? = some v18 := hv18c
    replace hv18d : ∀ h, a1[0]'h = v18 := hv18d
    by_cases hp19 : ¬ (v17.length : Int) = (v18.length : Int)
    · rw [if_pos hp19] at hx21
      have hp19b : ieq (v17.length : Int) (v18.length : Int) = false := by simpa [ieq, ilt, ile] using hp19
      have hp19s := hp19b
      try simp at hp19s
      cases hx21
      refine VW.wds tau_ok Sound.none try_mixed [some 39, some 40, some 41, some 42, some 43, some 44, some 45, some 46, some 47, some 48, some 49, some 50, some 51, some 52, some 53, some 54, some 55, some 56, some 57] _ 19 rfl (by kernel_rfl) (by rfl) ?_ hy
      simp [hv17a, hv17b, hv17c, hv17d, hv18a, hv18b, hv18c, hv18d, hp19b, hp19s] <;> simp [ieq, ilt, ile]
    · rw [if_neg hp19] at hx21
      have hp19b : ieq (v17.length : Int) (v18.length : Int) = true := by simpa [ieq, ilt, ile] using hp19
      have hp19s := hp19b
      try simp at hp19s
      obtain ⟨v20, hv20, hx21⟩ := bind_some hx21
      cases hx21
      refine VW.wds tau_ok (Sound.none.add 55 (s_l01Numbers_ok hv20) rfl) try_mixed [some 39, some 40, some 41, some 42, some 43, some 44, some 45, some 46, some 47, some 48, some 49, some 50, some 51, some 52, some 53, some 54, some 55, some 56, some 57] _ 19 rfl (by kernel_rfl) (by rfl) ?_ hy
      simp [hv17a, hv17b, hv17c, hv17d, hv18a, hv18b, hv18c, hv18d, hp19b, hp19s] <;> simp [ieq, ilt, ile]
  refine VW.cond rfl (fun hb22 => ?_) (fun hb22 => ?_)
  rotate_left
  ·
    replace hb22 : ¬ (x21 = true) := by simpa [ieq, ilt, ile] using hb22
    rw [if_neg hb22] at hx11o
    refine VW.skip ?_
    refine hK16 _ ?_
    -- region 5
    refine VW.wr tau_ok Sound.none [some 37, some 38, some 5] [(0, .val (i64 a0)), (1, .val (dM a1)), (5, .val (i64 (w64 (s11 + 1))))] rfl ?_ ?_
    · simp <;> simp [ieq, ilt, ile]
    cases hx11o
    exact ⟨_, rfl, Fits.of rfl⟩
  replace hb22 : x21 = true := by simpa [ieq, ilt, ile] using hb22
  rw [if_pos hb22] at hx11o
  -- region 7
  refine VW.ws tau_ok Sound.none [some 4] [(4, .val (.bool false))] rfl ?_ ?_
  · simp <;> simp [ieq, ilt, ile]
  cases hx11o
  have hq := hx11b _ rfl
  subst hq
  dsimp only at h
  cases h
  refine VW.ret ?_
  simp [Post, PostM, PostC, PostC2, Nx, Bk]

theorem s_l01Own_ok {a0 : List Int} {r : List Int} (h : s_l01Own a0 = some r) :
    VCall Try.prog 149 [dI a0] [.own true (dI r)] := by
  unfold s_l01Own at h
  refine VCall.enter Try.call149 Try.func149 rfl 6 Try.ntmps149 (by simp) [.tmp 2] rfl ?_
  show VW _ _ _ (mk [(0, .val (dI a0))]) _
  -- region 0
  refine VW.ws tau_ok Sound.none [some 2] [(0, .val (dI a0))] rfl ?_ ?_
  · simp <;> simp [ieq, ilt, ile]
  -- region 1
  obtain ⟨hc1, h⟩ := chk_some h
  have hc1s := hc1
  try simp at hc1s
  refine VW.ws tau_ok Sound.none [some 3, some 4, some 5, some 2] [(2, .ref 2 [] true (dI (([] : List Int) ++ a0)))] rfl ?_ ?_
  · simp [hc1, hc1s] <;> simp [ieq, ilt, ile]
  cases h
  refine VW.ret ?_
  simp [Post, PostM, PostC, PostC2, Nx, Bk]

theorem s_l01Own2_ok {a0 : List (List Int)} {r : List (List Int)} (h : s_l01Own2 a0 = some r) :
    VCall Try.prog 146 [dM a0] [.own true (dM r)] := by
  unfold s_l01Own2 at h
  refine VCall.enter Try.call146 Try.func146 rfl 21 Try.ntmps146 (by simp) [.tmp 2] rfl ?_
  show VW _ _ _ (mk [(0, .val (dM a0))]) _
  -- region 0
  refine VW.ws tau_ok Sound.none [some 2] [(0, .val (dM a0))] rfl ?_ ?_
  · simp <;> simp [ieq, ilt, ile]
  -- region 1
  refine VW.ws tau_ok Sound.none [some 5, some 3] [(0, .val (dM a0)), (3, .ref 3 [] true (dM []))] rfl ?_ ?_
  · simp <;> simp [ieq, ilt, ile]
  refine VW.sqc fun K1 hK1 hCK1 => ?_
  -- region 2
  refine VW.ws tau_ok Sound.none [some 4] [(0, .val (dM a0)), (3, .ref 3 [] true (dM [])), (4, .val (i64 0))] rfl ?_ ?_
  · simp <;> simp [ieq, ilt, ile]
  obtain ⟨x2, hx2, h⟩ := bind_some h
  refine VW.tlE [(3, .ref 3 [] true (dM x2))] (hCK1) ?_ ?_
  · clear hx2
    refine hK1 _ ?_
    -- region 6
    refine VW.ws tau_ok Sound.none [some 20, some 2] [(2, .ref 2 [] true (dM x2))] rfl ?_ ?_
    · simp <;> simp [ieq, ilt, ile]
    cases h
    refine VW.ret ?_
    simp [Post, PostM, PostC, PostC2, Nx, Bk]
  refine VW.block ?_
  refine VW.loopF (s_l01Own2_L0 a0) (fun s2 => [(0, .val (dM a0)), (3, .ref 3 [] true (dM s2.1)), (4, .val (i64 s2.2))]) hx2 (Fits.of rfl) ?_
  clear hx2
  intro s2 ox2 hx2o hx2b
  unfold s_l01Own2_L0 at hx2o
  refine VW.sqc fun K4 hK4 hCK4 => ?_
  -- region 3
  refine VW.ws tau_ok Sound.none [some 6, some 7, some 8, some 9] [(0, .val (dM a0)), (3, .ref 3 [] true (dM s2.1)), (4, .val (i64 s2.2)), (9, .val (.bool (ilt s2.2 (a0.length : Int))))] rfl ?_ ?_
  · simp <;> simp [ieq, ilt, ile]
  refine VW.cond rfl (fun hb5 => ?_) (fun hb5 => ?_)
  rotate_left
  ·
    replace hb5 : ¬ (s2.2 < (a0.length : Int)) := by simpa [ieq, ilt, ile] using hb5
    rw [if_neg hb5] at hx2o
    refine VW.exit ?_
    cases hx2o
    have hq := hx2b _ rfl
    subst hq
    exact Fits.of rfl
  replace hb5 : s2.2 < (a0.length : Int) := by simpa [ieq, ilt, ile] using hb5
  rw [if_pos hb5] at hx2o
  refine VW.skip ?_
  refine hK4 _ ?_
  refine VW.sqc fun K6 hK6 hCK6 => ?_
  refine VW.block ?_
  -- region 5
  obtain ⟨v7, hv7, hx2o⟩ := bind_some hx2o
  obtain ⟨hv7a, hv7b, hv7c, hv7d⟩ := idx_some hv7
  obtain ⟨v8, hv8, hx2o⟩ := bind_some hx2o
  obtain ⟨hc9, hx2o⟩ := chk_some hx2o
  have hc9s := hc9
  try simp at hc9s
  refine VW.wr tau_ok (Sound.none.add 17 (s_l01Own_ok hv8) rfl) [some 12, some 13, some 14, some 15, some 16, some 17, some 18, some 19, some 3] [(0, .val (dM a0)), (3, .ref 3 [] true (dM (s2.1 ++ [v8]))), (4, .val (i64 s2.2))] rfl ?_ ?_
  · simp [hv7a, hv7b, hv7c, hv7d, hc9, hc9s] <;> simp [ieq, ilt, ile]
  refine hK6 _ ?_
  -- region 4
  refine VW.wr tau_ok Sound.none [some 10, some 11, some 4] [(0, .val (dM a0)), (3, .ref 3 [] true (dM (s2.1 ++ [v8]))), (4, .val (i64 (w64 (s2.2 + 1))))] rfl ?_ ?_
  · simp <;> simp [ieq, ilt, ile]
  cases hx2o
  exact ⟨_, rfl, Fits.of rfl⟩

theorem l_szDoubling_ok {a0_0 : Int} {a0_1 : List Int} {a1 : Int} {r : Int} (h : l_szDoubling a0_0 a0_1 a1 = some r) :
    VCall Try.prog 24 [.agg [i64 a0_0, dI a0_1], i64 a1] [.sc (i64 r)] := by
  unfold l_szDoubling at h
  refine VCall.enter Try.call24 Try.func24 rfl 12 Try.ntmps24 (by simp) [.tmp 4] rfl ?_
  show VW _ _ _ (mk [(0, .val (.agg [i64 a0_0, dI a0_1])), (1, .val (i64 a1))]) _
  -- region 0
  refine VW.ws tau_ok Sound.none [some 2, some 4] [(1, .val (i64 a1)), (2, .val (.ptr [i64 a0_0, dI a0_1]))] rfl ?_ ?_
  · simp <;> simp [ieq, ilt, ile]
  -- region 1
  obtain ⟨v1, hv1, h⟩ := bind_some h
  refine VW.ws tau_ok (Sound.none.add 8 (l_szInt64S_ok hv1) rfl) [some 5, some 6, some 7, some 8, some 1] [(1, .val (i64 v1))] rfl ?_ ?_
  · simp <;> simp [ieq, ilt, ile]
  refine VW.sqc fun K2 hK2 hCK2 => ?_
  -- region 2
  refine VW.ws tau_ok Sound.none [some 9, some 10] [(1, .val (i64 v1)), (10, .val (.bool (ilt v1 0)))] rfl ?_ ?_
  · simp <;> simp [ieq, ilt, ile]
  refine VW.cond rfl (fun hb3 => ?_) (fun hb3 => ?_)
  ·
    replace hb3 : v1 < 0 := by simpa [ieq, ilt, ile] using hb3
    rw [if_pos hb3] at h
    -- region 3
    refine VW.ws tau_ok Sound.none [some 4] [(4, .val (i64 (-1)))] rfl ?_ ?_
    · simp <;> simp [ieq, ilt, ile]
    cases h
    refine VW.ret ?_
    simp [Post, PostM, PostC, PostC2, Nx, Bk]
  replace hb3 : ¬ (v1 < 0) := by simpa [ieq, ilt, ile] using hb3
  rw [if_neg hb3] at h
  refine VW.skip ?_
  refine hK2 _ ?_
  -- region 4
  refine VW.ws tau_ok Sound.none [some 11, some 4] [(4, .val (i64 v1))] rfl ?_ ?_
  · simp <;> simp [ieq, ilt, ile]
  cases h
  refine VW.ret ?_
  simp [Post, PostM, PostC, PostC2, Nx, Bk]

theorem l_toDoubling_ok {a0_0 : Int} {a0_1 : List Int} {r : Int × (List Int)} (h : l_toDoubling a0_0 a0_1 = some r) :
    VCall Try.prog 26 [.agg [i64 a0_0, dI a0_1]] [.own true (.agg [i64 r.1, dI r.2])] := by
  unfold l_toDoubling at h
  refine VCall.enterC Try.call26 Try.func26 rfl 12 Try.ntmps26 (by simp) (tau_ok 37) 2 rfl ?_
  show VW _ _ _ (mk [(0, .val (.agg [i64 a0_0, dI a0_1]))]) _
  -- region 0
  refine VW.ws tau_ok Sound.none [some 1, some 2] [(1, .val (.ptr [i64 a0_0, dI a0_1])), (2, .ref 2 [] true (.ptr [i64 0, dI []]))] rfl ?_ ?_
  · simp <;> simp [ieq, ilt, ile]
  -- region 1
  refine VW.ws tau_ok Sound.none [some 3] [(1, .val (.ptr [i64 a0_0, dI a0_1])), (2, .ref 2 [] true (.ptr [i64 0, dI []])), (3, .ref 3 [] true (.ptr [i64 0, dI []]))] rfl ?_ ?_
  · simp <;> simp [ieq, ilt, ile]
  -- region 2
  refine VW.ws tau_ok Sound.none [some 4, some 5, some 6, none] [(1, .val (.ptr [i64 a0_0, dI a0_1])), (2, .ref 2 [] true (.ptr [i64 0, dI []])), (3, .ref 3 [] true (.ptr [i64 a0_0, dI []]))] rfl ?_ ?_
  · simp <;> simp [ieq, ilt, ile]
  -- region 3
  obtain ⟨v1, hv1, h⟩ := bind_some h
  refine VW.ws tau_ok (Sound.none.add 9 (l_toInt64S_ok hv1) rfl) [some 7, some 8, some 9, some 10, none] [(2, .ref 2 [] true (.ptr [i64 0, dI []])), (3, .ref 3 [] true (.ptr [i64 a0_0, dI v1]))] rfl ?_ ?_
  · simp <;> simp [ieq, ilt, ile]
  -- region 4
  refine VW.ws tau_ok Sound.none [some 11, none] [(2, .ref 2 [] true (.ptr [i64 a0_0, dI v1]))] rfl ?_ ?_
  · simp <;> simp [ieq, ilt, ile]
  cases h
  refine VW.ret ?_
  simp [Post, PostM, PostC, PostC2, Nx, Bk]
end Go.Vam
