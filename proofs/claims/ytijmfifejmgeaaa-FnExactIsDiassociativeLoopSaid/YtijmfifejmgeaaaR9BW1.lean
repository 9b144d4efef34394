import Derived.Test.YtijmfifejmgeaaaR9T
import Derived.Test.YtijmfifejmgeaaaFmG0
namespace Go.Vam
open Go Go.RowKit Go.Proofs
set_option maxRecDepth 100000
set_option linter.unusedSimpArgs false
set_option linter.unusedVariables false

theorem l_szInt64S_ok {a0 : List Int} {a1 : Int} {r : Int} (h : l_szInt64S a0 a1 = some r) :
    VCall Try.prog 74 [dI a0, i64 a1] [.sc (i64 r)] := by
  unfold l_szInt64S at h
  refine VCall.enter Try.call74 Try.func74 rfl 12 Try.ntmps74 (by simp) [.tmp 4] rfl ?_
  show VW _ _ _ (mk [(0, .val (dI a0)), (1, .val (i64 a1))]) _
  -- region 0
  refine VW.ws tau_ok Sound.none [some 4] [(0, .val (dI a0)), (1, .val (i64 a1))] rfl ?_ ?_
  · simp <;> simp [ieq, ilt, ile]
  -- region 1
  refine VW.ws tau_ok Sound.none [some 5, some 6, some 7, some 8, some 1] [(1, .val (i64 (w64 (a1 - (a0.length : Int)))))] rfl ?_ ?_
  · simp <;> simp [ieq, ilt, ile]
  refine VW.sqc fun K1 hK1 hCK1 => ?_
  -- region 2
  refine VW.ws tau_ok Sound.none [some 9, some 10] [(1, .val (i64 (w64 (a1 - (a0.length : Int))))), (10, .val (.bool (ilt (w64 (a1 - (a0.length : Int))) 0)))] rfl ?_ ?_
  · simp <;> simp [ieq, ilt, ile]
  refine VW.cond rfl (fun hb2 => ?_) (fun hb2 => ?_)
  ·
    replace hb2 : (w64 (a1 - (a0.length : Int))) < 0 := by simpa [ieq, ilt, ile] using hb2
    rw [if_pos hb2] at h
    -- region 3
    refine VW.ws tau_ok Sound.none [some 4] [(4, .val (i64 (-1)))] rfl ?_ ?_
    · simp <;> simp [ieq, ilt, ile]
    cases h
    refine VW.ret ?_
    simp [Post, PostM, PostC, PostC2, Nx, Bk]
  replace hb2 : ¬ ((w64 (a1 - (a0.length : Int))) < 0) := by simpa [ieq, ilt, ile] using hb2
  rw [if_neg hb2] at h
  refine VW.skip ?_
  refine hK1 _ ?_
  -- region 4
  refine VW.ws tau_ok Sound.none [some 11, some 4] [(4, .val (i64 (w64 (a1 - (a0.length : Int)))))] rfl ?_ ?_
  · simp <;> simp [ieq, ilt, ile]
  cases h
  refine VW.ret ?_
  simp [Post, PostM, PostC, PostC2, Nx, Bk]

theorem l_szInt64SS_ok {a0 : List (List Int)} {a1 : Int} {r : Int} (h : l_szInt64SS a0 a1 = some r) :
    VCall Try.prog 11 [dM a0, i64 a1] [.sc (i64 r)] := by
  unfold l_szInt64SS at h
  refine VCall.enter Try.call11 Try.func11 rfl 27 Try.ntmps11 (by simp) [.tmp 4] rfl ?_
  show VW _ _ _ (mk [(0, .val (dM a0)), (1, .val (i64 a1))]) _
  -- region 0
  refine VW.ws tau_ok Sound.none [some 4] [(0, .val (dM a0)), (1, .val (i64 a1))] rfl ?_ ?_
  · simp <;> simp [ieq, ilt, ile]
  -- region 1
  refine VW.ws tau_ok Sound.none [some 6, some 7, some 8, some 9, some 1] [(0, .val (dM a0)), (1, .val (i64 (w64 (a1 - (a0.length : Int)))))] rfl ?_ ?_
  · simp <;> simp [ieq, ilt, ile]
  refine VW.sqc fun K1 hK1 hCK1 => ?_
  -- region 2
  refine VW.ws tau_ok Sound.none [some 10, some 11] [(0, .val (dM a0)), (1, .val (i64 (w64 (a1 - (a0.length : Int))))), (11, .val (.bool (ilt (w64 (a1 - (a0.length : Int))) 0)))] rfl ?_ ?_
  · simp <;> simp [ieq, ilt, ile]
  refine VW.cond rfl (fun hb2 => ?_) (fun hb2 => ?_)
  ·
    replace hb2 : (w64 (a1 - (a0.length : Int))) < 0 := by simpa [ieq, ilt, ile] using hb2
    rw [if_pos hb2] at h
    -- region 3
    refine VW.ws tau_ok Sound.none [some 4] [(4, .val (i64 (-1)))] rfl ?_ ?_
    · simp <;> simp [ieq, ilt, ile]
    cases h
    refine VW.ret ?_
    simp [Post, PostM, PostC, PostC2, Nx, Bk]
  replace hb2 : ¬ ((w64 (a1 - (a0.length : Int))) < 0) := by simpa [ieq, ilt, ile] using hb2
  rw [if_neg hb2] at h
  refine VW.skip ?_
  refine hK1 _ ?_
  refine VW.sqc fun K3 hK3 hCK3 => ?_
  -- region 4
  refine VW.ws tau_ok Sound.none [some 5] [(0, .val (dM a0)), (1, .val (i64 (w64 (a1 - (a0.length : Int))))), (5, .val (i64 0))] rfl ?_ ?_
  · simp <;> simp [ieq, ilt, ile]
  obtain ⟨x4, hx4, h⟩ := bind_some h
  refine VW.tlO (fun y6 => [(1, .val (i64 y6))]) x4 (hCK3) ?_ ?_
  · clear hx4
    rintro y6 rfl
    dsimp only at h
    refine hK3 _ ?_
    -- region 10
    refine VW.ws tau_ok Sound.none [some 26, some 4] [(4, .val (i64 y6))] rfl ?_ ?_
    · simp <;> simp [ieq, ilt, ile]
    cases h
    refine VW.ret ?_
    simp [Post, PostM, PostC, PostC2, Nx, Bk]
  refine VW.block ?_
  refine VW.loopF (l_szInt64SS_L0 a0) (fun s4 => [(0, .val (dM a0)), (1, .val (i64 s4.1)), (5, .val (i64 s4.2))]) hx4 (Fits.of rfl) ?_
  clear hx4
  intro s4 ox4 hx4o hx4b
  unfold l_szInt64SS_L0 at hx4o
  refine VW.sqc fun K7 hK7 hCK7 => ?_
  -- region 5
  refine VW.ws tau_ok Sound.none [some 12, some 13, some 14, some 15] [(0, .val (dM a0)), (1, .val (i64 s4.1)), (5, .val (i64 s4.2)), (15, .val (.bool (ilt s4.2 (a0.length : Int))))] rfl ?_ ?_
  · simp <;> simp [ieq, ilt, ile]
  refine VW.cond rfl (fun hb8 => ?_) (fun hb8 => ?_)
  rotate_left
  ·
    replace hb8 : ¬ (s4.2 < (a0.length : Int)) := by simpa [ieq, ilt, ile] using hb8
    rw [if_neg hb8] at hx4o
    refine VW.exit ?_
    cases hx4o
    have hq := hx4b _ rfl
    subst hq
    exact ⟨_, rfl, Fits.of rfl⟩
  replace hb8 : s4.2 < (a0.length : Int) := by simpa [ieq, ilt, ile] using hb8
  rw [if_pos hb8] at hx4o
  refine VW.skip ?_
  refine hK7 _ ?_
  refine VW.sqc fun K9 hK9 hCK9 => ?_
  refine VW.block ?_
  -- region 7
  obtain ⟨v10, hv10, hx4o⟩ := bind_some hx4o
  obtain ⟨hv10a, hv10b, hv10c, hv10d⟩ := idx_some hv10
  obtain ⟨v11, hv11, hx4o⟩ := bind_some hx4o
  refine VW.ws tau_ok (Sound.none.add 23 (l_szInt64S_ok hv11) rfl) [some 18, some 19, some 20, some 21, some 22, some 23, some 1] [(0, .val (dM a0)), (1, .val (i64 v11)), (5, .val (i64 s4.2))] rfl ?_ ?_
  · simp [hv10a, hv10b, hv10c, hv10d] <;> simp [ieq, ilt, ile]
  -- region 8
  refine VW.ws tau_ok Sound.none [some 24, some 25] [(0, .val (dM a0)), (1, .val (i64 v11)), (5, .val (i64 s4.2)), (25, .val (.bool (ilt v11 0)))] rfl ?_ ?_
  · simp <;> simp [ieq, ilt, ile]
  refine VW.cond rfl (fun hb12 => ?_) (fun hb12 => ?_)
  rotate_left
  ·
    replace hb12 : ¬ (v11 < 0) := by simpa [ieq, ilt, ile] using hb12
    rw [if_neg hb12] at hx4o
    refine VW.skip ?_
    refine hK9 _ ?_
    -- region 6
    refine VW.wr tau_ok Sound.none [some 16, some 17, some 5] [(0, .val (dM a0)), (1, .val (i64 v11)), (5, .val (i64 (w64 (s4.2 + 1))))] rfl ?_ ?_
    · simp <;> simp [ieq, ilt, ile]
    cases hx4o
    exact ⟨_, rfl, Fits.of rfl⟩
  replace hb12 : v11 < 0 := by simpa [ieq, ilt, ile] using hb12
  rw [if_pos hb12] at hx4o
  -- region 9
  refine VW.ws tau_ok Sound.none [some 4] [(4, .val (i64 (-1)))] rfl ?_ ?_
  · simp <;> simp [ieq, ilt, ile]
  cases hx4o
  have hq := hx4b _ rfl
  subst hq
  dsimp only at h
  cases h
  refine VW.ret ?_
  simp [Post, PostM, PostC, PostC2, Nx, Bk]

theorem l_toInt64S_ok {a0 : List Int} {r : List Int} (h : l_toInt64S a0 = some r) :
    VCall Try.prog 14 [dI a0] [.own true (dI r)] := by
  unfold l_toInt64S at h
  refine VCall.enter Try.call14 Try.func14 rfl 22 Try.ntmps14 (by simp) [.tmp 2] rfl ?_
  show VW _ _ _ (mk [(0, .val (dI a0))]) _
  -- region 0
  refine VW.ws tau_ok Sound.none [some 2] [(0, .val (dI a0))] rfl ?_ ?_
  · simp <;> simp [ieq, ilt, ile]
  -- region 1
  obtain ⟨hc1, h⟩ := chk_some h
  have hc1s := hc1
  try simp at hc1s
  refine VW.ws tau_ok Sound.none [some 5, some 6, some 7, some 3] [(0, .val (dI a0)), (3, .ref 3 [] true (dI (List.replicate (a0.length : Int).toNat 0)))] rfl ?_ ?_
  · simp [hc1, hc1s] <;> simp [ieq, ilt, ile]
  refine VW.sqc fun K2 hK2 hCK2 => ?_
  -- region 2
  refine VW.ws tau_ok Sound.none [some 4] [(0, .val (dI a0)), (3, .ref 3 [] true (dI (List.replicate (a0.length : Int).toNat 0))), (4, .val (i64 0))] rfl ?_ ?_
  · simp <;> simp [ieq, ilt, ile]
  obtain ⟨x3, hx3, h⟩ := bind_some h
  refine VW.tlE [(3, .ref 3 [] true (dI x3))] (hCK2) ?_ ?_
  · clear hx3
    refine hK2 _ ?_
    -- region 6
    refine VW.ws tau_ok Sound.none [some 21, some 2] [(2, .ref 2 [] true (dI x3))] rfl ?_ ?_
    · simp <;> simp [ieq, ilt, ile]
    cases h
    refine VW.ret ?_
    simp [Post, PostM, PostC, PostC2, Nx, Bk]
  refine VW.block ?_
  refine VW.loopF (l_toInt64S_L0 a0) (fun s3 => [(0, .val (dI a0)), (3, .ref 3 [] true (dI s3.1)), (4, .val (i64 s3.2))]) hx3 (Fits.of rfl) ?_
  clear hx3
  intro s3 ox3 hx3o hx3b
  unfold l_toInt64S_L0 at hx3o
  refine VW.sqc fun K5 hK5 hCK5 => ?_
  -- region 3
  refine VW.ws tau_ok Sound.none [some 8, some 9, some 10, some 11] [(0, .val (dI a0)), (3, .ref 3 [] true (dI s3.1)), (4, .val (i64 s3.2)), (11, .val (.bool (ilt s3.2 (a0.length : Int))))] rfl ?_ ?_
  · simp <;> simp [ieq, ilt, ile]
  refine VW.cond rfl (fun hb6 => ?_) (fun hb6 => ?_)
  rotate_left
  ·
    replace hb6 : ¬ (s3.2 < (a0.length : Int)) := by simpa [ieq, ilt, ile] using hb6
    rw [if_neg hb6] at hx3o
    refine VW.exit ?_
    cases hx3o
    have hq := hx3b _ rfl
    subst hq
    exact Fits.of rfl
  replace hb6 : s3.2 < (a0.length : Int) := by simpa [ieq, ilt, ile] using hb6
  rw [if_pos hb6] at hx3o
  refine VW.skip ?_
  refine hK5 _ ?_
  refine VW.sqc fun K7 hK7 hCK7 => ?_
  refine VW.block ?_
  -- region 5
  obtain ⟨v8, hv8, hx3o⟩ := bind_some hx3o
  obtain ⟨hv8a, hv8b, hv8c, hv8d⟩ := idx_some hv8
  obtain ⟨v9, hv9, hx3o⟩ := bind_some hx3o
  obtain ⟨hv9a, hv9b, hv9c, hv9d⟩ := idx_some hv9
  refine VW.wr tau_ok Sound.none [some 14, some 15, some 16, some 17, some 18, some 19, some 20, none] [(0, .val (dI a0)), (3, .ref 3 [] true (dI (s3.1.set s3.2.toNat v8))), (4, .val (i64 s3.2))] rfl ?_ ?_
  · simp [hv8a, hv8b, hv8c, hv8d, hv9a, hv9b, hv9c, hv9d] <;> simp [ieq, ilt, ile]
  refine hK7 _ ?_
  -- region 4
  refine VW.wr tau_ok Sound.none [some 12, some 13, some 4] [(0, .val (dI a0)), (3, .ref 3 [] true (dI (s3.1.set s3.2.toNat v8))), (4, .val (i64 (w64 (s3.2 + 1))))] rfl ?_ ?_
  · simp <;> simp [ieq, ilt, ile]
  cases hx3o
  exact ⟨_, rfl, Fits.of rfl⟩

theorem l_toInt64SS_ok {a0 : List (List Int)} {r : List (List Int)} (h : l_toInt64SS a0 = some r) :
    VCall Try.prog 13 [dM a0] [.own true (dM r)] := by
  unfold l_toInt64SS at h
  refine VCall.enter Try.call13 Try.func13 rfl 23 Try.ntmps13 (by simp) [.tmp 2] rfl ?_
  show VW _ _ _ (mk [(0, .val (dM a0))]) _
  -- region 0
  refine VW.ws tau_ok Sound.none [some 2] [(0, .val (dM a0))] rfl ?_ ?_
  · simp <;> simp [ieq, ilt, ile]
  -- region 1
  obtain ⟨hc1, h⟩ := chk_some h
  have hc1s := hc1
  try simp at hc1s
  refine VW.ws tau_ok Sound.none [some 5, some 6, some 7, some 3] [(0, .val (dM a0)), (3, .ref 3 [] true (dM (List.replicate (a0.length : Int).toNat [])))] rfl ?_ ?_
  · simp [hc1, hc1s] <;> simp [ieq, ilt, ile]
  refine VW.sqc fun K2 hK2 hCK2 => ?_
  -- region 2
  refine VW.ws tau_ok Sound.none [some 4] [(0, .val (dM a0)), (3, .ref 3 [] true (dM (List.replicate (a0.length : Int).toNat []))), (4, .val (i64 0))] rfl ?_ ?_
  · simp <;> simp [ieq, ilt, ile]
  obtain ⟨x3, hx3, h⟩ := bind_some h
  refine VW.tlE [(3, .ref 3 [] true (dM x3))] (hCK2) ?_ ?_
  · clear hx3
    refine hK2 _ ?_
    -- region 6
    refine VW.ws tau_ok Sound.none [some 22, some 2] [(2, .ref 2 [] true (dM x3))] rfl ?_ ?_
    · simp <;> simp [ieq, ilt, ile]
    cases h
    refine VW.ret ?_
    simp [Post, PostM, PostC, PostC2, Nx, Bk]
  refine VW.block ?_
  refine VW.loopF (l_toInt64SS_L0 a0) (fun s3 => [(0, .val (dM a0)), (3, .ref 3 [] true (dM s3.1)), (4, .val (i64 s3.2))]) hx3 (Fits.of rfl) ?_
  clear hx3
  intro s3 ox3 hx3o hx3b
  unfold l_toInt64SS_L0 at hx3o
  refine VW.sqc fun K5 hK5 hCK5 => ?_
  -- region 3
  refine VW.ws tau_ok Sound.none [some 8, some 9, some 10, some 11] [(0, .val (dM a0)), (3, .ref 3 [] true (dM s3.1)), (4, .val (i64 s3.2)), (11, .val (.bool (ilt s3.2 (a0.length : Int))))] rfl ?_ ?_
  · simp <;> simp [ieq, ilt, ile]
  refine VW.cond rfl (fun hb6 => ?_) (fun hb6 => ?_)
  rotate_left
  ·
    replace hb6 : ¬ (s3.2 < (a0.length : Int)) := by simpa [ieq, ilt, ile] using hb6
    rw [if_neg hb6] at hx3o
    refine VW.exit ?_
    cases hx3o
    have hq := hx3b _ rfl
    subst hq
    exact Fits.of rfl
  replace hb6 : s3.2 < (a0.length : Int) := by simpa [ieq, ilt, ile] using hb6
  rw [if_pos hb6] at hx3o
  refine VW.skip ?_
  refine hK5 _ ?_
  refine VW.sqc fun K7 hK7 hCK7 => ?_
  refine VW.block ?_
  -- region 5
  obtain ⟨v8, hv8, hx3o⟩ := bind_some hx3o
  obtain ⟨hv8a, hv8b, hv8c, hv8d⟩ := idx_some hv8
  obtain ⟨v9, hv9, hx3o⟩ := bind_some hx3o
  obtain ⟨v10, hv10, hx3o⟩ := bind_some hx3o
  obtain ⟨hv10a, hv10b, hv10c, hv10d⟩ := idx_some hv10
  refine VW.wr tau_ok (Sound.none.add 20 (l_toInt64S_ok hv9) rfl) [some 14, some 15, some 16, some 17, some 18, some 19, some 20, some 21, none] [(0, .val (dM a0)), (3, .ref 3 [] true (dM (s3.1.set s3.2.toNat v9))), (4, .val (i64 s3.2))] rfl ?_ ?_
  · simp [hv8a, hv8b, hv8c, hv8d, hv10a, hv10b, hv10c, hv10d] <;> simp [ieq, ilt, ile]
  refine hK7 _ ?_
  -- region 4
  refine VW.wr tau_ok Sound.none [some 12, some 13, some 4] [(0, .val (dM a0)), (3, .ref 3 [] true (dM (s3.1.set s3.2.toNat v9))), (4, .val (i64 (w64 (s3.2 + 1))))] rfl ?_ ?_
  · simp <;> simp [ieq, ilt, ile]
  cases hx3o
  exact ⟨_, rfl, Fits.of rfl⟩

theorem s_l01In_ok {a0 : Int} {a1 : Int} {a2 : Int} {r : Bool} (h : s_l01In a0 a1 a2 = some r) :
    VCall Try.prog 76 [i64 a0, i64 a1, i64 a2] [.sc (.bool r)] := by
  unfold s_l01In at h
  refine VCall.enter Try.call76 Try.func76 rfl 15 Try.ntmps76 (by simp) [.tmp 6] rfl ?_
  show VW _ _ _ (mk [(0, .val (i64 a0)), (1, .val (i64 a1)), (2, .val (i64 a2))]) _
  -- region 0
  refine VW.ws tau_ok Sound.none [some 6] [(0, .val (i64 a0)), (1, .val (i64 a1)), (2, .val (i64 a2))] rfl ?_ ?_
  · simp <;> simp [ieq, ilt, ile]
  -- region 1
  obtain ⟨x2, hx2, h⟩ := bind_some h
  refine VW.cut [(6, .val (.bool x2))] ?_ fun hy => ?_
  rotate_left
  · clear h
    by_cases hp1 : a1 ≤ a0
    · rw [if_pos hp1] at hx2
      have hp1b : ile a1 a0 = true := by simpa [ieq, ilt, ile] using hp1
      have hp1s := hp1b
      try simp at hp1s
      cases hx2
      refine VW.ws tau_ok Sound.none [some 7, some 8, some 9, some 10, some 11, some 12, some 13, some 14, some 6] _ rfl ?_ hy
      simp [hp1b, hp1s] <;> simp [ieq, ilt, ile]
    · rw [if_neg hp1] at hx2
      have hp1b : ile a1 a0 = false := by simpa [ieq, ilt, ile] using hp1
      have hp1s := hp1b
      try simp at hp1s
      cases hx2
      refine VW.ws tau_ok Sound.none [some 7, some 8, some 9, some 10, some 11, some 12, some 13, some 14, some 6] _ rfl ?_ hy
      simp [hp1b, hp1s] <;> simp [ieq, ilt, ile]
  cases h
  refine VW.ret ?_
  simp [Post, PostM, PostC, PostC2, Nx, Bk]

theorem s_l13Is_ok {a0 : List (List Int)} {r : Bool} (h : s_l13Is a0 = some r) :
    VCall Try.prog 75 [dM a0] [.sc (.bool r)] := by
  unfold s_l13Is at h
  refine VCall.enter Try.call75 Try.func75 rfl 124 Try.ntmps75 (by simp) [.tmp 2] rfl ?_
  show VW _ _ _ (mk [(0, .val (dM a0))]) _
  -- region 0
  refine VW.ws tau_ok Sound.none [some 2] [(0, .val (dM a0))] rfl ?_ ?_
  · simp <;> simp [ieq, ilt, ile]
  -- region 1
  refine VW.ws tau_ok Sound.none [some 9, some 10, some 3] [(0, .val (dM a0)), (3, .val (i64 (a0.length : Int)))] rfl ?_ ?_
  · simp <;> simp [ieq, ilt, ile]
  refine VW.sqc fun K1 hK1 hCK1 => ?_
  -- region 2
  obtain ⟨v2, hv2, h⟩ := bind_some h
  refine VW.ws tau_ok (Sound.none.add 12 (s_l01In_ok hv2) rfl) [some 11, some 12, some 13] [(0, .val (dM a0)), (3, .val (i64 (a0.length : Int))), (13, .val (.bool (!v2)))] rfl ?_ ?_
  · simp <;> simp [ieq, ilt, ile]
  refine VW.cond rfl (fun hb3 => ?_) (fun hb3 => ?_)
  ·
    replace hb3 : v2 = false := by simpa [ieq, ilt, ile] using hb3
    rw [if_pos hb3] at h
    -- region 3
    refine VW.ws tau_ok Sound.none [some 2] [(2, .val (.bool false))] rfl ?_ ?_
    · simp <;> simp [ieq, ilt, ile]
    cases h
    refine VW.ret ?_
    simp [Post, PostM, PostC, PostC2, Nx, Bk]
  replace hb3 : ¬ (v2 = false) := by simpa [ieq, ilt, ile] using hb3
  rw [if_neg hb3] at h
  refine VW.skip ?_
  refine hK1 _ ?_
  refine VW.sqc fun K4 hK4 hCK4 => ?_
  -- region 4
  refine VW.ws tau_ok Sound.none [some 4] [(0, .val (dM a0)), (3, .val (i64 (a0.length : Int))), (4, .val (i64 0))] rfl ?_ ?_
  · simp <;> simp [ieq, ilt, ile]
  obtain ⟨x5, hx5, h⟩ := bind_some h
  refine VW.tlO (fun y7 => [(0, .val (dM a0)), (3, .val (i64 (a0.length : Int)))]) x5 (hCK4) ?_ ?_
  · clear hx5
    rintro y7 rfl
    dsimp only at h
    refine hK4 _ ?_
    refine VW.sqc fun K13 hK13 hCK13 => ?_
    -- region 9
    refine VW.ws tau_ok Sound.none [some 5] [(0, .val (dM a0)), (3, .val (i64 (a0.length : Int))), (5, .val (i64 0))] rfl ?_ ?_
    · simp <;> simp [ieq, ilt, ile]
    obtain ⟨x14, hx14, h⟩ := bind_some h
    refine VW.tlO (fun y16 => []) x14 (hCK13) ?_ ?_
    · clear hx14
      rintro y16 rfl
      dsimp only at h
      refine hK13 _ ?_
      -- region 22
      refine VW.ws tau_ok Sound.none [some 2] [(2, .val (.bool true))] rfl ?_ ?_
      · simp <;> simp [ieq, ilt, ile]
      cases h
      refine VW.ret ?_
      simp [Post, PostM, PostC, PostC2, Nx, Bk]
    refine VW.block ?_
    refine VW.loopF (s_l13Is_L1 a0) (fun s14 => [(0, .val (dM a0)), (3, .val (i64 (a0.length : Int))), (5, .val (i64 s14))]) hx14 (Fits.of rfl) ?_
    clear hx14
    intro s14 ox14 hx14o hx14b
    unfold s_l13Is_L1 at hx14o
    refine VW.sqc fun K17 hK17 hCK17 => ?_
    -- region 10
    refine VW.ws tau_ok Sound.none [some 26, some 27, some 28] [(0, .val (dM a0)), (3, .val (i64 (a0.length : Int))), (5, .val (i64 s14)), (28, .val (.bool (ilt s14 (a0.length : Int))))] rfl ?_ ?_
    · simp <;> simp [ieq, ilt, ile]
    refine VW.cond rfl (fun hb18 => ?_) (fun hb18 => ?_)
    rotate_left
    ·
      replace hb18 : ¬ (s14 < (a0.length : Int)) := by simpa [ieq, ilt, ile] using hb18
      rw [if_neg hb18] at hx14o
      refine VW.exit ?_
      cases hx14o
      have hq := hx14b _ rfl
      subst hq
      exact ⟨_, rfl, Fits.of rfl⟩
    replace hb18 : s14 < (a0.length : Int) := by simpa [ieq, ilt, ile] using hb18
    rw [if_pos hb18] at hx14o
    refine VW.skip ?_
    refine hK17 _ ?_
    refine VW.sqc fun K19 hK19 hCK19 => ?_
    refine VW.block ?_
    -- region 12
    obtain ⟨hc20, hx14o⟩ := chk_some hx14o
    have hc20s := hc20
    try simp at hc20s
    obtain ⟨hc21, hx14o⟩ := chk_some hx14o
    have hc21s := hc21
    try simp at hc21s
    refine VW.wdsE tau_ok Sound.none try_mixed [some 31, some 32, some 33, some 34, some 6, some 7] [(0, .val (dM a0)), (3, .val (i64 (a0.length : Int))), (5, .val (i64 s14)), (6, .ref 6 [] true (dB (List.replicate (a0.length : Int).toNat false))), (7, .ref 7 [] true (dB (List.replicate (a0.length : Int).toNat false)))] 4 [3] rfl (by kernel_rfl) (by kernel_rfl) (by rfl) (by
    intro i hi hE
    simp only [List.mem_cons, List.not_mem_nil, or_false] at hi
    rcases hi with rfl
    all_goals first | (simp [isEx] at hE; done) | simp [exS, hc20, hc20s, hc21, hc21s]) ?_ ?_
    · simp [hc20, hc20s, hc21, hc21s] <;> simp [ieq, ilt, ile]
    refine VW.sqc fun K22 hK22 hCK22 => ?_
    -- region 13
    refine VW.ws tau_ok Sound.none [some 8] [(0, .val (dM a0)), (3, .val (i64 (a0.length : Int))), (5, .val (i64 s14)), (6, .ref 6 [] true (dB (List.replicate (a0.length : Int).toNat false))), (7, .ref 7 [] true (dB (List.replicate (a0.length : Int).toNat false))), (8, .val (i64 0))] rfl ?_ ?_
    · simp <;> simp [ieq, ilt, ile]
    obtain ⟨x23, hx23, hx14o⟩ := bind_some hx14o
    refine VW.tlO (fun y25 => [(0, .val (dM a0)), (3, .val (i64 (a0.length : Int))), (5, .val (i64 s14))]) x23 (hCK22) ?_ ?_
    · clear hx23
      rintro y25 rfl
      dsimp only at hx14o
      refine hK22 _ ?_
      -- region 20
      obtain ⟨x54, hx54, hx14o⟩ := bind_some hx14o
      refine VW.cut [(0, .val (dM a0)), (3, .val (i64 (a0.length : Int))), (5, .val (i64 s14)), (123, .val (.bool x54))] ?_ fun hy => ?_
      rotate_left
      · clear hx14o
        obtain ⟨v49, hv49, hx54⟩ := bind_some hx54
        obtain ⟨hv49a, hv49b, hv49c, hv49d⟩ := idx_some hv49
        replace hv49b : 0 < a0.length := hv49b
        replace hv49c : a0[0]? = some v49 := hv49c
        replace hv49d : ∀ h, a0[0]'h = v49 := hv49d
        obtain ⟨v50, hv50, hx54⟩ := bind_some hx54
        obtain ⟨hv50a, hv50b, hv50c, hv50d⟩ := idx_some hv50
        by_cases hp51 : ¬ v50 = s14
        · rw [if_pos hp51] at hx54
          have hp51b : ieq v50 s14 = false := by simpa [ieq, ilt, ile] using hp51
          have hp51s := hp51b
          try simp at hp51s
          cases hx54
          refine VW.ws tau_ok Sound.none [some 106, some 107, some 108, some 109, some 110, some 111, some 112, some 113, some 114, some 115, some 116, some 117, some 118, some 119, some 120, some 121, some 122, some 123] _ rfl ?_ hy
          simp [hv49a, hv49b, hv49c, hv49d, hv50a, hv50b, hv50c, hv50d, hp51b, hp51s] <;> simp [ieq, ilt, ile]
        · rw [if_neg hp51] at hx54
          have hp51b : ieq v50 s14 = true := by simpa [ieq, ilt, ile] using hp51
          have hp51s := hp51b
          try simp at hp51s
          obtain ⟨v52, hv52, hx54⟩ := bind_some hx54
          obtain ⟨hv52a, hv52b, hv52c, hv52d⟩ := idx_some hv52
          obtain ⟨v53, hv53, hx54⟩ := bind_some hx54
          obtain ⟨hv53a, hv53b, hv53c, hv53d⟩ := idx_some hv53
          replace hv53b : 0 < v52.length := hv53b
          replace hv53c : v52[0]? = some v53 := hv53c
          replace hv53d : ∀ h, v52[0]'h = v53 := hv53d
          cases hx54
          refine VW.ws tau_ok Sound.none [some 106, some 107, some 108, some 109, some 110, some 111, some 112, some 113, some 114, some 115, some 116, some 117, some 118, some 119, some 120, some 121, some 122, some 123] _ rfl ?_ hy
          simp [hv49a, hv49b, hv49c, hv49d, hv50a, hv50b, hv50c, hv50d, hp51b, hp51s, hv52a, hv52b, hv52c, hv52d, hv53a, hv53b, hv53c, hv53d] <;> simp [ieq, ilt, ile]
      refine VW.cond rfl (fun hb55 => ?_) (fun hb55 => ?_)
      rotate_left
      ·
        replace hb55 : ¬ (x54 = true) := by simpa [ieq, ilt, ile] using hb55
        rw [if_neg hb55] at hx14o
        refine VW.skip ?_
        refine hK19 _ ?_
        -- region 11
        refine VW.wr tau_ok Sound.none [some 29, some 30, some 5] [(0, .val (dM a0)), (3, .val (i64 (a0.length : Int))), (5, .val (i64 (w64 (s14 + 1))))] rfl ?_ ?_
        · simp <;> simp [ieq, ilt, ile]
        cases hx14o
        exact ⟨_, rfl, Fits.of rfl⟩
      replace hb55 : x54 = true := by simpa [ieq, ilt, ile] using hb55
      rw [if_pos hb55] at hx14o
      -- region 21
      refine VW.ws tau_ok Sound.none [some 2] [(2, .val (.bool false))] rfl ?_ ?_
      · simp <;> simp [ieq, ilt, ile]
      cases hx14o
      have hq := hx14b _ rfl
      subst hq
      dsimp only at h
      cases h
      refine VW.ret ?_
      simp [Post, PostM, PostC, PostC2, Nx, Bk]
    refine VW.block ?_
    refine VW.loopF (s_l13Is_L2 a0 s14) (fun s23 => [(0, .val (dM a0)), (3, .val (i64 (a0.length : Int))), (5, .val (i64 s14)), (6, .ref 6 [] true (dB s23.1)), (7, .ref 7 [] true (dB s23.2.1)), (8, .val (i64 s23.2.2))]) hx23 (Fits.of rfl) ?_
    clear hx23
    intro s23 ox23 hx23o hx23b
    unfold s_l13Is_L2 at hx23o
    refine VW.sqc fun K26 hK26 hCK26 => ?_
    -- region 14
    refine VW.ws tau_ok Sound.none [some 35, some 36, some 37] [(0, .val (dM a0)), (3, .val (i64 (a0.length : Int))), (5, .val (i64 s14)), (6, .ref 6 [] true (dB s23.1)), (7, .ref 7 [] true (dB s23.2.1)), (8, .val (i64 s23.2.2)), (37, .val (.bool (ilt s23.2.2 (a0.length : Int))))] rfl ?_ ?_
    · simp <;> simp [ieq, ilt, ile]
    refine VW.cond rfl (fun hb27 => ?_) (fun hb27 => ?_)
    rotate_left
    ·
      replace hb27 : ¬ (s23.2.2 < (a0.length : Int)) := by simpa [ieq, ilt, ile] using hb27
      rw [if_neg hb27] at hx23o
      refine VW.exit ?_
      cases hx23o
      have hq := hx23b _ rfl
      subst hq
      exact ⟨_, rfl, Fits.of rfl⟩
    replace hb27 : s23.2.2 < (a0.length : Int) := by simpa [ieq, ilt, ile] using hb27
    rw [if_pos hb27] at hx23o
    refine VW.skip ?_
    refine hK26 _ ?_
    refine VW.sqc fun K28 hK28 hCK28 => ?_
    refine VW.block ?_
    refine VW.sqc fun K29 hK29 hCK29 => ?_
    -- region 16
    obtain ⟨x41, hx41, hx23o⟩ := bind_some hx23o
    refine VW.cut [(0, .val (dM a0)), (3, .val (i64 (a0.length : Int))), (5, .val (i64 s14)), (6, .ref 6 [] true (dB s23.1)), (7, .ref 7 [] true (dB s23.2.1)), (8, .val (i64 s23.2.2)), (87, .val (.bool x41))] ?_ fun hy => ?_
    rotate_left
    · clear hx23o
      obtain ⟨v30, hv30, hx41⟩ := bind_some hx41
      obtain ⟨hv30a, hv30b, hv30c, hv30d⟩ := idx_some hv30
      obtain ⟨v31, hv31, hx41⟩ := bind_some hx41
      obtain ⟨hv31a, hv31b, hv31c, hv31d⟩ := idx_some hv31
      obtain ⟨v32, hv32, hx41⟩ := bind_some hx41
      by_cases hp33 : v32 = false
      · rw [if_pos hp33] at hx41
        have hp33b : v32 = false := by simpa [ieq, ilt, ile] using hp33
        have hp33s := hp33b
        try simp at hp33s
        cases hx41
        refine VW.ws tau_ok (Sound.none.add 49 (s_l01In_ok hv32) rfl) [some 40, some 41, some 42, some 43, some 44, some 45, some 46, some 47, some 48, some 49, some 50, some 51, some 52, some 53, some 54, some 55, some 56, some 57, some 58, some 59, some 60, some 61, some 62, some 63, some 64, some 65, some 66, some 67, some 68, some 69, some 70, some 71, some 72, some 73, some 74, some 75, some 76, some 77, some 78, some 79, some 80, some 81, some 82, some 83, some 84, some 85, some 86, some 87] _ rfl ?_ hy
        simp [hv30a, hv30b, hv30c, hv30d, hv31a, hv31b, hv31c, hv31d, hp33b, hp33s] <;> simp [ieq, ilt, ile]
      · rw [if_neg hp33] at hx41
        have hp33b : v32 = true := by simpa [ieq, ilt, ile] using hp33
        have hp33s := hp33b
        try simp at hp33s
        obtain ⟨v34, hv34, hx41⟩ := bind_some hx41
        obtain ⟨hv34a, hv34b, hv34c, hv34d⟩ := idx_some hv34
        obtain ⟨v35, hv35, hx41⟩ := bind_some hx41
        obtain ⟨hv35a, hv35b, hv35c, hv35d⟩ := idx_some hv35
        obtain ⟨v36, hv36, hx41⟩ := bind_some hx41
        by_cases hp37 : v36 = false
        · rw [if_pos hp37] at hx41
          have hp37b : v36 = false := by simpa [ieq, ilt, ile] using hp37
          have hp37s := hp37b
          try simp at hp37s
          cases hx41
          refine VW.ws tau_ok ((Sound.none.add 49 (s_l01In_ok hv32) rfl).add 61 (s_l01In_ok hv36) rfl) [some 40, some 41, some 42, some 43, some 44, some 45, some 46, some 47, some 48, some 49, some 50, some 51, some 52, some 53, some 54, some 55, some 56, some 57, some 58, some 59, some 60, some 61, some 62, some 63, some 64, some 65, some 66, some 67, some 68, some 69, some 70, some 71, some 72, some 73, some 74, some 75, some 76, some 77, some 78, some 79, some 80, some 81, some 82, some 83, some 84, some 85, some 86, some 87] _ rfl ?_ hy
          simp [hv30a, hv30b, hv30c, hv30d, hv31a, hv31b, hv31c, hv31d, hp33b, hp33s, hv34a, hv34b, hv34c, hv34d, hv35a, hv35b, hv35c, hv35d, hp37b, hp37s] <;> simp [ieq, ilt, ile]
        · rw [if_neg hp37] at hx41
          have hp37b : v36 = true := by simpa [ieq, ilt, ile] using hp37
          have hp37s := hp37b
          try simp at hp37s
          obtain ⟨v38, hv38, hx41⟩ := bind_some hx41
          obtain ⟨hv38a, hv38b, hv38c, hv38d⟩ := idx_some hv38
          by_cases hp39 : v38 = true
          · rw [if_pos hp39] at hx41
            have hp39b : v38 = true := by simpa [ieq, ilt, ile] using hp39
            have hp39s := hp39b
            try simp at hp39s
            cases hx41
            refine VW.ws tau_ok ((Sound.none.add 49 (s_l01In_ok hv32) rfl).add 61 (s_l01In_ok hv36) rfl) [some 40, some 41, some 42, some 43, some 44, some 45, some 46, some 47, some 48, some 49, some 50, some 51, some 52, some 53, some 54, some 55, some 56, some 57, some 58, some 59, some 60, some 61, some 62, some 63, some 64, some 65, some 66, some 67, some 68, some 69, some 70, some 71, some 72, some 73, some 74, some 75, some 76, some 77, some 78, some 79, some 80, some 81, some 82, some 83, some 84, some 85, some 86, some 87] _ rfl ?_ hy
            simp [hv30a, hv30b, hv30c, hv30d, hv31a, hv31b, hv31c, hv31d, hp33b, hp33s, hv34a, hv34b, hv34c, hv34d, hv35a, hv35b, hv35c, hv35d, hp37b, hp37s, hv38a, hv38b, hv38c, hv38d, hp39b, hp39s] <;> simp [ieq, ilt, ile]
          · rw [if_neg hp39] at hx41
            have hp39b : v38 = false := by simpa [ieq, ilt, ile] using hp39
            have hp39s := hp39b
            try simp at hp39s
            obtain ⟨v40, hv40, hx41⟩ := bind_some hx41
            obtain ⟨hv40a, hv40b, hv40c, hv40d⟩ := idx_some hv40
            cases hx41
            refine VW.ws tau_ok ((Sound.none.add 49 (s_l01In_ok hv32) rfl).add 61 (s_l01In_ok hv36) rfl) [some 40, some 41, some 42, some 43, some 44, some 45, some 46, some 47, some 48, some 49, some 50, some 51, some 52, some 53, some 54, some 55, some 56, some 57, some 58, some 59, some 60, some 61, some 62, some 63, some 64, some 65, some 66, some 67, some 68, some 69, some 70, some 71, some 72, some 73, some 74, some 75, some 76, some 77, some 78, some 79, some 80, some 81, some 82, some 83, some 84, some 85, some 86, some 87] _ rfl ?_ hy
            simp [hv30a, hv30b, hv30c, hv30d, hv31a, hv31b, hv31c, hv31d, hp33b, hp33s, hv34a, hv34b, hv34c, hv34d, hv35a, hv35b, hv35c, hv35d, hp37b, hp37s, hv38a, hv38b, hv38c, hv38d, hp39b, hp39s, hv40a, hv40b, hv40c, hv40d] <;> simp [ieq, ilt, ile]
    refine VW.cond rfl (fun hb42 => ?_) (fun hb42 => ?_)
    ·
      replace hb42 : x41 = true := by simpa [ieq, ilt, ile] using hb42
      rw [if_pos hb42] at hx23o
      -- region 17
      refine VW.ws tau_ok Sound.none [some 2] [(2, .val (.bool false))] rfl ?_ ?_
      · simp <;> simp [ieq, ilt, ile]
      cases hx23o
      have hq := hx23b _ rfl
      subst hq
      dsimp only at hx14o
      cases hx14o
      have hq := hx14b _ rfl
      subst hq
      dsimp only at h
      cases h
      refine VW.ret ?_
      simp [Post, PostM, PostC, PostC2, Nx, Bk]
    replace hb42 : ¬ (x41 = true) := by simpa [ieq, ilt, ile] using hb42
    rw [if_neg hb42] at hx23o
    refine VW.skip ?_
    refine hK29 _ ?_
    -- region 18
    obtain ⟨v43, hv43, hx23o⟩ := bind_some hx23o
    obtain ⟨hv43a, hv43b, hv43c, hv43d⟩ := idx_some hv43
    obtain ⟨v44, hv44, hx23o⟩ := bind_some hx23o
    obtain ⟨hv44a, hv44b, hv44c, hv44d⟩ := idx_some hv44
    obtain ⟨v45, hv45, hx23o⟩ := bind_some hx23o
    obtain ⟨hv45a, hv45b, hv45c, hv45d⟩ := idx_some hv45
    refine VW.ws tau_ok Sound.none [some 88, some 89, some 90, some 91, some 92, some 93, some 94, some 95, some 96, none] [(0, .val (dM a0)), (3, .val (i64 (a0.length : Int))), (5, .val (i64 s14)), (6, .ref 6 [] true (dB (s23.1.set v44.toNat true))), (7, .ref 7 [] true (dB s23.2.1)), (8, .val (i64 s23.2.2))] rfl ?_ ?_
    · simp [hv43a, hv43b, hv43c, hv43d, hv44a, hv44b, hv44c, hv44d, hv45a, hv45b, hv45c, hv45d] <;> simp [ieq, ilt, ile]
    -- region 19
    obtain ⟨v46, hv46, hx23o⟩ := bind_some hx23o
    obtain ⟨hv46a, hv46b, hv46c, hv46d⟩ := idx_some hv46
    obtain ⟨v47, hv47, hx23o⟩ := bind_some hx23o
    obtain ⟨hv47a, hv47b, hv47c, hv47d⟩ := idx_some hv47
    obtain ⟨v48, hv48, hx23o⟩ := bind_some hx23o
    obtain ⟨hv48a, hv48b, hv48c, hv48d⟩ := idx_some hv48
    refine VW.wr tau_ok Sound.none [some 97, some 98, some 99, some 100, some 101, some 102, some 103, some 104, some 105, none] [(0, .val (dM a0)), (3, .val (i64 (a0.length : Int))), (5, .val (i64 s14)), (6, .ref 6 [] true (dB (s23.1.set v44.toNat true))), (7, .ref 7 [] true (dB (s23.2.1.set v47.toNat true))), (8, .val (i64 s23.2.2))] rfl ?_ ?_
    · simp [hv46a, hv46b, hv46c, hv46d, hv47a, hv47b, hv47c, hv47d, hv48a, hv48b, hv48c, hv48d] <;> simp [ieq, ilt, ile]
    refine hK28 _ ?_
    -- region 15
    refine VW.wr tau_ok Sound.none [some 38, some 39, some 8] [(0, .val (dM a0)), (3, .val (i64 (a0.length : Int))), (5, .val (i64 s14)), (6, .ref 6 [] true (dB (s23.1.set v44.toNat true))), (7, .ref 7 [] true (dB (s23.2.1.set v47.toNat true))), (8, .val (i64 (w64 (s23.2.2 + 1))))] rfl ?_ ?_
    · simp <;> simp [ieq, ilt, ile]
    cases hx23o
    exact ⟨_, rfl, Fits.of rfl⟩
  refine VW.block ?_
  refine VW.loopF (s_l13Is_L0 a0) (fun s5 => [(0, .val (dM a0)), (3, .val (i64 (a0.length : Int))), (4, .val (i64 s5))]) hx5 (Fits.of rfl) ?_
  clear hx5
  intro s5 ox5 hx5o hx5b
  unfold s_l13Is_L0 at hx5o
  refine VW.sqc fun K8 hK8 hCK8 => ?_
  -- region 5
  refine VW.ws tau_ok Sound.none [some 14, some 15, some 16] [(0, .val (dM a0)), (3, .val (i64 (a0.length : Int))), (4, .val (i64 s5)), (16, .val (.bool (ilt s5 (a0.length : Int))))] rfl ?_ ?_
  · simp <;> simp [ieq, ilt, ile]
  refine VW.cond rfl (fun hb9 => ?_) (fun hb9 => ?_)
  rotate_left
  ·
    replace hb9 : ¬ (s5 < (a0.length : Int)) := by simpa [ieq, ilt, ile] using hb9
    rw [if_neg hb9] at hx5o
    refine VW.exit ?_
    cases hx5o
    have hq := hx5b _ rfl
    subst hq
    exact ⟨_, rfl, Fits.of rfl⟩
  replace hb9 : s5 < (a0.length : Int) := by simpa [ieq, ilt, ile] using hb9
  rw [if_pos hb9] at hx5o
  refine VW.skip ?_
  refine hK8 _ ?_
  refine VW.sqc fun K10 hK10 hCK10 => ?_
  refine VW.block ?_
  -- region 7
  obtain ⟨v11, hv11, hx5o⟩ := bind_some hx5o
  obtain ⟨hv11a, hv11b, hv11c, hv11d⟩ := idx_some hv11
  refine VW.ws tau_ok Sound.none [some 19, some 20, some 21, some 22, some 23, some 24, some 25] [(0, .val (dM a0)), (3, .val (i64 (a0.length : Int))), (4, .val (i64 s5)), (25, .val (.bool (!(ieq (v11.length : Int) (a0.length : Int)))))] rfl ?_ ?_
  · simp [hv11a, hv11b, hv11c, hv11d] <;> simp [ieq, ilt, ile]
  refine VW.cond rfl (fun hb12 => ?_) (fun hb12 => ?_)
  rotate_left
  ·
    replace hb12 : ¬ (¬ (v11.length : Int) = (a0.length : Int)) := by simpa [ieq, ilt, ile] using hb12
    rw [if_neg hb12] at hx5o
    refine VW.skip ?_
    refine hK10 _ ?_
    -- region 6
    refine VW.wr tau_ok Sound.none [some 17, some 18, some 4] [(0, .val (dM a0)), (3, .val (i64 (a0.length : Int))), (4, .val (i64 (w64 (s5 + 1))))] rfl ?_ ?_
    · simp <;> simp [ieq, ilt, ile]
    cases hx5o
    exact ⟨_, rfl, Fits.of rfl⟩
  replace hb12 : ¬ (v11.length : Int) = (a0.length : Int) := by simpa [ieq, ilt, ile] using hb12
  rw [if_pos hb12] at hx5o
  -- region 8
  refine VW.ws tau_ok Sound.none [some 2] [(2, .val (.bool false))] rfl ?_ ?_
  · simp <;> simp [ieq, ilt, ile]
  cases hx5o
  have hq := hx5b _ rfl
  subst hq
  dsimp only at h
  cases h
  refine VW.ret ?_
  simp [Post, PostM, PostC, PostC2, Nx, Bk]

theorem s_l13Sub_ok {a0 : List (List Int)} {a1 : List Int} {r : List Int} (h : s_l13Sub a0 a1 = some r) :
    VCall Try.prog 77 [dM a0, dI a1] [.own true (dI r)] := by
  unfold s_l13Sub at h
  refine VCall.enter Try.call77 Try.func77 rfl 126 Try.ntmps77 (by simp) [.tmp 4] rfl ?_
  show VW _ _ _ (mk [(0, .val (dM a0)), (1, .val (dI a1))]) _
  -- region 0
  refine VW.ws tau_ok Sound.none [some 4] [(0, .val (dM a0)), (1, .val (dI a1))] rfl ?_ ?_
  · simp <;> simp [ieq, ilt, ile]
  -- region 1
  obtain ⟨hc1, h⟩ := chk_some h
  have hc1s := hc1
  try simp at hc1s
  refine VW.ws tau_ok Sound.none [some 14, some 15, some 16, some 5] [(0, .val (dM a0)), (1, .val (dI a1)), (5, .ref 5 [] true (dB (List.replicate (a0.length : Int).toNat false)))] rfl ?_ ?_
  · simp [hc1, hc1s] <;> simp [ieq, ilt, ile]
  obtain ⟨l2, hl2, h⟩ := bind_some h
  rw [Option.some.inj hl2]
  -- region 2
  obtain ⟨v3, hv3, h⟩ := bind_some h
  obtain ⟨hv3a, hv3b, hv3c, hv3d⟩ := idx_some hv3
  replace hv3b : 0 < l2.length := hv3b
  replace hv3c : l2[0]? = some v3 := hv3c
  replace hv3d : ∀ h, l2[0]'h = v3 := hv3d
  refine VW.ws tau_ok Sound.none [some 17, some 18, none] [(0, .val (dM a0)), (1, .val (dI a1)), (5, .ref 5 [] true (dB (l2.set 0 true)))] rfl ?_ ?_
  · simp [hv3a, hv3b, hv3c, hv3d] <;> simp [ieq, ilt, ile]
  -- region 3
  refine VW.ws tau_ok Sound.none [some 19, some 6] [(0, .val (dM a0)), (1, .val (dI a1)), (5, .ref 5 [] true (dB (l2.set 0 true))), (6, .ref 6 [] true (dI [0]))] rfl ?_ ?_
  · simp <;> simp [ieq, ilt, ile]
  refine VW.sqc fun K4 hK4 hCK4 => ?_
  -- region 4
  refine VW.ws tau_ok Sound.none [some 7] [(0, .val (dM a0)), (1, .val (dI a1)), (5, .ref 5 [] true (dB (l2.set 0 true))), (6, .ref 6 [] true (dI [0])), (7, .val (i64 0))] rfl ?_ ?_
  · simp <;> simp [ieq, ilt, ile]
  obtain ⟨x5, hx5, h⟩ := bind_some h
  refine VW.tlE [(0, .val (dM a0)), (5, .ref 5 [] true (dB x5.1)), (6, .ref 6 [] true (dI x5.2))] (hCK4) ?_ ?_
  · clear hx5
    refine hK4 _ ?_
    refine VW.sqc fun K15 hK15 hCK15 => ?_
    -- region 10
    refine VW.ws tau_ok Sound.none [some 8] [(0, .val (dM a0)), (5, .ref 5 [] true (dB x5.1)), (6, .ref 6 [] true (dI x5.2)), (8, .val (i64 0))] rfl ?_ ?_
    · simp <;> simp [ieq, ilt, ile]
    obtain ⟨x16, hx16, h⟩ := bind_some h
    refine VW.tlE [(0, .val (dM a0)), (5, .ref 5 [] true (dB x16))] (hCK15) ?_ ?_
    · clear hx16
      refine hK15 _ ?_
      -- region 23
      refine VW.ws tau_ok Sound.none [some 110, some 12] [(0, .val (dM a0)), (5, .ref 5 [] true (dB x16)), (12, .ref 12 [] true (dI []))] rfl ?_ ?_
      · simp <;> simp [ieq, ilt, ile]
      refine VW.sqc fun K42 hK42 hCK42 => ?_
      -- region 24
      refine VW.ws tau_ok Sound.none [some 13] [(0, .val (dM a0)), (5, .ref 5 [] true (dB x16)), (12, .ref 12 [] true (dI [])), (13, .val (i64 0))] rfl ?_ ?_
      · simp <;> simp [ieq, ilt, ile]
      obtain ⟨x43, hx43, h⟩ := bind_some h
      refine VW.tlE [(12, .ref 12 [] true (dI x43))] (hCK42) ?_ ?_
      · clear hx43
        refine hK42 _ ?_
        -- region 29
        refine VW.ws tau_ok Sound.none [some 125, some 4] [(4, .ref 4 [] true (dI x43))] rfl ?_ ?_
        · simp <;> simp [ieq, ilt, ile]
        cases h
        refine VW.ret ?_
        simp [Post, PostM, PostC, PostC2, Nx, Bk]
      refine VW.block ?_
      refine VW.loopF (s_l13Sub_L4 a0 x16) (fun s43 => [(0, .val (dM a0)), (5, .ref 5 [] true (dB x16)), (12, .ref 12 [] true (dI s43.1)), (13, .val (i64 s43.2))]) hx43 (Fits.of rfl) ?_
      clear hx43
      intro s43 ox43 hx43o hx43b
      unfold s_l13Sub_L4 at hx43o
      refine VW.sqc fun K45 hK45 hCK45 => ?_
      -- region 25
      refine VW.ws tau_ok Sound.none [some 111, some 112, some 113, some 114] [(0, .val (dM a0)), (5, .ref 5 [] true (dB x16)), (12, .ref 12 [] true (dI s43.1)), (13, .val (i64 s43.2)), (114, .val (.bool (ilt s43.2 (a0.length : Int))))] rfl ?_ ?_
      · simp <;> simp [ieq, ilt, ile]
      refine VW.cond rfl (fun hb46 => ?_) (fun hb46 => ?_)
      rotate_left
      ·
        replace hb46 : ¬ (s43.2 < (a0.length : Int)) := by simpa [ieq, ilt, ile] using hb46
        rw [if_neg hb46] at hx43o
        refine VW.exit ?_
        cases hx43o
        have hq := hx43b _ rfl
        subst hq
        exact Fits.of rfl
      replace hb46 : s43.2 < (a0.length : Int) := by simpa [ieq, ilt, ile] using hb46
      rw [if_pos hb46] at hx43o
      refine VW.skip ?_
      refine hK45 _ ?_
      obtain ⟨x47, hx47, hx43o⟩ := bind_some hx43o
      refine VW.sqE [(0, .val (dM a0)), (5, .ref 5 [] true (dB x16)), (12, .ref 12 [] true (dI x47)), (13, .val (i64 s43.2))] ?_ ?_
      · clear hx47
        -- region 26
        refine VW.wr tau_ok Sound.none [some 115, some 116, some 13] [(0, .val (dM a0)), (5, .ref 5 [] true (dB x16)), (12, .ref 12 [] true (dI x47)), (13, .val (i64 (w64 (s43.2 + 1))))] rfl ?_ ?_
        · simp <;> simp [ieq, ilt, ile]
        cases hx43o
        exact ⟨_, rfl, Fits.of rfl⟩
      refine VW.block ?_
      -- region 27
      obtain ⟨v49, hv49, hx47⟩ := bind_some hx47
      obtain ⟨hv49a, hv49b, hv49c, hv49d⟩ := idx_some hv49
      refine VW.ws tau_ok Sound.none [some 117, some 118, some 119, some 120] [(0, .val (dM a0)), (5, .ref 5 [] true (dB x16)), (12, .ref 12 [] true (dI s43.1)), (13, .val (i64 s43.2)), (120, .val (.bool v49))] rfl ?_ ?_
      · simp [hv49a, hv49b, hv49c, hv49d] <;> simp [ieq, ilt, ile]
      refine VW.cond rfl (fun hb50 => ?_) (fun hb50 => ?_)
      rotate_left
      ·
        replace hb50 : ¬ (v49 = true) := by simpa [ieq, ilt, ile] using hb50
        rw [if_neg hb50] at hx47
        refine VW.skip ?_
        cases hx47
        exact Fits.of rfl
      replace hb50 : v49 = true := by simpa [ieq, ilt, ile] using hb50
      rw [if_pos hb50] at hx47
      -- region 28
      obtain ⟨hc51, hx47⟩ := chk_some hx47
      have hc51s := hc51
      try simp at hc51s
      refine VW.wr tau_ok Sound.none [some 121, some 122, some 123, some 124, some 12] [(0, .val (dM a0)), (5, .ref 5 [] true (dB x16)), (12, .ref 12 [] true (dI (s43.1 ++ [s43.2]))), (13, .val (i64 s43.2))] rfl ?_ ?_
      · simp [hc51, hc51s] <;> simp [ieq, ilt, ile]
      cases hx47
      exact Fits.of rfl
    refine VW.block ?_
    refine VW.loopF (s_l13Sub_L1 a0) (fun s16 => [(0, .val (dM a0)), (5, .ref 5 [] true (dB s16.1)), (6, .ref 6 [] true (dI s16.2.1)), (8, .val (i64 s16.2.2))]) hx16 (Fits.of rfl) ?_
    clear hx16
    intro s16 ox16 hx16o hx16b
    unfold s_l13Sub_L1 at hx16o
    refine VW.sqc fun K18 hK18 hCK18 => ?_
    -- region 11
    refine VW.ws tau_ok Sound.none [some 47, some 48, some 49, some 50] [(0, .val (dM a0)), (5, .ref 5 [] true (dB s16.1)), (6, .ref 6 [] true (dI s16.2.1)), (8, .val (i64 s16.2.2)), (50, .val (.bool (ilt s16.2.2 (s16.2.1.length : Int))))] rfl ?_ ?_
    · simp <;> simp [ieq, ilt, ile]
    refine VW.cond rfl (fun hb19 => ?_) (fun hb19 => ?_)
    rotate_left
    ·
      replace hb19 : ¬ (s16.2.2 < (s16.2.1.length : Int)) := by simpa [ieq, ilt, ile] using hb19
      rw [if_neg hb19] at hx16o
      refine VW.exit ?_
      cases hx16o
      have hq := hx16b _ rfl
      subst hq
      exact Fits.of rfl
    replace hb19 : s16.2.2 < (s16.2.1.length : Int) := by simpa [ieq, ilt, ile] using hb19
    rw [if_pos hb19] at hx16o
    refine VW.skip ?_
    refine hK18 _ ?_
    refine VW.sqc fun K20 hK20 hCK20 => ?_
    refine VW.block ?_
    -- region 13
    refine VW.ws tau_ok Sound.none [some 9] [(0, .val (dM a0)), (5, .ref 5 [] true (dB s16.1)), (6, .ref 6 [] true (dI s16.2.1)), (8, .val (i64 s16.2.2)), (9, .val (i64 0))] rfl ?_ ?_
    · simp <;> simp [ieq, ilt, ile]
    obtain ⟨x21, hx21, hx16o⟩ := bind_some hx16o
    refine VW.tlE [(0, .val (dM a0)), (5, .ref 5 [] true (dB x21.1)), (6, .ref 6 [] true (dI x21.2)), (8, .val (i64 s16.2.2))] (hCK20) ?_ ?_
    · clear hx21
      refine hK20 _ ?_
      -- region 12
      refine VW.wr tau_ok Sound.none [some 51, some 52, some 8] [(0, .val (dM a0)), (5, .ref 5 [] true (dB x21.1)), (6, .ref 6 [] true (dI x21.2)), (8, .val (i64 (w64 (s16.2.2 + 1))))] rfl ?_ ?_
      · simp <;> simp [ieq, ilt, ile]
      cases hx16o
      exact ⟨_, rfl, Fits.of rfl⟩
    refine VW.block ?_
    refine VW.loopF (s_l13Sub_L2 a0 s16) (fun s21 => [(0, .val (dM a0)), (5, .ref 5 [] true (dB s21.1)), (6, .ref 6 [] true (dI s21.2.1)), (8, .val (i64 s16.2.2)), (9, .val (i64 s21.2.2))]) hx21 (Fits.of rfl) ?_
    clear hx21
    intro s21 ox21 hx21o hx21b
    unfold s_l13Sub_L2 at hx21o
    refine VW.sqc fun K23 hK23 hCK23 => ?_
    -- region 14
    refine VW.ws tau_ok Sound.none [some 53, some 54, some 55] [(0, .val (dM a0)), (5, .ref 5 [] true (dB s21.1)), (6, .ref 6 [] true (dI s21.2.1)), (8, .val (i64 s16.2.2)), (9, .val (i64 s21.2.2)), (55, .val (.bool (ile s21.2.2 s16.2.2)))] rfl ?_ ?_
    · simp <;> simp [ieq, ilt, ile]
    refine VW.cond rfl (fun hb24 => ?_) (fun hb24 => ?_)
    rotate_left
    ·
      replace hb24 : ¬ (s21.2.2 ≤ s16.2.2) := by simpa [ieq, ilt, ile] using hb24
      rw [if_neg hb24] at hx21o
      refine VW.exit ?_
      cases hx21o
      have hq := hx21b _ rfl
      subst hq
      exact Fits.of rfl
    replace hb24 : s21.2.2 ≤ s16.2.2 := by simpa [ieq, ilt, ile] using hb24
    rw [if_pos hb24] at hx21o
    refine VW.skip ?_
    refine hK23 _ ?_
    refine VW.sqc fun K25 hK25 hCK25 => ?_
    refine VW.block ?_
    -- region 16
    obtain ⟨v26, hv26, hx21o⟩ := bind_some hx21o
    obtain ⟨hv26a, hv26b, hv26c, hv26d⟩ := idx_some hv26
    obtain ⟨v27, hv27, hx21o⟩ := bind_some hx21o
    obtain ⟨hv27a, hv27b, hv27c, hv27d⟩ := idx_some hv27
    obtain ⟨v28, hv28, hx21o⟩ := bind_some hx21o
    obtain ⟨hv28a, hv28b, hv28c, hv28d⟩ := idx_some hv28
    obtain ⟨v29, hv29, hx21o⟩ := bind_some hx21o
    obtain ⟨hv29a, hv29b, hv29c, hv29d⟩ := idx_some hv29
    obtain ⟨v30, hv30, hx21o⟩ := bind_some hx21o
    obtain ⟨hv30a, hv30b, hv30c, hv30d⟩ := idx_some hv30
    obtain ⟨v31, hv31, hx21o⟩ := bind_some hx21o
    obtain ⟨hv31a, hv31b, hv31c, hv31d⟩ := idx_some hv31
    refine VW.wds tau_ok Sound.none try_mixed [some 58, some 59, some 60, some 61, some 62, some 63, some 64, some 65, some 66, some 67, some 68, some 69, some 70, some 71, some 72, some 73, some 74, some 75, some 76, some 77, some 78, some 79, some 80, some 81, some 82, some 83, some 84, some 10] [(0, .val (dM a0)), (5, .ref 5 [] true (dB s21.1)), (6, .ref 6 [] true (dI s21.2.1)), (8, .val (i64 s16.2.2)), (9, .val (i64 s21.2.2)), (10, .ref 10 [] true (dI [v29, v31]))] 27 rfl (by kernel_rfl) (by rfl) ?_ ?_
    · simp [hv26a, hv26b, hv26c, hv26d, hv27a, hv27b, hv27c, hv27d, hv28a, hv28b, hv28c, hv28d, hv29a, hv29b, hv29c, hv29d, hv30a, hv30b, hv30c, hv30d, hv31a, hv31b, hv31c, hv31d] <;> simp [ieq, ilt, ile]
    -- region 17
    refine VW.ws tau_ok Sound.none [some 11] [(0, .val (dM a0)), (5, .ref 5 [] true (dB s21.1)), (6, .ref 6 [] true (dI s21.2.1)), (8, .val (i64 s16.2.2)), (9, .val (i64 s21.2.2)), (10, .ref 10 [] true (dI [v29, v31])), (11, .val (i64 0))] rfl ?_ ?_
    · simp <;> simp [ieq, ilt, ile]
    obtain ⟨x32, hx32, hx21o⟩ := bind_some hx21o
    refine VW.tlE [(0, .val (dM a0)), (5, .ref 5 [] true (dB x32.1)), (6, .ref 6 [] true (dI x32.2)), (8, .val (i64 s16.2.2)), (9, .val (i64 s21.2.2))] (hCK25) ?_ ?_
    · clear hx32
      refine hK25 _ ?_
      -- region 15
      refine VW.wr tau_ok Sound.none [some 56, some 57, some 9] [(0, .val (dM a0)), (5, .ref 5 [] true (dB x32.1)), (6, .ref 6 [] true (dI x32.2)), (8, .val (i64 s16.2.2)), (9, .val (i64 (w64 (s21.2.2 + 1))))] rfl ?_ ?_
      · simp <;> simp [ieq, ilt, ile]
      cases hx21o
      exact ⟨_, rfl, Fits.of rfl⟩
    refine VW.block ?_
    refine VW.loopF s_l13Sub_L3 (fun s32 => [(0, .val (dM a0)), (5, .ref 5 [] true (dB s32.1)), (6, .ref 6 [] true (dI s32.2.1)), (8, .val (i64 s16.2.2)), (9, .val (i64 s21.2.2)), (10, .ref 10 [] true (dI s32.2.2.1)), (11, .val (i64 s32.2.2.2))]) hx32 (Fits.of rfl) ?_
    clear hx32
    intro s32 ox32 hx32o hx32b
    unfold s_l13Sub_L3 at hx32o
    refine VW.sqc fun K34 hK34 hCK34 => ?_
    -- region 18
    refine VW.ws tau_ok Sound.none [some 85, some 86] [(0, .val (dM a0)), (5, .ref 5 [] true (dB s32.1)), (6, .ref 6 [] true (dI s32.2.1)), (8, .val (i64 s16.2.2)), (9, .val (i64 s21.2.2)), (10, .ref 10 [] true (dI s32.2.2.1)), (11, .val (i64 s32.2.2.2)), (86, .val (.bool (ilt s32.2.2.2 2)))] rfl ?_ ?_
    · simp <;> simp [ieq, ilt, ile]
    refine VW.cond rfl (fun hb35 => ?_) (fun hb35 => ?_)
    rotate_left
    ·
      replace hb35 : ¬ (s32.2.2.2 < 2) := by simpa [ieq, ilt, ile] using hb35
      rw [if_neg hb35] at hx32o
      refine VW.exit ?_
      cases hx32o
      have hq := hx32b _ rfl
      subst hq
      exact Fits.of rfl
    replace hb35 : s32.2.2.2 < 2 := by simpa [ieq, ilt, ile] using hb35
    rw [if_pos hb35] at hx32o
    refine VW.skip ?_
    refine hK34 _ ?_
    obtain ⟨x36, hx36, hx32o⟩ := bind_some hx32o
    refine VW.sqE [(0, .val (dM a0)), (5, .ref 5 [] true (dB x36.1)), (6, .ref 6 [] true (dI x36.2)), (8, .val (i64 s16.2.2)), (9, .val (i64 s21.2.2)), (10, .ref 10 [] true (dI s32.2.2.1)), (11, .val (i64 s32.2.2.2))] ?_ ?_
    · clear hx36
      -- region 19
      refine VW.wr tau_ok Sound.none [some 87, some 88, some 11] [(0, .val (dM a0)), (5, .ref 5 [] true (dB x36.1)), (6, .ref 6 [] true (dI x36.2)), (8, .val (i64 s16.2.2)), (9, .val (i64 s21.2.2)), (10, .ref 10 [] true (dI s32.2.2.1)), (11, .val (i64 (w64 (s32.2.2.2 + 1))))] rfl ?_ ?_
      · simp <;> simp [ieq, ilt, ile]
      cases hx32o
      exact ⟨_, rfl, Fits.of rfl⟩
    refine VW.block ?_
    -- region 20
    obtain ⟨v38, hv38, hx36⟩ := bind_some hx36
    obtain ⟨hv38a, hv38b, hv38c, hv38d⟩ := idx_some hv38
    obtain ⟨v39, hv39, hx36⟩ := bind_some hx36
    obtain ⟨hv39a, hv39b, hv39c, hv39d⟩ := idx_some hv39
    refine VW.ws tau_ok Sound.none [some 89, some 90, some 91, some 92, some 93, some 94, some 95, some 96] [(0, .val (dM a0)), (5, .ref 5 [] true (dB s32.1)), (6, .ref 6 [] true (dI s32.2.1)), (8, .val (i64 s16.2.2)), (9, .val (i64 s21.2.2)), (10, .ref 10 [] true (dI s32.2.2.1)), (11, .val (i64 s32.2.2.2)), (96, .val (.bool (!v39)))] rfl ?_ ?_
    · simp [hv38a, hv38b, hv38c, hv38d, hv39a, hv39b, hv39c, hv39d] <;> simp [ieq, ilt, ile]
    refine VW.cond rfl (fun hb40 => ?_) (fun hb40 => ?_)
    rotate_left
    ·
      replace hb40 : ¬ (v39 = false) := by simpa [ieq, ilt, ile] using hb40
      rw [if_neg hb40] at hx36
      refine VW.skip ?_
      cases hx36
      exact Fits.of rfl
    replace hb40 : v39 = false := by simpa [ieq, ilt, ile] using hb40
    rw [if_pos hb40] at hx36
    -- region 21
    refine VW.ws tau_ok Sound.none [some 97, some 98, some 99, some 100, some 101, some 102, none] [(0, .val (dM a0)), (5, .ref 5 [] true (dB (s32.1.set v38.toNat true))), (6, .ref 6 [] true (dI s32.2.1)), (8, .val (i64 s16.2.2)), (9, .val (i64 s21.2.2)), (10, .ref 10 [] true (dI s32.2.2.1)), (11, .val (i64 s32.2.2.2))] rfl ?_ ?_
    · simp [hv38a, hv38b, hv38c, hv38d, hv39a, hv39b, hv39c, hv39d] <;> simp [ieq, ilt, ile]
    -- region 22
    obtain ⟨hc41, hx36⟩ := chk_some hx36
    have hc41s := hc41
    try simp at hc41s
    refine VW.wr tau_ok Sound.none [some 103, some 104, some 105, some 106, some 107, some 108, some 109, some 6] [(0, .val (dM a0)), (5, .ref 5 [] true (dB (s32.1.set v38.toNat true))), (6, .ref 6 [] true (dI (s32.2.1 ++ [v38]))), (8, .val (i64 s16.2.2)), (9, .val (i64 s21.2.2)), (10, .ref 10 [] true (dI s32.2.2.1)), (11, .val (i64 s32.2.2.2))] rfl ?_ ?_
    · simp [hv38a, hv38b, hv38c, hv38d, hc41, hc41s] <;> simp [ieq, ilt, ile]
    cases hx36
    exact Fits.of rfl
  refine VW.block ?_
  refine VW.loopF (s_l13Sub_L0 a1) (fun s5 => [(0, .val (dM a0)), (1, .val (dI a1)), (5, .ref 5 [] true (dB s5.1)), (6, .ref 6 [] true (dI s5.2.1)), (7, .val (i64 s5.2.2))]) hx5 (Fits.of rfl) ?_
  clear hx5
  intro s5 ox5 hx5o hx5b
  unfold s_l13Sub_L0 at hx5o
  refine VW.sqc fun K7 hK7 hCK7 => ?_
  -- region 5
  refine VW.ws tau_ok Sound.none [some 20, some 21, some 22, some 23] [(0, .val (dM a0)), (1, .val (dI a1)), (5, .ref 5 [] true (dB s5.1)), (6, .ref 6 [] true (dI s5.2.1)), (7, .val (i64 s5.2.2)), (23, .val (.bool (ilt s5.2.2 (a1.length : Int))))] rfl ?_ ?_
  · simp <;> simp [ieq, ilt, ile]
  refine VW.cond rfl (fun hb8 => ?_) (fun hb8 => ?_)
  rotate_left
  ·
    replace hb8 : ¬ (s5.2.2 < (a1.length : Int)) := by simpa [ieq, ilt, ile] using hb8
    rw [if_neg hb8] at hx5o
    refine VW.exit ?_
    cases hx5o
    have hq := hx5b _ rfl
    subst hq
    exact Fits.of rfl
  replace hb8 : s5.2.2 < (a1.length : Int) := by simpa [ieq, ilt, ile] using hb8
  rw [if_pos hb8] at hx5o
  refine VW.skip ?_
  refine hK7 _ ?_
  obtain ⟨x9, hx9, hx5o⟩ := bind_some hx5o
  refine VW.sqE [(0, .val (dM a0)), (1, .val (dI a1)), (5, .ref 5 [] true (dB x9.1)), (6, .ref 6 [] true (dI x9.2)), (7, .val (i64 s5.2.2))] ?_ ?_
  · clear hx9
    -- region 6
    refine VW.wr tau_ok Sound.none [some 24, some 25, some 7] [(0, .val (dM a0)), (1, .val (dI a1)), (5, .ref 5 [] true (dB x9.1)), (6, .ref 6 [] true (dI x9.2)), (7, .val (i64 (w64 (s5.2.2 + 1))))] rfl ?_ ?_
    · simp <;> simp [ieq, ilt, ile]
    cases hx5o
    exact ⟨_, rfl, Fits.of rfl⟩
  refine VW.block ?_
  -- region 7
  obtain ⟨v11, hv11, hx9⟩ := bind_some hx9
  obtain ⟨hv11a, hv11b, hv11c, hv11d⟩ := idx_some hv11
  obtain ⟨v12, hv12, hx9⟩ := bind_some hx9
  obtain ⟨hv12a, hv12b, hv12c, hv12d⟩ := idx_some hv12
  refine VW.ws tau_ok Sound.none [some 26, some 27, some 28, some 29, some 30, some 31, some 32, some 33] [(0, .val (dM a0)), (1, .val (dI a1)), (5, .ref 5 [] true (dB s5.1)), (6, .ref 6 [] true (dI s5.2.1)), (7, .val (i64 s5.2.2)), (33, .val (.bool (!v12)))] rfl ?_ ?_
  · simp [hv11a, hv11b, hv11c, hv11d, hv12a, hv12b, hv12c, hv12d] <;> simp [ieq, ilt, ile]
  refine VW.cond rfl (fun hb13 => ?_) (fun hb13 => ?_)
  rotate_left
  ·
    replace hb13 : ¬ (v12 = false) := by simpa [ieq, ilt, ile] using hb13
    rw [if_neg hb13] at hx9
    refine VW.skip ?_
    cases hx9
    exact Fits.of rfl
  replace hb13 : v12 = false := by simpa [ieq, ilt, ile] using hb13
  rw [if_pos hb13] at hx9
  -- region 8
  refine VW.ws tau_ok Sound.none [some 34, some 35, some 36, some 37, some 38, some 39, none] [(0, .val (dM a0)), (1, .val (dI a1)), (5, .ref 5 [] true (dB (s5.1.set v11.toNat true))), (6, .ref 6 [] true (dI s5.2.1)), (7, .val (i64 s5.2.2))] rfl ?_ ?_
  · simp [hv11a, hv11b, hv11c, hv11d, hv12a, hv12b, hv12c, hv12d] <;> simp [ieq, ilt, ile]
  -- region 9
  obtain ⟨hc14, hx9⟩ := chk_some hx9
  have hc14s := hc14
  try simp at hc14s
  refine VW.wr tau_ok Sound.none [some 40, some 41, some 42, some 43, some 44, some 45, some 46, some 6] [(0, .val (dM a0)), (1, .val (dI a1)), (5, .ref 5 [] true (dB (s5.1.set v11.toNat true))), (6, .ref 6 [] true (dI (s5.2.1 ++ [v11]))), (7, .val (i64 s5.2.2))] rfl ?_ ?_
  · simp [hv11a, hv11b, hv11c, hv11d, hc14, hc14s] <;> simp [ieq, ilt, ile]
  cases hx9
  exact Fits.of rfl

theorem s_l13Associates_ok {a0 : List (List Int)} {a1 : Int} {a2 : Int} {a3 : Int} {r : Bool} (h : s_l13Associates a0 a1 a2 a3 = some r) :
    VCall Try.prog 80 [dM a0, i64 a1, i64 a2, i64 a3] [.sc (.bool r)] := by
  unfold s_l13Associates at h
  refine VCall.enter Try.call80 Try.func80 rfl 36 Try.ntmps80 (by simp) [.tmp 8] rfl ?_
  show VW _ _ _ (mk [(0, .val (dM a0)), (1, .val (i64 a1)), (2, .val (i64 a2)), (3, .val (i64 a3))]) _
  -- region 0
  refine VW.ws tau_ok Sound.none [some 8] [(0, .val (dM a0)), (1, .val (i64 a1)), (2, .val (i64 a2)), (3, .val (i64 a3))] rfl ?_ ?_
  · simp <;> simp [ieq, ilt, ile]
  -- region 1
  obtain ⟨v1, hv1, h⟩ := bind_some h
  obtain ⟨hv1a, hv1b, hv1c, hv1d⟩ := idx_some hv1
  obtain ⟨v2, hv2, h⟩ := bind_some h
  obtain ⟨hv2a, hv2b, hv2c, hv2d⟩ := idx_some hv2
  obtain ⟨v3, hv3, h⟩ := bind_some h
  obtain ⟨hv3a, hv3b, hv3c, hv3d⟩ := idx_some hv3
  obtain ⟨v4, hv4, h⟩ := bind_some h
  obtain ⟨hv4a, hv4b, hv4c, hv4d⟩ := idx_some hv4
  obtain ⟨v5, hv5, h⟩ := bind_some h
  obtain ⟨hv5a, hv5b, hv5c, hv5d⟩ := idx_some hv5
  obtain ⟨v6, hv6, h⟩ := bind_some h
  obtain ⟨hv6a, hv6b, hv6c, hv6d⟩ := idx_some hv6
  obtain ⟨v7, hv7, h⟩ := bind_some h
  obtain ⟨hv7a, hv7b, hv7c, hv7d⟩ := idx_some hv7
  refine VW.wds tau_ok Sound.none try_mixed [some 9, some 10, some 11, some 12, some 13, some 14, some 15, some 16, some 17, some 18, some 19, some 20, some 21, some 22, some 23, some 24, some 25, some 26, some 27, some 28, some 29, some 30, some 31, some 32, some 33, some 34, some 35, some 8] [(8, .val (.bool (ieq v4 v7)))] 28 rfl (by kernel_rfl) (by rfl) ?_ ?_
  · simp [hv1a, hv1b, hv1c, hv1d, hv2a, hv2b, hv2c, hv2d, hv3a, hv3b, hv3c, hv3d, hv4a, hv4b, hv4c, hv4d, hv5a, hv5b, hv5c, hv5d, hv6a, hv6b, hv6c, hv6d, hv7a, hv7b, hv7c, hv7d] <;> simp [ieq, ilt, ile]
  cases h
  refine VW.ret ?_
  simp [Post, PostM, PostC, PostC2, Nx, Bk]

theorem s_IsDiassociativeLoop_ok {a0 : List (List Int)} {r : Bool × Int} (h : s_IsDiassociativeLoop a0 = some r) :
    VCall Try.prog 21 [dM a0] [.sc (.bool r.1), .sc (i64 r.2)] := by
  unfold s_IsDiassociativeLoop at h
  refine VCall.enter Try.call21 Try.func21 rfl 69 Try.ntmps21 (by simp) [.tmp 2, .tmp 3] rfl ?_
  show VW _ _ _ (mk [(0, .val (dM a0))]) _
  -- region 0
  refine VW.ws tau_ok Sound.none [some 2, some 3] [(0, .val (dM a0))] rfl ?_ ?_
  · simp <;> simp [ieq, ilt, ile]
  refine VW.sqc fun K1 hK1 hCK1 => ?_
  refine VW.block ?_
  -- region 1
  obtain ⟨v2, hv2, h⟩ := bind_some h
  refine VW.ws tau_ok (Sound.none.add 12 (s_l13Is_ok hv2) rfl) [some 11, some 12, some 13, some 10] [(0, .val (dM a0)), (10, .val (.bool (!v2)))] rfl ?_ ?_
  · simp <;> simp [ieq, ilt, ile]
  refine VW.cond rfl (fun hb3 => ?_) (fun hb3 => ?_)
  ·
    replace hb3 : v2 = false := by simpa [ieq, ilt, ile] using hb3
    rw [if_pos hb3] at h
    -- region 2
    refine VW.ws tau_ok Sound.none [some 2, some 3] [(2, .val (.bool false)), (3, .val (i64 1))] rfl ?_ ?_
    · simp <;> simp [ieq, ilt, ile]
    cases h
    refine VW.ret ?_
    simp [Post, PostM, PostC, PostC2, Nx, Bk]
  replace hb3 : ¬ (v2 = false) := by simpa [ieq, ilt, ile] using hb3
  rw [if_neg hb3] at h
  -- region 3
  refine VW.ws tau_ok Sound.none [some 15, some 16, some 17, some 14] [(0, .val (dM a0)), (14, .val (.bool (ilt 32 (a0.length : Int))))] rfl ?_ ?_
  · simp <;> simp [ieq, ilt, ile]
  refine VW.cond rfl (fun hb4 => ?_) (fun hb4 => ?_)
  ·
    replace hb4 : 32 < (a0.length : Int) := by simpa [ieq, ilt, ile] using hb4
    rw [if_pos hb4] at h
    -- region 4
    refine VW.ws tau_ok Sound.none [some 2, some 3] [(2, .val (.bool false)), (3, .val (i64 3))] rfl ?_ ?_
    · simp <;> simp [ieq, ilt, ile]
    cases h
    refine VW.ret ?_
    simp [Post, PostM, PostC, PostC2, Nx, Bk]
  replace hb4 : ¬ (32 < (a0.length : Int)) := by simpa [ieq, ilt, ile] using hb4
  rw [if_neg hb4] at h
  refine VW.skip ?_
  refine hK1 _ ?_
  refine VW.sqc fun K5 hK5 hCK5 => ?_
  -- region 5
  refine VW.ws tau_ok Sound.none [some 4] [(0, .val (dM a0)), (4, .val (i64 0))] rfl ?_ ?_
  · simp <;> simp [ieq, ilt, ile]
  obtain ⟨x6, hx6, h⟩ := bind_some h
  refine VW.tlO (fun y8 => []) x6 (hCK5) ?_ ?_
  · clear hx6
    rintro y8 rfl
    dsimp only at h
    refine hK5 _ ?_
    -- region 23
    refine VW.ws tau_ok Sound.none [some 2, some 3] [(2, .val (.bool true)), (3, .val (i64 0))] rfl ?_ ?_
    · simp <;> simp [ieq, ilt, ile]
    cases h
    refine VW.ret ?_
    simp [Post, PostM, PostC, PostC2, Nx, Bk]
  refine VW.block ?_
  refine VW.loopF (s_IsDiassociativeLoop_L0 a0) (fun s6 => [(0, .val (dM a0)), (4, .val (i64 s6))]) hx6 (Fits.of rfl) ?_
  clear hx6
  intro s6 ox6 hx6o hx6b
  unfold s_IsDiassociativeLoop_L0 at hx6o
  refine VW.sqc fun K9 hK9 hCK9 => ?_
  -- region 6
  refine VW.ws tau_ok Sound.none [some 18, some 19, some 20, some 21] [(0, .val (dM a0)), (4, .val (i64 s6)), (21, .val (.bool (ilt s6 (a0.length : Int))))] rfl ?_ ?_
  · simp <;> simp [ieq, ilt, ile]
  refine VW.cond rfl (fun hb10 => ?_) (fun hb10 => ?_)
  rotate_left
  ·
    replace hb10 : ¬ (s6 < (a0.length : Int)) := by simpa [ieq, ilt, ile] using hb10
    rw [if_neg hb10] at hx6o
    refine VW.exit ?_
    cases hx6o
    have hq := hx6b _ rfl
    subst hq
    exact ⟨_, rfl, Fits.of rfl⟩
  replace hb10 : s6 < (a0.length : Int) := by simpa [ieq, ilt, ile] using hb10
  rw [if_pos hb10] at hx6o
  refine VW.skip ?_
  refine hK9 _ ?_
  refine VW.sqc fun K11 hK11 hCK11 => ?_
  refine VW.block ?_
  -- region 8
  refine VW.ws tau_ok Sound.none [some 24, some 5] [(0, .val (dM a0)), (4, .val (i64 s6)), (5, .val (i64 s6))] rfl ?_ ?_
  · simp <;> simp [ieq, ilt, ile]
  obtain ⟨x12, hx12, hx6o⟩ := bind_some hx6o
  refine VW.tlO (fun y14 => [(0, .val (dM a0)), (4, .val (i64 s6))]) x12 (hCK11) ?_ ?_
  · clear hx12
    rintro y14 rfl
    dsimp only at hx6o
    refine hK11 _ ?_
    -- region 7
    refine VW.wr tau_ok Sound.none [some 22, some 23, some 4] [(0, .val (dM a0)), (4, .val (i64 (w64 (s6 + 1))))] rfl ?_ ?_
    · simp <;> simp [ieq, ilt, ile]
    cases hx6o
    exact ⟨_, rfl, Fits.of rfl⟩
  refine VW.block ?_
  refine VW.loopF (s_IsDiassociativeLoop_L1 a0 s6) (fun s12 => [(0, .val (dM a0)), (4, .val (i64 s6)), (5, .val (i64 s12))]) hx12 (Fits.of rfl) ?_
  clear hx12
  intro s12 ox12 hx12o hx12b
  unfold s_IsDiassociativeLoop_L1 at hx12o
  refine VW.sqc fun K15 hK15 hCK15 => ?_
  -- region 9
  refine VW.ws tau_ok Sound.none [some 25, some 26, some 27, some 28] [(0, .val (dM a0)), (4, .val (i64 s6)), (5, .val (i64 s12)), (28, .val (.bool (ilt s12 (a0.length : Int))))] rfl ?_ ?_
  · simp <;> simp [ieq, ilt, ile]
  refine VW.cond rfl (fun hb16 => ?_) (fun hb16 => ?_)
  rotate_left
  ·
    replace hb16 : ¬ (s12 < (a0.length : Int)) := by simpa [ieq, ilt, ile] using hb16
    rw [if_neg hb16] at hx12o
    refine VW.exit ?_
    cases hx12o
    have hq := hx12b _ rfl
    subst hq
    exact ⟨_, rfl, Fits.of rfl⟩
  replace hb16 : s12 < (a0.length : Int) := by simpa [ieq, ilt, ile] using hb16
  rw [if_pos hb16] at hx12o
  refine VW.skip ?_
  refine hK15 _ ?_
  refine VW.sqc fun K17 hK17 hCK17 => ?_
  refine VW.block ?_
  -- region 11
  obtain ⟨v18, hv18, hx12o⟩ := bind_some hx12o
  refine VW.ws tau_ok (Sound.none.add 35 (s_l13Sub_ok hv18) rfl) [some 31, some 32, some 33, some 34, some 35, some 6] [(0, .val (dM a0)), (4, .val (i64 s6)), (5, .val (i64 s12)), (6, .ref 6 [] true (dI v18))] rfl ?_ ?_
  · simp <;> simp [ieq, ilt, ile]
  -- region 12
  refine VW.ws tau_ok Sound.none [some 7] [(0, .val (dM a0)), (4, .val (i64 s6)), (5, .val (i64 s12)), (6, .ref 6 [] true (dI v18)), (7, .val (i64 0))] rfl ?_ ?_
  · simp <;> simp [ieq, ilt, ile]
  obtain ⟨x19, hx19, hx12o⟩ := bind_some hx12o
  refine VW.tlO (fun y21 => [(0, .val (dM a0)), (4, .val (i64 s6)), (5, .val (i64 s12))]) x19 (hCK17) ?_ ?_
  · clear hx19
    rintro y21 rfl
    dsimp only at hx12o
    refine hK17 _ ?_
    -- region 10
    refine VW.wr tau_ok Sound.none [some 29, some 30, some 5] [(0, .val (dM a0)), (4, .val (i64 s6)), (5, .val (i64 (w64 (s12 + 1))))] rfl ?_ ?_
    · simp <;> simp [ieq, ilt, ile]
    cases hx12o
    exact ⟨_, rfl, Fits.of rfl⟩
  refine VW.block ?_
  refine VW.loopF (s_IsDiassociativeLoop_L2 a0 v18) (fun s19 => [(0, .val (dM a0)), (4, .val (i64 s6)), (5, .val (i64 s12)), (6, .ref 6 [] true (dI v18)), (7, .val (i64 s19))]) hx19 (Fits.of rfl) ?_
  clear hx19
  intro s19 ox19 hx19o hx19b
  unfold s_IsDiassociativeLoop_L2 at hx19o
  refine VW.sqc fun K22 hK22 hCK22 => ?_
  -- region 13
  refine VW.ws tau_ok Sound.none [some 36, some 37, some 38, some 39] [(0, .val (dM a0)), (4, .val (i64 s6)), (5, .val (i64 s12)), (6, .ref 6 [] true (dI v18)), (7, .val (i64 s19)), (39, .val (.bool (ilt s19 (v18.length : Int))))] rfl ?_ ?_
  · simp <;> simp [ieq, ilt, ile]
  refine VW.cond rfl (fun hb23 => ?_) (fun hb23 => ?_)
  rotate_left
  ·
    replace hb23 : ¬ (s19 < (v18.length : Int)) := by simpa [ieq, ilt, ile] using hb23
    rw [if_neg hb23] at hx19o
    refine VW.exit ?_
    cases hx19o
    have hq := hx19b _ rfl
    subst hq
    exact ⟨_, rfl, Fits.of rfl⟩
  replace hb23 : s19 < (v18.length : Int) := by simpa [ieq, ilt, ile] using hb23
  rw [if_pos hb23] at hx19o
  refine VW.skip ?_
  refine hK22 _ ?_
  refine VW.sqc fun K24 hK24 hCK24 => ?_
  refine VW.block ?_
  -- region 15
  refine VW.ws tau_ok Sound.none [some 8] [(0, .val (dM a0)), (4, .val (i64 s6)), (5, .val (i64 s12)), (6, .ref 6 [] true (dI v18)), (7, .val (i64 s19)), (8, .val (i64 0))] rfl ?_ ?_
  · simp <;> simp [ieq, ilt, ile]
  obtain ⟨x25, hx25, hx19o⟩ := bind_some hx19o
  refine VW.tlO (fun y27 => [(0, .val (dM a0)), (4, .val (i64 s6)), (5, .val (i64 s12)), (6, .ref 6 [] true (dI v18)), (7, .val (i64 s19))]) x25 (hCK24) ?_ ?_
  · clear hx25
    rintro y27 rfl
    dsimp only at hx19o
    refine hK24 _ ?_
    -- region 14
    refine VW.wr tau_ok Sound.none [some 40, some 41, some 7] [(0, .val (dM a0)), (4, .val (i64 s6)), (5, .val (i64 s12)), (6, .ref 6 [] true (dI v18)), (7, .val (i64 (w64 (s19 + 1))))] rfl ?_ ?_
    · simp <;> simp [ieq, ilt, ile]
    cases hx19o
    exact ⟨_, rfl, Fits.of rfl⟩
  refine VW.block ?_
  refine VW.loopF (s_IsDiassociativeLoop_L3 a0 v18 s19) (fun s25 => [(0, .val (dM a0)), (4, .val (i64 s6)), (5, .val (i64 s12)), (6, .ref 6 [] true (dI v18)), (7, .val (i64 s19)), (8, .val (i64 s25))]) hx25 (Fits.of rfl) ?_
  clear hx25
  intro s25 ox25 hx25o hx25b
  unfold s_IsDiassociativeLoop_L3 at hx25o
  refine VW.sqc fun K28 hK28 hCK28 => ?_
  -- region 16
  refine VW.ws tau_ok Sound.none [some 42, some 43, some 44, some 45] [(0, .val (dM a0)), (4, .val (i64 s6)), (5, .val (i64 s12)), (6, .ref 6 [] true (dI v18)), (7, .val (i64 s19)), (8, .val (i64 s25)), (45, .val (.bool (ilt s25 (v18.length : Int))))] rfl ?_ ?_
  · simp <;> simp [ieq, ilt, ile]
  refine VW.cond rfl (fun hb29 => ?_) (fun hb29 => ?_)
  rotate_left
  ·
    replace hb29 : ¬ (s25 < (v18.length : Int)) := by simpa [ieq, ilt, ile] using hb29
    rw [if_neg hb29] at hx25o
    refine VW.exit ?_
    cases hx25o
    have hq := hx25b _ rfl
    subst hq
    exact ⟨_, rfl, Fits.of rfl⟩
  replace hb29 : s25 < (v18.length : Int) := by simpa [ieq, ilt, ile] using hb29
  rw [if_pos hb29] at hx25o
  refine VW.skip ?_
  refine hK28 _ ?_
  refine VW.sqc fun K30 hK30 hCK30 => ?_
  refine VW.block ?_
  -- region 18
  refine VW.ws tau_ok Sound.none [some 9] [(0, .val (dM a0)), (4, .val (i64 s6)), (5, .val (i64 s12)), (6, .ref 6 [] true (dI v18)), (7, .val (i64 s19)), (8, .val (i64 s25)), (9, .val (i64 0))] rfl ?_ ?_
  · simp <;> simp [ieq, ilt, ile]
  obtain ⟨x31, hx31, hx25o⟩ := bind_some hx25o
  refine VW.tlO (fun y33 => [(0, .val (dM a0)), (4, .val (i64 s6)), (5, .val (i64 s12)), (6, .ref 6 [] true (dI v18)), (7, .val (i64 s19)), (8, .val (i64 s25))]) x31 (hCK30) ?_ ?_
  · clear hx31
    rintro y33 rfl
    dsimp only at hx25o
    refine hK30 _ ?_
    -- region 17
    refine VW.wr tau_ok Sound.none [some 46, some 47, some 8] [(0, .val (dM a0)), (4, .val (i64 s6)), (5, .val (i64 s12)), (6, .ref 6 [] true (dI v18)), (7, .val (i64 s19)), (8, .val (i64 (w64 (s25 + 1))))] rfl ?_ ?_
    · simp <;> simp [ieq, ilt, ile]
    cases hx25o
    exact ⟨_, rfl, Fits.of rfl⟩
  refine VW.block ?_
  refine VW.loopF (s_IsDiassociativeLoop_L4 a0 v18 s19 s25) (fun s31 => [(0, .val (dM a0)), (4, .val (i64 s6)), (5, .val (i64 s12)), (6, .ref 6 [] true (dI v18)), (7, .val (i64 s19)), (8, .val (i64 s25)), (9, .val (i64 s31))]) hx31 (Fits.of rfl) ?_
  clear hx31
  intro s31 ox31 hx31o hx31b
  unfold s_IsDiassociativeLoop_L4 at hx31o
  refine VW.sqc fun K34 hK34 hCK34 => ?_
  -- region 19
  refine VW.ws tau_ok Sound.none [some 48, some 49, some 50, some 51] [(0, .val (dM a0)), (4, .val (i64 s6)), (5, .val (i64 s12)), (6, .ref 6 [] true (dI v18)), (7, .val (i64 s19)), (8, .val (i64 s25)), (9, .val (i64 s31)), (51, .val (.bool (ilt s31 (v18.length : Int))))] rfl ?_ ?_
  · simp <;> simp [ieq, ilt, ile]
  refine VW.cond rfl (fun hb35 => ?_) (fun hb35 => ?_)
  rotate_left
  ·
    replace hb35 : ¬ (s31 < (v18.length : Int)) := by simpa [ieq, ilt, ile] using hb35
    rw [if_neg hb35] at hx31o
    refine VW.exit ?_
    cases hx31o
    have hq := hx31b _ rfl
    subst hq
    exact ⟨_, rfl, Fits.of rfl⟩
  replace hb35 : s31 < (v18.length : Int) := by simpa [ieq, ilt, ile] using hb35
  rw [if_pos hb35] at hx31o
  refine VW.skip ?_
  refine hK34 _ ?_
  refine VW.sqc fun K36 hK36 hCK36 => ?_
  refine VW.block ?_
  -- region 21
  obtain ⟨v37, hv37, hx31o⟩ := bind_some hx31o
  obtain ⟨hv37a, hv37b, hv37c, hv37d⟩ := idx_some hv37
  obtain ⟨v38, hv38, hx31o⟩ := bind_some hx31o
  obtain ⟨hv38a, hv38b, hv38c, hv38d⟩ := idx_some hv38
  obtain ⟨v39, hv39, hx31o⟩ := bind_some hx31o
  obtain ⟨hv39a, hv39b, hv39c, hv39d⟩ := idx_some hv39
  obtain ⟨v40, hv40, hx31o⟩ := bind_some hx31o
  refine VW.wds tau_ok (Sound.none.add 67 (s_l13Associates_ok hv40) rfl) try_mixed [some 54, some 55, some 56, some 57, some 58, some 59, some 60, some 61, some 62, some 63, some 64, some 65, some 66, some 67, some 68] [(0, .val (dM a0)), (4, .val (i64 s6)), (5, .val (i64 s12)), (6, .ref 6 [] true (dI v18)), (7, .val (i64 s19)), (8, .val (i64 s25)), (9, .val (i64 s31)), (68, .val (.bool (!v40)))] 15 rfl (by kernel_rfl) (by rfl) ?_ ?_
  · simp [hv37a, hv37b, hv37c, hv37d, hv38a, hv38b, hv38c, hv38d, hv39a, hv39b, hv39c, hv39d] <;> simp [ieq, ilt, ile]
  refine VW.cond rfl (fun hb41 => ?_) (fun hb41 => ?_)
  rotate_left
  ·
    replace hb41 : ¬ (v40 = false) := by simpa [ieq, ilt, ile] using hb41
    rw [if_neg hb41] at hx31o
    refine VW.skip ?_
    refine hK36 _ ?_
    -- region 20
    refine VW.wr tau_ok Sound.none [some 52, some 53, some 9] [(0, .val (dM a0)), (4, .val (i64 s6)), (5, .val (i64 s12)), (6, .ref 6 [] true (dI v18)), (7, .val (i64 s19)), (8, .val (i64 s25)), (9, .val (i64 (w64 (s31 + 1))))] rfl ?_ ?_
    · simp <;> simp [ieq, ilt, ile]
    cases hx31o
    exact ⟨_, rfl, Fits.of rfl⟩
  replace hb41 : v40 = false := by simpa [ieq, ilt, ile] using hb41
  rw [if_pos hb41] at hx31o
  -- region 22
  refine VW.ws tau_ok Sound.none [some 2, some 3] [(2, .val (.bool false)), (3, .val (i64 0))] rfl ?_ ?_
  · simp <;> simp [ieq, ilt, ile]
  cases hx31o
  have hq := hx31b _ rfl
  subst hq
  dsimp only at hx25o
  cases hx25o
  have hq := hx25b _ rfl
  subst hq
  dsimp only at hx19o
  cases hx19o
  have hq := hx19b _ rfl
  subst hq
  dsimp only at hx12o
  cases hx12o
  have hq := hx12b _ rfl
  subst hq
  dsimp only at hx6o
  cases hx6o
  have hq := hx6b _ rfl
  subst hq
  dsimp only at h
  cases h
  refine VW.ret ?_
  simp [Post, PostM, PostC, PostC2, Nx, Bk]

theorem i_length_I_ok {a0 : List Int} {r : Int} (h : i_length_I a0 = some r) :
    VCall Try.prog 174 [dI a0] [.sc (i64 r)] := by
  unfold i_length_I at h
  refine VCall.enter Try.call174 Try.func174 rfl 5 Try.ntmps174 (by simp) [.tmp 2] rfl ?_
  show VW _ _ _ (mk [(0, .val (dI a0))]) _
  -- region 0
  refine VW.ws tau_ok Sound.none [some 2] [(0, .val (dI a0))] rfl ?_ ?_
  · simp <;> simp [ieq, ilt, ile]
  -- region 1
  refine VW.ws tau_ok Sound.none [some 3, some 4, some 2] [(2, .val (i64 (a0.length : Int)))] rfl ?_ ?_
  · simp <;> simp [ieq, ilt, ile]
  cases h
  refine VW.ret ?_
  simp [Post, PostM, PostC, PostC2, Nx, Bk]

theorem i_inRange_ok {a0 : Int} {a1 : Int} {a2 : Int} {r : Bool} (h : i_inRange a0 a1 a2 = some r) :
    VCall Try.prog 160 [i64 a0, i64 a1, i64 a2] [.sc (.bool r)] := by
  unfold i_inRange at h
  refine VCall.enter Try.call160 Try.func160 rfl 15 Try.ntmps160 (by simp) [.tmp 6] rfl ?_
  show VW _ _ _ (mk [(0, .val (i64 a0)), (1, .val (i64 a1)), (2, .val (i64 a2))]) _
  -- region 0
  refine VW.ws tau_ok Sound.none [some 6] [(0, .val (i64 a0)), (1, .val (i64 a1)), (2, .val (i64 a2))] rfl ?_ ?_
  · simp <;> simp [ieq, ilt, ile]
  -- region 1
  obtain ⟨x2, hx2, h⟩ := bind_some h
  refine VW.cut [(6, .val (.bool x2))] ?_ fun hy => ?_
  rotate_left
  · clear h
    by_cases hp1 : a1 ≤ a0
    · rw [if_pos hp1] at hx2
      have hp1b : ile a1 a0 = true := by simpa [ieq, ilt, ile] using hp1
      have hp1s := hp1b
      try simp at hp1s
      cases hx2
      refine VW.ws tau_ok Sound.none [some 7, some 8, some 9, some 10, some 11, some 12, some 13, some 14, some 6] _ rfl ?_ hy
      simp [hp1b, hp1s] <;> simp [ieq, ilt, ile]
    · rw [if_neg hp1] at hx2
      have hp1b : ile a1 a0 = false := by simpa [ieq, ilt, ile] using hp1
      have hp1s := hp1b
      try simp at hp1s
      cases hx2
      refine VW.ws tau_ok Sound.none [some 7, some 8, some 9, some 10, some 11, some 12, some 13, some 14, some 6] _ rfl ?_ hy
      simp [hp1b, hp1s] <;> simp [ieq, ilt, ile]
  cases h
  refine VW.ret ?_
  simp [Post, PostM, PostC, PostC2, Nx, Bk]

theorem i_isOnce_ok {a0 : List Int} {r : Bool} (h : i_isOnce a0 = some r) :
    VCall Try.prog 101 [dI a0] [.sc (.bool r)] := by
  unfold i_isOnce at h
  refine VCall.enter Try.call101 Try.func101 rfl 31 Try.ntmps101 (by simp) [.tmp 2] rfl ?_
  show VW _ _ _ (mk [(0, .val (dI a0))]) _
  -- region 0
  refine VW.ws tau_ok Sound.none [some 2] [(0, .val (dI a0))] rfl ?_ ?_
  · simp <;> simp [ieq, ilt, ile]
  -- region 1
  obtain ⟨hc1, h⟩ := chk_some h
  have hc1s := hc1
  try simp at hc1s
  refine VW.ws tau_ok Sound.none [some 6, some 7, some 8, some 3] [(0, .val (dI a0)), (3, .ref 3 [] true (dB (List.replicate (a0.length : Int).toNat false)))] rfl ?_ ?_
  · simp [hc1, hc1s] <;> simp [ieq, ilt, ile]
  refine VW.sqc fun K2 hK2 hCK2 => ?_
  -- region 2
  refine VW.ws tau_ok Sound.none [some 9, some 10, some 11] [(0, .val (dI a0)), (3, .ref 3 [] true (dB (List.replicate (a0.length : Int).toNat false))), (9, .val (dI a0)), (10, .val (i64 (a0.length : Int))), (11, .val (i64 0))] rfl ?_ ?_
  · simp <;> simp [ieq, ilt, ile]
  obtain ⟨x3, hx3, h⟩ := bind_some h
  refine VW.tlO (fun y5 => []) x3 (hCK2) ?_ ?_
  · clear hx3
    rintro y5 rfl
    dsimp only at h
    refine hK2 _ ?_
    -- region 9
    refine VW.ws tau_ok Sound.none [some 2] [(2, .val (.bool true))] rfl ?_ ?_
    · simp <;> simp [ieq, ilt, ile]
    cases h
    refine VW.ret ?_
    simp [Post, PostM, PostC, PostC2, Nx, Bk]
  refine VW.block ?_
  refine VW.loopF (i_isOnce_L0 a0) (fun s3 => [(0, .val (dI a0)), (3, .ref 3 [] true (dB s3.1)), (9, .val (dI a0)), (10, .val (i64 (a0.length : Int))), (11, .val (i64 s3.2))]) hx3 (Fits.of rfl) ?_
  clear hx3
  intro s3 ox3 hx3o hx3b
  unfold i_isOnce_L0 at hx3o
  -- region 3
  refine VW.ws tau_ok Sound.none [some 12] [(0, .val (dI a0)), (3, .ref 3 [] true (dB s3.1)), (9, .val (dI a0)), (10, .val (i64 (a0.length : Int))), (11, .val (i64 s3.2)), (12, .val (.bool (ilt s3.2 (a0.length : Int))))] rfl ?_ ?_
  · simp <;> simp [ieq, ilt, ile]
  refine VW.sqc fun K6 hK6 hCK6 => ?_
  refine VW.cond rfl (fun hb7 => ?_) (fun hb7 => ?_)
  rotate_left
  ·
    replace hb7 : ¬ (s3.2 < (a0.length : Int)) := by simpa [ieq, ilt, ile] using hb7
    rw [if_neg hb7] at hx3o
    refine VW.exit ?_
    cases hx3o
    have hq := hx3b _ rfl
    subst hq
    exact ⟨_, rfl, Fits.of rfl⟩
  replace hb7 : s3.2 < (a0.length : Int) := by simpa [ieq, ilt, ile] using hb7
  rw [if_pos hb7] at hx3o
  refine VW.skip ?_
  refine hK6 _ ?_
  refine VW.sqc fun K8 hK8 hCK8 => ?_
  refine VW.block ?_
  -- region 4
  obtain ⟨v9, hv9, hx3o⟩ := bind_some hx3o
  obtain ⟨hv9a, hv9b, hv9c, hv9d⟩ := idx_some hv9
  refine VW.ws tau_ok Sound.none [some 13, some 14, some 5] [(0, .val (dI a0)), (3, .ref 3 [] true (dB s3.1)), (5, .val (i64 v9)), (9, .val (dI a0)), (10, .val (i64 (a0.length : Int))), (11, .val (i64 s3.2))] rfl ?_ ?_
  · simp [hv9a, hv9b, hv9c, hv9d] <;> simp [ieq, ilt, ile]
  refine VW.sqc fun K10 hK10 hCK10 => ?_
  -- region 5
  obtain ⟨x15, hx15, hx3o⟩ := bind_some hx3o
  refine VW.cut [(0, .val (dI a0)), (3, .ref 3 [] true (dB s3.1)), (5, .val (i64 v9)), (9, .val (dI a0)), (10, .val (i64 (a0.length : Int))), (11, .val (i64 s3.2)), (26, .val (.bool x15))] ?_ fun hy => ?_
  rotate_left
  · clear hx3o
    obtain ⟨v11, hv11, hx15⟩ := bind_some hx15
    obtain ⟨v12, hv12, hx15⟩ := bind_some hx15
    by_cases hp13 : v12 = false
    · rw [if_pos hp13] at hx15
      have hp13b : v12 = false := by simpa [ieq, ilt, ile] using hp13
      have hp13s := hp13b
      try simp at hp13s
      cases hx15
      refine VW.ws tau_ok ((Sound.none.add 17 (i_length_I_ok hv11) rfl).add 19 (i_inRange_ok hv12) rfl) [some 15, some 16, some 17, some 18, some 19, some 20, some 21, some 22, some 23, some 24, some 25, some 26] _ rfl ?_ hy
      simp [hp13b, hp13s] <;> simp [ieq, ilt, ile]
    · rw [if_neg hp13] at hx15
      have hp13b : v12 = true := by simpa [ieq, ilt, ile] using hp13
      have hp13s := hp13b
      try simp at hp13s
      obtain ⟨v14, hv14, hx15⟩ := bind_some hx15
      obtain ⟨hv14a, hv14b, hv14c, hv14d⟩ := idx_some hv14
      cases hx15
      refine VW.ws tau_ok ((Sound.none.add 17 (i_length_I_ok hv11) rfl).add 19 (i_inRange_ok hv12) rfl) [some 15, some 16, some 17, some 18, some 19, some 20, some 21, some 22, some 23, some 24, some 25, some 26] _ rfl ?_ hy
      simp [hp13b, hp13s, hv14a, hv14b, hv14c, hv14d] <;> simp [ieq, ilt, ile]
  refine VW.cond rfl (fun hb16 => ?_) (fun hb16 => ?_)
  ·
    replace hb16 : x15 = true := by simpa [ieq, ilt, ile] using hb16
    rw [if_pos hb16] at hx3o
    -- region 6
    refine VW.ws tau_ok Sound.none [some 2] [(2, .val (.bool false))] rfl ?_ ?_
    · simp <;> simp [ieq, ilt, ile]
    cases hx3o
    have hq := hx3b _ rfl
    subst hq
    dsimp only at h
    cases h
    refine VW.ret ?_
    simp [Post, PostM, PostC, PostC2, Nx, Bk]
  replace hb16 : ¬ (x15 = true) := by simpa [ieq, ilt, ile] using hb16
  rw [if_neg hb16] at hx3o
  refine VW.skip ?_
  refine hK10 _ ?_
  -- region 7
  obtain ⟨v17, hv17, hx3o⟩ := bind_some hx3o
  obtain ⟨hv17a, hv17b, hv17c, hv17d⟩ := idx_some hv17
  refine VW.wr tau_ok Sound.none [some 27, some 28, some 29, none] [(0, .val (dI a0)), (3, .ref 3 [] true (dB (s3.1.set v9.toNat true))), (9, .val (dI a0)), (10, .val (i64 (a0.length : Int))), (11, .val (i64 s3.2))] rfl ?_ ?_
  · simp [hv17a, hv17b, hv17c, hv17d] <;> simp [ieq, ilt, ile]
  refine hK8 _ ?_
  -- region 8
  refine VW.wr tau_ok Sound.none [some 30, some 11] [(0, .val (dI a0)), (3, .ref 3 [] true (dB (s3.1.set v9.toNat true))), (9, .val (dI a0)), (10, .val (i64 (a0.length : Int))), (11, .val (i64 (w64 (s3.2 + 1))))] rfl ?_ ?_
  · simp <;> simp [ieq, ilt, ile]
  cases hx3o
  exact ⟨_, rfl, Fits.of rfl⟩

theorem i_transpose_ok {a0 : List (List Int)} {r : List (List Int)} (h : i_transpose a0 = some r) :
    VCall Try.prog 100 [dM a0] [.own true (dM r)] := by
  unfold i_transpose at h
  refine VCall.enter Try.call100 Try.func100 rfl 38 Try.ntmps100 (by simp) [.tmp 2] rfl ?_
  show VW _ _ _ (mk [(0, .val (dM a0))]) _
  -- region 0
  refine VW.ws tau_ok Sound.none [some 2] [(0, .val (dM a0))] rfl ?_ ?_
  · simp <;> simp [ieq, ilt, ile]
  -- region 1
  refine VW.ws tau_ok Sound.none [some 7, some 3] [(0, .val (dM a0)), (3, .ref 3 [] true (dM []))] rfl ?_ ?_
  · simp <;> simp [ieq, ilt, ile]
  refine VW.sqc fun K1 hK1 hCK1 => ?_
  -- region 2
  obtain ⟨v2, hv2, h⟩ := bind_some h
  obtain ⟨hv2a, hv2b, hv2c, hv2d⟩ := idx_some hv2
  replace hv2b : 0 < a0.length := hv2b
  replace hv2c : a0[0]? = some v2 := hv2c
  replace hv2d : ∀ h, a0[0]'h = v2 := hv2d
  refine VW.ws tau_ok Sound.none [some 8, some 9, some 10, some 11, some 12] [(0, .val (dM a0)), (3, .ref 3 [] true (dM [])), (11, .val (i64 (v2.length : Int))), (12, .val (i64 0))] rfl ?_ ?_
  · simp [hv2a, hv2b, hv2c, hv2d] <;> simp [ieq, ilt, ile]
  obtain ⟨x3, hx3, h⟩ := bind_some h
  refine VW.tlE [(3, .ref 3 [] true (dM x3))] (hCK1) ?_ ?_
  · clear hx3
    refine hK1 _ ?_
    -- region 13
    refine VW.ws tau_ok Sound.none [some 37, some 2] [(2, .ref 2 [] true (dM x3))] rfl ?_ ?_
    · simp <;> simp [ieq, ilt, ile]
    cases h
    refine VW.ret ?_
    simp [Post, PostM, PostC, PostC2, Nx, Bk]
  refine VW.block ?_
  refine VW.loopF (i_transpose_L0 a0 v2) (fun s3 => [(0, .val (dM a0)), (3, .ref 3 [] true (dM s3.1)), (11, .val (i64 (v2.length : Int))), (12, .val (i64 s3.2))]) hx3 (Fits.of rfl) ?_
  clear hx3
  intro s3 ox3 hx3o hx3b
  unfold i_transpose_L0 at hx3o
  -- region 3
  refine VW.ws tau_ok Sound.none [some 13] [(0, .val (dM a0)), (3, .ref 3 [] true (dM s3.1)), (11, .val (i64 (v2.length : Int))), (12, .val (i64 s3.2)), (13, .val (.bool (ilt s3.2 (v2.length : Int))))] rfl ?_ ?_
  · simp <;> simp [ieq, ilt, ile]
  refine VW.sqc fun K5 hK5 hCK5 => ?_
  refine VW.cond rfl (fun hb6 => ?_) (fun hb6 => ?_)
  rotate_left
  ·
    replace hb6 : ¬ (s3.2 < (v2.length : Int)) := by simpa [ieq, ilt, ile] using hb6
    rw [if_neg hb6] at hx3o
    refine VW.exit ?_
    cases hx3o
    have hq := hx3b _ rfl
    subst hq
    exact Fits.of rfl
  replace hb6 : s3.2 < (v2.length : Int) := by simpa [ieq, ilt, ile] using hb6
  rw [if_pos hb6] at hx3o
  refine VW.skip ?_
  refine hK5 _ ?_
  refine VW.sqc fun K7 hK7 hCK7 => ?_
  refine VW.block ?_
  -- region 4
  refine VW.ws tau_ok Sound.none [some 14, some 4] [(0, .val (dM a0)), (3, .ref 3 [] true (dM s3.1)), (4, .val (i64 s3.2)), (11, .val (i64 (v2.length : Int))), (12, .val (i64 s3.2))] rfl ?_ ?_
  · simp <;> simp [ieq, ilt, ile]
  -- region 5
  refine VW.ws tau_ok Sound.none [some 15, some 5] [(0, .val (dM a0)), (3, .ref 3 [] true (dM s3.1)), (4, .val (i64 s3.2)), (5, .ref 5 [] true (dI [])), (11, .val (i64 (v2.length : Int))), (12, .val (i64 s3.2))] rfl ?_ ?_
  · simp <;> simp [ieq, ilt, ile]
  refine VW.sqc fun K8 hK8 hCK8 => ?_
  -- region 6
  refine VW.ws tau_ok Sound.none [some 16, some 17, some 18] [(0, .val (dM a0)), (3, .ref 3 [] true (dM s3.1)), (4, .val (i64 s3.2)), (5, .ref 5 [] true (dI [])), (11, .val (i64 (v2.length : Int))), (12, .val (i64 s3.2)), (17, .val (i64 (a0.length : Int))), (18, .val (i64 0))] rfl ?_ ?_
  · simp <;> simp [ieq, ilt, ile]
  obtain ⟨x9, hx9, hx3o⟩ := bind_some hx3o
  refine VW.tlE [(0, .val (dM a0)), (3, .ref 3 [] true (dM s3.1)), (5, .ref 5 [] true (dI x9)), (11, .val (i64 (v2.length : Int))), (12, .val (i64 s3.2))] (hCK8) ?_ ?_
  · clear hx9
    refine hK8 _ ?_
    -- region 11
    obtain ⟨hc17, hx3o⟩ := chk_some hx3o
    have hc17s := hc17
    try simp at hc17s
    refine VW.wr tau_ok Sound.none [some 32, some 33, some 34, some 35, some 3] [(0, .val (dM a0)), (3, .ref 3 [] true (dM (s3.1 ++ [x9]))), (11, .val (i64 (v2.length : Int))), (12, .val (i64 s3.2))] rfl ?_ ?_
    · simp [hc17, hc17s] <;> simp [ieq, ilt, ile]
    refine hK7 _ ?_
    -- region 12
    refine VW.wr tau_ok Sound.none [some 36, some 12] [(0, .val (dM a0)), (3, .ref 3 [] true (dM (s3.1 ++ [x9]))), (11, .val (i64 (v2.length : Int))), (12, .val (i64 (w64 (s3.2 + 1))))] rfl ?_ ?_
    · simp <;> simp [ieq, ilt, ile]
    cases hx3o
    exact ⟨_, rfl, Fits.of rfl⟩
  refine VW.block ?_
  refine VW.loopF (i_transpose_L1 a0 s3) (fun s9 => [(0, .val (dM a0)), (3, .ref 3 [] true (dM s3.1)), (4, .val (i64 s3.2)), (5, .ref 5 [] true (dI s9.1)), (11, .val (i64 (v2.length : Int))), (12, .val (i64 s3.2)), (17, .val (i64 (a0.length : Int))), (18, .val (i64 s9.2))]) hx9 (Fits.of rfl) ?_
  clear hx9
  intro s9 ox9 hx9o hx9b
  unfold i_transpose_L1 at hx9o
  -- region 7
  refine VW.ws tau_ok Sound.none [some 19] [(0, .val (dM a0)), (3, .ref 3 [] true (dM s3.1)), (4, .val (i64 s3.2)), (5, .ref 5 [] true (dI s9.1)), (11, .val (i64 (v2.length : Int))), (12, .val (i64 s3.2)), (17, .val (i64 (a0.length : Int))), (18, .val (i64 s9.2)), (19, .val (.bool (ilt s9.2 (a0.length : Int))))] rfl ?_ ?_
  · simp <;> simp [ieq, ilt, ile]
  refine VW.sqc fun K11 hK11 hCK11 => ?_
  refine VW.cond rfl (fun hb12 => ?_) (fun hb12 => ?_)
  rotate_left
  ·
    replace hb12 : ¬ (s9.2 < (a0.length : Int)) := by simpa [ieq, ilt, ile] using hb12
    rw [if_neg hb12] at hx9o
    refine VW.exit ?_
    cases hx9o
    have hq := hx9b _ rfl
    subst hq
    exact Fits.of rfl
  replace hb12 : s9.2 < (a0.length : Int) := by simpa [ieq, ilt, ile] using hb12
  rw [if_pos hb12] at hx9o
  refine VW.skip ?_
  refine hK11 _ ?_
  refine VW.sqc fun K13 hK13 hCK13 => ?_
  refine VW.block ?_
  -- region 8
  refine VW.ws tau_ok Sound.none [some 20, some 6] [(0, .val (dM a0)), (3, .ref 3 [] true (dM s3.1)), (4, .val (i64 s3.2)), (5, .ref 5 [] true (dI s9.1)), (6, .val (i64 s9.2)), (11, .val (i64 (v2.length : Int))), (12, .val (i64 s3.2)), (17, .val (i64 (a0.length : Int))), (18, .val (i64 s9.2))] rfl ?_ ?_
  · simp <;> simp [ieq, ilt, ile]
  -- region 9
  obtain ⟨v14, hv14, hx9o⟩ := bind_some hx9o
  obtain ⟨hv14a, hv14b, hv14c, hv14d⟩ := idx_some hv14
  obtain ⟨v15, hv15, hx9o⟩ := bind_some hx9o
  obtain ⟨hv15a, hv15b, hv15c, hv15d⟩ := idx_some hv15
  obtain ⟨hc16, hx9o⟩ := chk_some hx9o
  have hc16s := hc16
  try simp at hc16s
  refine VW.wr tau_ok Sound.none [some 21, some 22, some 23, some 24, some 25, some 26, some 27, some 28, some 29, some 30, some 5] [(0, .val (dM a0)), (3, .ref 3 [] true (dM s3.1)), (4, .val (i64 s3.2)), (5, .ref 5 [] true (dI (s9.1 ++ [v15]))), (11, .val (i64 (v2.length : Int))), (12, .val (i64 s3.2)), (17, .val (i64 (a0.length : Int))), (18, .val (i64 s9.2))] rfl ?_ ?_
  · simp [hv14a, hv14b, hv14c, hv14d, hv15a, hv15b, hv15c, hv15d, hc16, hc16s] <;> simp [ieq, ilt, ile]
  refine hK13 _ ?_
  -- region 10
  refine VW.wr tau_ok Sound.none [some 31, some 18] [(0, .val (dM a0)), (3, .ref 3 [] true (dM s3.1)), (4, .val (i64 s3.2)), (5, .ref 5 [] true (dI (s9.1 ++ [v15]))), (11, .val (i64 (v2.length : Int))), (12, .val (i64 s3.2)), (17, .val (i64 (a0.length : Int))), (18, .val (i64 (w64 (s9.2 + 1))))] rfl ?_ ?_
  · simp <;> simp [ieq, ilt, ile]
  cases hx9o
  exact ⟨_, rfl, Fits.of rfl⟩

theorem i_IsLoop_c1_ok {a0 : List Int} {r : Bool} (h : i_IsLoop_c1 a0 = some r) :
    VCall Try.prog 103 [dI a0] [.sc (.bool r)] := by
  unfold i_IsLoop_c1 at h
  refine VCall.enter Try.call103 Try.func103 rfl 6 Try.ntmps103 (by simp) [.tmp 2] rfl ?_
  show VW _ _ _ (mk [(0, .val (dI a0))]) _
  -- region 0
  refine VW.ws tau_ok Sound.none [some 2] [(0, .val (dI a0))] rfl ?_ ?_
  · simp <;> simp [ieq, ilt, ile]
  -- region 1
  obtain ⟨v1, hv1, h⟩ := bind_some h
  refine VW.ws tau_ok (Sound.none.add 4 (i_isOnce_ok hv1) rfl) [some 3, some 4, some 5, some 2] [(2, .val (.bool (!v1)))] rfl ?_ ?_
  · simp <;> simp [ieq, ilt, ile]
  cases h
  refine VW.ret ?_
  simp [Post, PostM, PostC, PostC2, Nx, Bk]

theorem g_slices_IndexFunc_LLI_LI_of_i_IsLoop_c1_ok {a0 : List (List Int)} {r : Int} (h : g_slices_IndexFunc_LLI_LI_of_i_IsLoop_c1 a0 = some r) :
    VCall Try.prog 175 [dM a0, .fn 103 []] [.sc (i64 r)] := by
  unfold g_slices_IndexFunc_LLI_LI_of_i_IsLoop_c1 at h
  refine VCall.enter Try.call175 Try.func175 rfl 19 Try.ntmps175 (by simp) [.tmp 4] rfl ?_
  show VW _ _ _ (mk [(0, .val (dM a0)), (1, .val (.fn 103 []))]) _
  -- region 0
  refine VW.ws tau_ok Sound.none [some 4] [(0, .val (dM a0)), (1, .val (.fn 103 []))] rfl ?_ ?_
  · simp <;> simp [ieq, ilt, ile]
  refine VW.sqc fun K1 hK1 hCK1 => ?_
  -- region 1
  refine VW.ws tau_ok Sound.none [some 6, some 7, some 8] [(0, .val (dM a0)), (1, .val (.fn 103 [])), (7, .val (i64 (a0.length : Int))), (8, .val (i64 0))] rfl ?_ ?_
  · simp <;> simp [ieq, ilt, ile]
  obtain ⟨x2, hx2, h⟩ := bind_some h
  refine VW.tlO (fun y4 => []) x2 (hCK1) ?_ ?_
  · clear hx2
    rintro y4 rfl
    dsimp only at h
    refine hK1 _ ?_
    -- region 7
    refine VW.ws tau_ok Sound.none [some 4] [(4, .val (i64 (-1)))] rfl ?_ ?_
    · simp <;> simp [ieq, ilt, ile]
    cases h
    refine VW.ret ?_
    simp [Post, PostM, PostC, PostC2, Nx, Bk]
  refine VW.block ?_
  refine VW.loopF (g_slices_IndexFunc_LLI_LI_of_i_IsLoop_c1_L0 a0) (fun s2 => [(0, .val (dM a0)), (1, .val (.fn 103 [])), (7, .val (i64 (a0.length : Int))), (8, .val (i64 s2))]) hx2 (Fits.of rfl) ?_
  clear hx2
  intro s2 ox2 hx2o hx2b
  unfold g_slices_IndexFunc_LLI_LI_of_i_IsLoop_c1_L0 at hx2o
  -- region 2
  refine VW.ws tau_ok Sound.none [some 9] [(0, .val (dM a0)), (1, .val (.fn 103 [])), (7, .val (i64 (a0.length : Int))), (8, .val (i64 s2)), (9, .val (.bool (ilt s2 (a0.length : Int))))] rfl ?_ ?_
  · simp <;> simp [ieq, ilt, ile]
  refine VW.sqc fun K5 hK5 hCK5 => ?_
  refine VW.cond rfl (fun hb6 => ?_) (fun hb6 => ?_)
  rotate_left
  ·
    replace hb6 : ¬ (s2 < (a0.length : Int)) := by simpa [ieq, ilt, ile] using hb6
    rw [if_neg hb6] at hx2o
    refine VW.exit ?_
    cases hx2o
    have hq := hx2b _ rfl
    subst hq
    exact ⟨_, rfl, Fits.of rfl⟩
  replace hb6 : s2 < (a0.length : Int) := by simpa [ieq, ilt, ile] using hb6
  rw [if_pos hb6] at hx2o
  refine VW.skip ?_
  refine hK5 _ ?_
  refine VW.sqc fun K7 hK7 hCK7 => ?_
  refine VW.block ?_
  -- region 3
  refine VW.ws tau_ok Sound.none [some 10, some 5] [(0, .val (dM a0)), (1, .val (.fn 103 [])), (5, .val (i64 s2)), (7, .val (i64 (a0.length : Int))), (8, .val (i64 s2))] rfl ?_ ?_
  · simp <;> simp [ieq, ilt, ile]
  -- region 4
  obtain ⟨v8, hv8, hx2o⟩ := bind_some hx2o
  obtain ⟨hv8a, hv8b, hv8c, hv8d⟩ := idx_some hv8
  obtain ⟨v9, hv9, hx2o⟩ := bind_some hx2o
  refine VW.ws tau_ok (Sound.none.add 16 (i_IsLoop_c1_ok hv9) rfl) [some 11, some 12, some 13, some 14, some 15, some 16] [(0, .val (dM a0)), (1, .val (.fn 103 [])), (5, .val (i64 s2)), (7, .val (i64 (a0.length : Int))), (8, .val (i64 s2)), (16, .val (.bool v9))] rfl ?_ ?_
  · simp [hv8a, hv8b, hv8c, hv8d] <;> simp [ieq, ilt, ile]
  refine VW.cond rfl (fun hb10 => ?_) (fun hb10 => ?_)
  rotate_left
  ·
    replace hb10 : ¬ (v9 = true) := by simpa [ieq, ilt, ile] using hb10
    rw [if_neg hb10] at hx2o
    refine VW.skip ?_
    refine hK7 _ ?_
    -- region 6
    refine VW.wr tau_ok Sound.none [some 18, some 8] [(0, .val (dM a0)), (1, .val (.fn 103 [])), (7, .val (i64 (a0.length : Int))), (8, .val (i64 (w64 (s2 + 1))))] rfl ?_ ?_
    · simp <;> simp [ieq, ilt, ile]
    cases hx2o
    exact ⟨_, rfl, Fits.of rfl⟩
  replace hb10 : v9 = true := by simpa [ieq, ilt, ile] using hb10
  rw [if_pos hb10] at hx2o
  -- region 5
  refine VW.ws tau_ok Sound.none [some 17, some 4] [(4, .val (i64 s2))] rfl ?_ ?_
  · simp <;> simp [ieq, ilt, ile]
  cases hx2o
  have hq := hx2b _ rfl
  subst hq
  dsimp only at h
  cases h
  refine VW.ret ?_
  simp [Post, PostM, PostC, PostC2, Nx, Bk]

theorem g_slices_ContainsFunc_LLI_LI_of_i_IsLoop_c1_ok {a0 : List (List Int)} {r : Bool} (h : g_slices_ContainsFunc_LLI_LI_of_i_IsLoop_c1 a0 = some r) :
    VCall Try.prog 102 [dM a0, .fn 103 []] [.sc (.bool r)] := by
  unfold g_slices_ContainsFunc_LLI_LI_of_i_IsLoop_c1 at h
  refine VCall.enter Try.call102 Try.func102 rfl 9 Try.ntmps102 (by simp) [.tmp 4] rfl ?_
  show VW _ _ _ (mk [(0, .val (dM a0)), (1, .val (.fn 103 []))]) _
  -- region 0
  refine VW.ws tau_ok Sound.none [some 4] [(0, .val (dM a0)), (1, .val (.fn 103 []))] rfl ?_ ?_
  · simp <;> simp [ieq, ilt, ile]
  -- region 1
  obtain ⟨v1, hv1, h⟩ := bind_some h
  refine VW.ws tau_ok (Sound.none.add 7 (g_slices_IndexFunc_LLI_LI_of_i_IsLoop_c1_ok hv1) rfl) [some 5, some 6, some 7, some 8, some 4] [(4, .val (.bool (ile 0 v1)))] rfl ?_ ?_
  · simp <;> simp [ieq, ilt, ile]
  cases h
  refine VW.ret ?_
  simp [Post, PostM, PostC, PostC2, Nx, Bk]

theorem i_IsLoop_ok {a0 : List (List Int)} {r : Bool} (h : i_IsLoop a0 = some r) :
    VCall Try.prog 31 [dM a0] [.sc (.bool r)] := by
  unfold i_IsLoop at h
  refine VCall.enter Try.call31 Try.func31 rfl 59 Try.ntmps31 (by simp) [.tmp 2] rfl ?_
  show VW _ _ _ (mk [(0, .val (dM a0))]) _
  -- region 0
  refine VW.ws tau_ok Sound.none [some 2] [(0, .val (dM a0))] rfl ?_ ?_
  · simp <;> simp [ieq, ilt, ile]
  -- region 1
  refine VW.ws tau_ok Sound.none [some 8, some 9, some 3] [(0, .val (dM a0)), (3, .val (i64 (a0.length : Int)))] rfl ?_ ?_
  · simp <;> simp [ieq, ilt, ile]
  refine VW.sqc fun K1 hK1 hCK1 => ?_
  -- region 2
  obtain ⟨x3, hx3, h⟩ := bind_some h
  refine VW.cut [(0, .val (dM a0)), (3, .val (i64 (a0.length : Int))), (15, .val (.bool x3))] ?_ fun hy => ?_
  rotate_left
  · clear h
    by_cases hp2 : (a0.length : Int) < 1
    · rw [if_pos hp2] at hx3
      have hp2b : ilt (a0.length : Int) 1 = true := by simpa [ieq, ilt, ile] using hp2
      have hp2s := hp2b
      try simp at hp2s
      cases hx3
      refine VW.ws tau_ok Sound.none [some 10, some 11, some 12, some 13, some 14, some 15] _ rfl ?_ hy
      simp [hp2b, hp2s] <;> simp [ieq, ilt, ile]
    · rw [if_neg hp2] at hx3
      have hp2b : ilt (a0.length : Int) 1 = false := by simpa [ieq, ilt, ile] using hp2
      have hp2s := hp2b
      try simp at hp2s
      cases hx3
      refine VW.ws tau_ok Sound.none [some 10, some 11, some 12, some 13, some 14, some 15] _ rfl ?_ hy
      simp [hp2b, hp2s] <;> simp [ieq, ilt, ile]
  refine VW.cond rfl (fun hb4 => ?_) (fun hb4 => ?_)
  ·
    replace hb4 : x3 = true := by simpa [ieq, ilt, ile] using hb4
    rw [if_pos hb4] at h
    -- region 3
    refine VW.ws tau_ok Sound.none [some 2] [(2, .val (.bool false))] rfl ?_ ?_
    · simp <;> simp [ieq, ilt, ile]
    cases h
    refine VW.ret ?_
    simp [Post, PostM, PostC, PostC2, Nx, Bk]
  replace hb4 : ¬ (x3 = true) := by simpa [ieq, ilt, ile] using hb4
  rw [if_neg hb4] at h
  refine VW.skip ?_
  refine hK1 _ ?_
  refine VW.sqc fun K5 hK5 hCK5 => ?_
  -- region 4
  refine VW.ws tau_ok Sound.none [some 16, some 17, some 18] [(0, .val (dM a0)), (3, .val (i64 (a0.length : Int))), (16, .val (dM a0)), (17, .val (i64 (a0.length : Int))), (18, .val (i64 0))] rfl ?_ ?_
  · simp <;> simp [ieq, ilt, ile]
  obtain ⟨x6, hx6, h⟩ := bind_some h
  refine VW.tlO (fun y8 => [(0, .val (dM a0))]) x6 (hCK5) ?_ ?_
  · clear hx6
    rintro y8 rfl
    dsimp only at h
    refine hK5 _ ?_
    refine VW.sqc fun K14 hK14 hCK14 => ?_
    -- region 10
    refine VW.ws tau_ok Sound.none [some 27, some 28, some 29] [(0, .val (dM a0)), (27, .val (dM a0)), (28, .val (i64 (a0.length : Int))), (29, .val (i64 0))] rfl ?_ ?_
    · simp <;> simp [ieq, ilt, ile]
    obtain ⟨x15, hx15, h⟩ := bind_some h
    refine VW.tlO (fun y17 => [(0, .val (dM a0))]) x15 (hCK14) ?_ ?_
    · clear hx15
      rintro y17 rfl
      dsimp only at h
      refine hK14 _ ?_
      -- region 16
      obtain ⟨v30, hv30, h⟩ := bind_some h
      obtain ⟨v31, hv31, h⟩ := bind_some h
      refine VW.ws tau_ok ((Sound.none.add 56 (i_transpose_ok hv30) rfl).add 57 (g_slices_ContainsFunc_LLI_LI_of_i_IsLoop_c1_ok hv31) rfl) [some 55, some 56, some 57, some 58, some 2] [(2, .val (.bool (!v31)))] rfl ?_ ?_
      · simp <;> simp [ieq, ilt, ile]
      cases h
      refine VW.ret ?_
      simp [Post, PostM, PostC, PostC2, Nx, Bk]
    refine VW.block ?_
    refine VW.loopF (i_IsLoop_L1 a0) (fun s15 => [(0, .val (dM a0)), (27, .val (dM a0)), (28, .val (i64 (a0.length : Int))), (29, .val (i64 s15))]) hx15 (Fits.of rfl) ?_
    clear hx15
    intro s15 ox15 hx15o hx15b
    unfold i_IsLoop_L1 at hx15o
    -- region 11
    refine VW.ws tau_ok Sound.none [some 30] [(0, .val (dM a0)), (27, .val (dM a0)), (28, .val (i64 (a0.length : Int))), (29, .val (i64 s15)), (30, .val (.bool (ilt s15 (a0.length : Int))))] rfl ?_ ?_
    · simp <;> simp [ieq, ilt, ile]
    refine VW.sqc fun K18 hK18 hCK18 => ?_
    refine VW.cond rfl (fun hb19 => ?_) (fun hb19 => ?_)
    rotate_left
    ·
      replace hb19 : ¬ (s15 < (a0.length : Int)) := by simpa [ieq, ilt, ile] using hb19
      rw [if_neg hb19] at hx15o
      refine VW.exit ?_
      cases hx15o
      have hq := hx15b _ rfl
      subst hq
      exact ⟨_, rfl, Fits.of rfl⟩
    replace hb19 : s15 < (a0.length : Int) := by simpa [ieq, ilt, ile] using hb19
    rw [if_pos hb19] at hx15o
    refine VW.skip ?_
    refine hK18 _ ?_
    refine VW.sqc fun K20 hK20 hCK20 => ?_
    refine VW.block ?_
    -- region 12
    obtain ⟨v21, hv21, hx15o⟩ := bind_some hx15o
    obtain ⟨hv21a, hv21b, hv21c, hv21d⟩ := idx_some hv21
    refine VW.ws tau_ok Sound.none [some 31, some 32, some 33, some 6, some 7] [(0, .val (dM a0)), (6, .val (i64 s15)), (7, .val (dI v21)), (27, .val (dM a0)), (28, .val (i64 (a0.length : Int))), (29, .val (i64 s15))] rfl ?_ ?_
    · simp [hv21a, hv21b, hv21c, hv21d] <;> simp [ieq, ilt, ile]
    -- region 13
    obtain ⟨x28, hx28, hx15o⟩ := bind_some hx15o
    refine VW.cut [(0, .val (dM a0)), (27, .val (dM a0)), (28, .val (i64 (a0.length : Int))), (29, .val (i64 s15)), (53, .val (.bool x28))] ?_ fun hy => ?_
    rotate_left
    · clear hx15o
      obtain ⟨v22, hv22, hx28⟩ := bind_some hx28
      obtain ⟨hv22a, hv22b, hv22c, hv22d⟩ := idx_some hv22
      replace hv22b : 0 < v21.length := hv22b
      replace hv22c : v21[0]? = some v22 := hv22c
      replace hv22d : ∀ h, v21[0]'h = v22 := hv22d
      by_cases hp23 : ¬ v22 = s15
      · rw [if_pos hp23] at hx28
        have hp23b : ieq v22 s15 = false := by simpa [ieq, ilt, ile] using hp23
        have hp23s := hp23b
        try simp at hp23s
        cases hx28
        refine VW.ws tau_ok Sound.none [some 34, some 35, some 36, some 37, some 38, some 39, some 40, some 41, some 42, some 43, some 44, some 45, some 46, some 47, some 48, some 49, some 50, some 51, some 52, some 53] _ rfl ?_ hy
        simp [hv22a, hv22b, hv22c, hv22d, hp23b, hp23s] <;> simp [ieq, ilt, ile]
      · rw [if_neg hp23] at hx28
        have hp23b : ieq v22 s15 = true := by simpa [ieq, ilt, ile] using hp23
        have hp23s := hp23b
        try simp at hp23s
        obtain ⟨v24, hv24, hx28⟩ := bind_some hx28
        obtain ⟨hv24a, hv24b, hv24c, hv24d⟩ := idx_some hv24
        replace hv24b : 0 < a0.length := hv24b
        replace hv24c : a0[0]? = some v24 := hv24c
        replace hv24d : ∀ h, a0[0]'h = v24 := hv24d
        obtain ⟨v25, hv25, hx28⟩ := bind_some hx28
        obtain ⟨hv25a, hv25b, hv25c, hv25d⟩ := idx_some hv25
        by_cases hp26 : ¬ v25 = s15
        · rw [if_pos hp26] at hx28
          have hp26b : ieq v25 s15 = false := by simpa [ieq, ilt, ile] using hp26
          have hp26s := hp26b
          try simp at hp26s
          cases hx28
          refine VW.ws tau_ok Sound.none [some 34, some 35, some 36, some 37, some 38, some 39, some 40, some 41, some 42, some 43, some 44, some 45, some 46, some 47, some 48, some 49, some 50, some 51, some 52, some 53] _ rfl ?_ hy
          simp [hv22a, hv22b, hv22c, hv22d, hp23b, hp23s, hv24a, hv24b, hv24c, hv24d, hv25a, hv25b, hv25c, hv25d, hp26b, hp26s] <;> simp [ieq, ilt, ile]
        · rw [if_neg hp26] at hx28
          have hp26b : ieq v25 s15 = true := by simpa [ieq, ilt, ile] using hp26
          have hp26s := hp26b
          try simp at hp26s
          obtain ⟨v27, hv27, hx28⟩ := bind_some hx28
          cases hx28
          refine VW.ws tau_ok (Sound.none.add 51 (i_isOnce_ok hv27) rfl) [some 34, some 35, some 36, some 37, some 38, some 39, some 40, some 41, some 42, some 43, some 44, some 45, some 46, some 47, some 48, some 49, some 50, some 51, some 52, some 53] _ rfl ?_ hy
          simp [hv22a, hv22b, hv22c, hv22d, hp23b, hp23s, hv24a, hv24b, hv24c, hv24d, hv25a, hv25b, hv25c, hv25d, hp26b, hp26s] <;> simp [ieq, ilt, ile]
    refine VW.cond rfl (fun hb29 => ?_) (fun hb29 => ?_)
    rotate_left
    ·
      replace hb29 : ¬ (x28 = true) := by simpa [ieq, ilt, ile] using hb29
      rw [if_neg hb29] at hx15o
      refine VW.skip ?_
      refine hK20 _ ?_
      -- region 15
      refine VW.wr tau_ok Sound.none [some 54, some 29] [(0, .val (dM a0)), (27, .val (dM a0)), (28, .val (i64 (a0.length : Int))), (29, .val (i64 (w64 (s15 + 1))))] rfl ?_ ?_
      · simp <;> simp [ieq, ilt, ile]
      cases hx15o
      exact ⟨_, rfl, Fits.of rfl⟩
    replace hb29 : x28 = true := by simpa [ieq, ilt, ile] using hb29
    rw [if_pos hb29] at hx15o
    -- region 14
    refine VW.ws tau_ok Sound.none [some 2] [(2, .val (.bool false))] rfl ?_ ?_
    · simp <;> simp [ieq, ilt, ile]
    cases hx15o
    have hq := hx15b _ rfl
    subst hq
    dsimp only at h
    cases h
    refine VW.ret ?_
    simp [Post, PostM, PostC, PostC2, Nx, Bk]
  refine VW.block ?_
  refine VW.loopF (i_IsLoop_L0 a0) (fun s6 => [(0, .val (dM a0)), (3, .val (i64 (a0.length : Int))), (16, .val (dM a0)), (17, .val (i64 (a0.length : Int))), (18, .val (i64 s6))]) hx6 (Fits.of rfl) ?_
  clear hx6
  intro s6 ox6 hx6o hx6b
  unfold i_IsLoop_L0 at hx6o
  -- region 5
  refine VW.ws tau_ok Sound.none [some 19] [(0, .val (dM a0)), (3, .val (i64 (a0.length : Int))), (16, .val (dM a0)), (17, .val (i64 (a0.length : Int))), (18, .val (i64 s6)), (19, .val (.bool (ilt s6 (a0.length : Int))))] rfl ?_ ?_
  · simp <;> simp [ieq, ilt, ile]
  refine VW.sqc fun K9 hK9 hCK9 => ?_
  refine VW.cond rfl (fun hb10 => ?_) (fun hb10 => ?_)
  rotate_left
  ·
    replace hb10 : ¬ (s6 < (a0.length : Int)) := by simpa [ieq, ilt, ile] using hb10
    rw [if_neg hb10] at hx6o
    refine VW.exit ?_
    cases hx6o
    have hq := hx6b _ rfl
    subst hq
    exact ⟨_, rfl, Fits.of rfl⟩
  replace hb10 : s6 < (a0.length : Int) := by simpa [ieq, ilt, ile] using hb10
  rw [if_pos hb10] at hx6o
  refine VW.skip ?_
  refine hK9 _ ?_
  refine VW.sqc fun K11 hK11 hCK11 => ?_
  refine VW.block ?_
  -- region 6
  obtain ⟨v12, hv12, hx6o⟩ := bind_some hx6o
  obtain ⟨hv12a, hv12b, hv12c, hv12d⟩ := idx_some hv12
  refine VW.ws tau_ok Sound.none [some 20, some 21, some 5] [(0, .val (dM a0)), (3, .val (i64 (a0.length : Int))), (5, .val (dI v12)), (16, .val (dM a0)), (17, .val (i64 (a0.length : Int))), (18, .val (i64 s6))] rfl ?_ ?_
  · simp [hv12a, hv12b, hv12c, hv12d] <;> simp [ieq, ilt, ile]
  -- region 7
  refine VW.ws tau_ok Sound.none [some 22, some 23, some 24, some 25] [(0, .val (dM a0)), (3, .val (i64 (a0.length : Int))), (16, .val (dM a0)), (17, .val (i64 (a0.length : Int))), (18, .val (i64 s6)), (25, .val (.bool (!(ieq (v12.length : Int) (a0.length : Int)))))] rfl ?_ ?_
  · simp <;> simp [ieq, ilt, ile]
  refine VW.cond rfl (fun hb13 => ?_) (fun hb13 => ?_)
  rotate_left
  ·
    replace hb13 : ¬ (¬ (v12.length : Int) = (a0.length : Int)) := by simpa [ieq, ilt, ile] using hb13
    rw [if_neg hb13] at hx6o
    refine VW.skip ?_
    refine hK11 _ ?_
    -- region 9
    refine VW.wr tau_ok Sound.none [some 26, some 18] [(0, .val (dM a0)), (3, .val (i64 (a0.length : Int))), (16, .val (dM a0)), (17, .val (i64 (a0.length : Int))), (18, .val (i64 (w64 (s6 + 1))))] rfl ?_ ?_
    · simp <;> simp [ieq, ilt, ile]
    cases hx6o
    exact ⟨_, rfl, Fits.of rfl⟩
  replace hb13 : ¬ (v12.length : Int) = (a0.length : Int) := by simpa [ieq, ilt, ile] using hb13
  rw [if_pos hb13] at hx6o
  -- region 8
  refine VW.ws tau_ok Sound.none [some 2] [(2, .val (.bool false))] rfl ?_ ?_
  · simp <;> simp [ieq, ilt, ile]
  cases hx6o
  have hq := hx6b _ rfl
  subst hq
  dsimp only at h
  cases h
  refine VW.ret ?_
  simp [Post, PostM, PostC, PostC2, Nx, Bk]

theorem i_length_LI_ok {a0 : List (List Int)} {r : Int} (h : i_length_LI a0 = some r) :
    VCall Try.prog 81 [dM a0] [.sc (i64 r)] := by
  unfold i_length_LI at h
  refine VCall.enter Try.call81 Try.func81 rfl 5 Try.ntmps81 (by simp) [.tmp 2] rfl ?_
  show VW _ _ _ (mk [(0, .val (dM a0))]) _
  -- region 0
  refine VW.ws tau_ok Sound.none [some 2] [(0, .val (dM a0))] rfl ?_ ?_
  · simp <;> simp [ieq, ilt, ile]
  -- region 1
  refine VW.ws tau_ok Sound.none [some 3, some 4, some 2] [(2, .val (i64 (a0.length : Int)))] rfl ?_ ?_
  · simp <;> simp [ieq, ilt, ile]
  cases h
  refine VW.ret ?_
  simp [Post, PostM, PostC, PostC2, Nx, Bk]

theorem i_checkLoop_c1_ok {a0 : Int} {a1_0 : List (List Int)} {r : Bool} (h : i_checkLoop_c1 a0 a1_0 = some r) :
    VCall Try.prog 159 [i64 a0, .ptr [dM a1_0]] [.sc (.bool r)] := by
  unfold i_checkLoop_c1 at h
  refine VCall.enter Try.call159 Try.func159 rfl 10 Try.ntmps159 (by simp) [.tmp 3] rfl ?_
  show VW _ _ _ (mk [(0, .val (i64 a0)), (1, .val (.ptr [dM a1_0]))]) _
  -- region 0
  refine VW.ws tau_ok Sound.none [some 3] [(0, .val (i64 a0)), (1, .val (.ptr [dM a1_0]))] rfl ?_ ?_
  · simp <;> simp [ieq, ilt, ile]
  -- region 1
  obtain ⟨v1, hv1, h⟩ := bind_some h
  obtain ⟨v2, hv2, h⟩ := bind_some h
  refine VW.ws tau_ok ((Sound.none.add 6 (i_length_LI_ok hv1) rfl).add 8 (i_inRange_ok hv2) rfl) [some 4, some 5, some 6, some 7, some 8, some 9, some 3] [(3, .val (.bool (!v2)))] rfl ?_ ?_
  · simp <;> simp [ieq, ilt, ile]
  cases h
  refine VW.ret ?_
  simp [Post, PostM, PostC, PostC2, Nx, Bk]

theorem g_slices_IndexFunc_LI_I_of_i_checkLoop_c1_ok {a0 : List Int} {a1_0_0 : List (List Int)} {r : Int} (h : g_slices_IndexFunc_LI_I_of_i_checkLoop_c1 a0 a1_0_0 = some r) :
    VCall Try.prog 163 [dI a0, .fn 159 [.ptr [dM a1_0_0]]] [.sc (i64 r)] := by
  unfold g_slices_IndexFunc_LI_I_of_i_checkLoop_c1 at h
  refine VCall.enter Try.call163 Try.func163 rfl 19 Try.ntmps163 (by simp) [.tmp 4] rfl ?_
  show VW _ _ _ (mk [(0, .val (dI a0)), (1, .val (.fn 159 [.ptr [dM a1_0_0]]))]) _
  -- region 0
  refine VW.ws tau_ok Sound.none [some 4] [(0, .val (dI a0)), (1, .val (.fn 159 [.ptr [dM a1_0_0]]))] rfl ?_ ?_
  · simp <;> simp [ieq, ilt, ile]
  refine VW.sqc fun K1 hK1 hCK1 => ?_
  -- region 1
  refine VW.ws tau_ok Sound.none [some 6, some 7, some 8] [(0, .val (dI a0)), (1, .val (.fn 159 [.ptr [dM a1_0_0]])), (7, .val (i64 (a0.length : Int))), (8, .val (i64 0))] rfl ?_ ?_
  · simp <;> simp [ieq, ilt, ile]
  obtain ⟨x2, hx2, h⟩ := bind_some h
  refine VW.tlO (fun y4 => []) x2 (hCK1) ?_ ?_
  · clear hx2
    rintro y4 rfl
    dsimp only at h
    refine hK1 _ ?_
    -- region 7
    refine VW.ws tau_ok Sound.none [some 4] [(4, .val (i64 (-1)))] rfl ?_ ?_
    · simp <;> simp [ieq, ilt, ile]
    cases h
    refine VW.ret ?_
    simp [Post, PostM, PostC, PostC2, Nx, Bk]
  refine VW.block ?_
  refine VW.loopF (g_slices_IndexFunc_LI_I_of_i_checkLoop_c1_L0 a0 a1_0_0) (fun s2 => [(0, .val (dI a0)), (1, .val (.fn 159 [.ptr [dM a1_0_0]])), (7, .val (i64 (a0.length : Int))), (8, .val (i64 s2))]) hx2 (Fits.of rfl) ?_
  clear hx2
  intro s2 ox2 hx2o hx2b
  unfold g_slices_IndexFunc_LI_I_of_i_checkLoop_c1_L0 at hx2o
  -- region 2
  refine VW.ws tau_ok Sound.none [some 9] [(0, .val (dI a0)), (1, .val (.fn 159 [.ptr [dM a1_0_0]])), (7, .val (i64 (a0.length : Int))), (8, .val (i64 s2)), (9, .val (.bool (ilt s2 (a0.length : Int))))] rfl ?_ ?_
  · simp <;> simp [ieq, ilt, ile]
  refine VW.sqc fun K5 hK5 hCK5 => ?_
  refine VW.cond rfl (fun hb6 => ?_) (fun hb6 => ?_)
  rotate_left
  ·
    replace hb6 : ¬ (s2 < (a0.length : Int)) := by simpa [ieq, ilt, ile] using hb6
    rw [if_neg hb6] at hx2o
    refine VW.exit ?_
    cases hx2o
    have hq := hx2b _ rfl
    subst hq
    exact ⟨_, rfl, Fits.of rfl⟩
  replace hb6 : s2 < (a0.length : Int) := by simpa [ieq, ilt, ile] using hb6
  rw [if_pos hb6] at hx2o
  refine VW.skip ?_
  refine hK5 _ ?_
  refine VW.sqc fun K7 hK7 hCK7 => ?_
  refine VW.block ?_
  -- region 3
  refine VW.ws tau_ok Sound.none [some 10, some 5] [(0, .val (dI a0)), (1, .val (.fn 159 [.ptr [dM a1_0_0]])), (5, .val (i64 s2)), (7, .val (i64 (a0.length : Int))), (8, .val (i64 s2))] rfl ?_ ?_
  · simp <;> simp [ieq, ilt, ile]
  -- region 4
  obtain ⟨v8, hv8, hx2o⟩ := bind_some hx2o
  obtain ⟨hv8a, hv8b, hv8c, hv8d⟩ := idx_some hv8
  obtain ⟨v9, hv9, hx2o⟩ := bind_some hx2o
  refine VW.ws tau_ok (Sound.none.add 16 (i_checkLoop_c1_ok hv9) rfl) [some 11, some 12, some 13, some 14, some 15, some 16] [(0, .val (dI a0)), (1, .val (.fn 159 [.ptr [dM a1_0_0]])), (5, .val (i64 s2)), (7, .val (i64 (a0.length : Int))), (8, .val (i64 s2)), (16, .val (.bool v9))] rfl ?_ ?_
  · simp [hv8a, hv8b, hv8c, hv8d] <;> simp [ieq, ilt, ile]
  refine VW.cond rfl (fun hb10 => ?_) (fun hb10 => ?_)
  rotate_left
  ·
    replace hb10 : ¬ (v9 = true) := by simpa [ieq, ilt, ile] using hb10
    rw [if_neg hb10] at hx2o
    refine VW.skip ?_
    refine hK7 _ ?_
    -- region 6
    refine VW.wr tau_ok Sound.none [some 18, some 8] [(0, .val (dI a0)), (1, .val (.fn 159 [.ptr [dM a1_0_0]])), (7, .val (i64 (a0.length : Int))), (8, .val (i64 (w64 (s2 + 1))))] rfl ?_ ?_
    · simp <;> simp [ieq, ilt, ile]
    cases hx2o
    exact ⟨_, rfl, Fits.of rfl⟩
  replace hb10 : v9 = true := by simpa [ieq, ilt, ile] using hb10
  rw [if_pos hb10] at hx2o
  -- region 5
  refine VW.ws tau_ok Sound.none [some 17, some 4] [(4, .val (i64 s2))] rfl ?_ ?_
  · simp <;> simp [ieq, ilt, ile]
  cases hx2o
  have hq := hx2b _ rfl
  subst hq
  dsimp only at h
  cases h
  refine VW.ret ?_
  simp [Post, PostM, PostC, PostC2, Nx, Bk]

theorem g_slices_ContainsFunc_LI_I_of_i_checkLoop_c1_ok {a0 : List Int} {a1_0_0 : List (List Int)} {r : Bool} (h : g_slices_ContainsFunc_LI_I_of_i_checkLoop_c1 a0 a1_0_0 = some r) :
    VCall Try.prog 82 [dI a0, .fn 159 [.ptr [dM a1_0_0]]] [.sc (.bool r)] := by
  unfold g_slices_ContainsFunc_LI_I_of_i_checkLoop_c1 at h
  refine VCall.enter Try.call82 Try.func82 rfl 9 Try.ntmps82 (by simp) [.tmp 4] rfl ?_
  show VW _ _ _ (mk [(0, .val (dI a0)), (1, .val (.fn 159 [.ptr [dM a1_0_0]]))]) _
  -- region 0
  refine VW.ws tau_ok Sound.none [some 4] [(0, .val (dI a0)), (1, .val (.fn 159 [.ptr [dM a1_0_0]]))] rfl ?_ ?_
  · simp <;> simp [ieq, ilt, ile]
  -- region 1
  obtain ⟨v1, hv1, h⟩ := bind_some h
  refine VW.ws tau_ok (Sound.none.add 7 (g_slices_IndexFunc_LI_I_of_i_checkLoop_c1_ok hv1) rfl) [some 5, some 6, some 7, some 8, some 4] [(4, .val (.bool (ile 0 v1)))] rfl ?_ ?_
  · simp <;> simp [ieq, ilt, ile]
  cases h
  refine VW.ret ?_
  simp [Post, PostM, PostC, PostC2, Nx, Bk]

theorem i_checkLoop_ok {a0 : List (List Int)} {a1 : List Int} {r : Int} (h : i_checkLoop a0 a1 = some r) :
    VCall Try.prog 78 [dM a0, dI a1] [.sc (i64 r)] := by
  unfold i_checkLoop at h
  refine VCall.enter Try.call78 Try.func78 rfl 11 Try.ntmps78 (by simp) [.tmp 4] rfl ?_
  show VW _ _ _ (mk [(0, .val (dM a0)), (1, .val (dI a1))]) _
  -- region 0
  refine VW.ws tau_ok Sound.none [some 2, some 4] [(1, .val (dI a1)), (2, .val (.ptr [dM a0]))] rfl ?_ ?_
  · simp <;> simp [ieq, ilt, ile]
  refine VW.sqc fun K1 hK1 hCK1 => ?_
  -- region 1
  obtain ⟨v2, hv2, h⟩ := bind_some h
  refine VW.ws tau_ok (Sound.none.add 6 (i_IsLoop_ok hv2) rfl) [some 5, some 6, some 7] [(1, .val (dI a1)), (2, .val (.ptr [dM a0])), (7, .val (.bool (!v2)))] rfl ?_ ?_
  · simp <;> simp [ieq, ilt, ile]
  refine VW.cond rfl (fun hb3 => ?_) (fun hb3 => ?_)
  ·
    replace hb3 : v2 = false := by simpa [ieq, ilt, ile] using hb3
    rw [if_pos hb3] at h
    -- region 2
    refine VW.ws tau_ok Sound.none [some 4] [(4, .val (i64 1))] rfl ?_ ?_
    · simp <;> simp [ieq, ilt, ile]
    cases h
    refine VW.ret ?_
    simp [Post, PostM, PostC, PostC2, Nx, Bk]
  replace hb3 : ¬ (v2 = false) := by simpa [ieq, ilt, ile] using hb3
  rw [if_neg hb3] at h
  refine VW.skip ?_
  refine hK1 _ ?_
  refine VW.sqc fun K4 hK4 hCK4 => ?_
  -- region 3
  obtain ⟨v5, hv5, h⟩ := bind_some h
  refine VW.ws tau_ok (Sound.none.add 10 (g_slices_ContainsFunc_LI_I_of_i_checkLoop_c1_ok hv5) rfl) [some 8, some 9, some 10] [(10, .val (.bool v5))] rfl ?_ ?_
  · simp <;> simp [ieq, ilt, ile]
  refine VW.cond rfl (fun hb6 => ?_) (fun hb6 => ?_)
  ·
    replace hb6 : v5 = true := by simpa [ieq, ilt, ile] using hb6
    rw [if_pos hb6] at h
    -- region 4
    refine VW.ws tau_ok Sound.none [some 4] [(4, .val (i64 2))] rfl ?_ ?_
    · simp <;> simp [ieq, ilt, ile]
    cases h
    refine VW.ret ?_
    simp [Post, PostM, PostC, PostC2, Nx, Bk]
  replace hb6 : ¬ (v5 = true) := by simpa [ieq, ilt, ile] using hb6
  rw [if_neg hb6] at h
  refine VW.skip ?_
  refine hK4 _ ?_
  -- region 5
  refine VW.ws tau_ok Sound.none [some 4] [(4, .val (i64 0))] rfl ?_ ?_
  · simp <;> simp [ieq, ilt, ile]
  cases h
  refine VW.ret ?_
  simp [Post, PostM, PostC, PostC2, Nx, Bk]

theorem i_subloop_c1_ok {a0 : Int} {a1_0 : List Bool} {a2_0 : List Int} {r : (List Bool) × (List Int)} (h : i_subloop_c1 a0 a1_0 a2_0 = some r) :
    VClo Try.prog 161 [i64 a0] [.own [dB a1_0], .own [dI a2_0]] [.own [dB r.1], .own [dI r.2]] := by
  unfold i_subloop_c1 at h
  refine VClo.enter Try.call161 Try.func161 rfl 16 3 Try.ntmps161 rfl (by decide) rfl rfl ?_
  show VW _ _ _ (mk [(0, .val (i64 a0)), (1, .ref 1 [] true (.ptr [dB a1_0])), (2, .ref 2 [] true (.ptr [dI a2_0]))]) _
  -- region 0
  obtain ⟨v1, hv1, h⟩ := bind_some h
  obtain ⟨hv1a, hv1b, hv1c, hv1d⟩ := idx_some hv1
  refine VW.ws tau_ok Sound.none [some 4, some 5, some 6, some 7, some 8] [(0, .val (i64 a0)), (1, .ref 1 [] true (.ptr [dB a1_0])), (2, .ref 2 [] true (.ptr [dI a2_0])), (8, .val (.bool (!v1)))] rfl ?_ ?_
  · simp [hv1a, hv1b, hv1c, hv1d] <;> simp [ieq, ilt, ile]
  refine VW.cond rfl (fun hb2 => ?_) (fun hb2 => ?_)
  rotate_left
  ·
    replace hb2 : ¬ (v1 = false) := by simpa [ieq, ilt, ile] using hb2
    rw [if_neg hb2] at h
    refine VW.skip ?_
    cases h
    exact PostClx.n (by simp [postOk, capV, capsAs, capAs])
  replace hb2 : v1 = false := by simpa [ieq, ilt, ile] using hb2
  rw [if_pos hb2] at h
  -- region 1
  refine VW.ws tau_ok Sound.none [some 9, some 10, some 11, none] [(0, .val (i64 a0)), (1, .ref 1 [] true (.ptr [dB (a1_0.set a0.toNat true)])), (2, .ref 2 [] true (.ptr [dI a2_0]))] rfl ?_ ?_
  · simp [hv1a, hv1b, hv1c, hv1d] <;> simp [ieq, ilt, ile]
  -- region 2
  obtain ⟨hc3, h⟩ := chk_some h
  have hc3s := hc3
  try simp at hc3s
  refine VW.wr tau_ok Sound.none [some 12, some 13, some 14, some 15, none] [(1, .ref 1 [] true (.ptr [dB (a1_0.set a0.toNat true)])), (2, .ref 2 [] true (.ptr [dI (a2_0 ++ [a0])]))] rfl ?_ ?_
  · simp [hc3, hc3s] <;> simp [ieq, ilt, ile]
  cases h
  exact PostClx.n (by simp [postOk, capV, capsAs, capAs])

theorem g_sortI_ok {xs : List Int} (h : xs.length ≤ 1099511627776) : VMutT Try.prog 162 (dI xs) [] [] (dI (srt xs)) := sort_mut Try.sortL h

theorem i_subloop_ok {a0 : List (List Int)} {a1 : List Int} {r : List Int} (h : i_subloop a0 a1 = some r) :
    VCall Try.prog 79 [dM a0, dI a1] [.own true (dI r)] := by
  unfold i_subloop at h
  refine VCall.enter Try.call79 Try.func79 rfl 73 Try.ntmps79 (by simp) [.tmp 4] rfl ?_
  show VW _ _ _ (mk [(0, .val (dM a0)), (1, .val (dI a1))]) _
  -- region 0
  refine VW.ws tau_ok Sound.none [some 4] [(0, .val (dM a0)), (1, .val (dI a1))] rfl ?_ ?_
  · simp <;> simp [ieq, ilt, ile]
  -- region 1
  obtain ⟨hc1, h⟩ := chk_some h
  have hc1s := hc1
  try simp at hc1s
  refine VW.ws tau_ok Sound.none [some 12, some 13, some 14, some 15, some 5, some 6, none, none] [(0, .val (dM a0)), (1, .val (dI a1)), (5, .ref 5 [] true (.ptr [dB (List.replicate (a0.length : Int).toNat false)])), (6, .ref 6 [] true (.ptr [dI []]))] rfl ?_ ?_
  · simp [hc1, hc1s] <;> simp [ieq, ilt, ile]
  -- region 2
  refine VW.mid tau_ok Sound.none [some 16, some 7] 0 [(0, .val (dM a0)), (1, .val (dI a1)), (5, .ref 5 [] true (.ptr [dB (List.replicate (a0.length : Int).toNat false)])), (6, .ref 6 [] true (.ptr [dI []]))] _ (fun _ => [(0, .val (dM a0)), (1, .val (dI a1)), (5, .ref 5 [] true (.ptr [dB (List.replicate (a0.length : Int).toNat false)])), (6, .ref 6 [] true (.ptr [dI []])), (7, .clo 161 [.tok 5, .tok 6])]) (fun _ => True) _ rfl rfl rfl ?_ (step_mkf rfl rfl (by simp) rfl) (fun _ _ => ?_) (fun _ _ => ?_)
  · simp <;> simp [ieq, ilt, ile]
  · simp <;> simp [ieq, ilt, ile]
  -- region 3
  obtain ⟨v2, hv2, h⟩ := bind_some h
  refine VW.mid tau_ok Sound.none [some 17, some 18] 1 [(0, .val (dM a0)), (1, .val (dI a1)), (5, .ref 5 [] true (.ptr [dB (List.replicate (a0.length : Int).toNat false)])), (6, .ref 6 [] true (.ptr [dI []])), (7, .clo 161 [.tok 5, .tok 6]), (17, .clo 161 [.tok 5, .tok 6])] _ (fun _ => [(0, .val (dM a0)), (1, .val (dI a1)), (5, .ref 5 [] true (.ptr [dB v2.1])), (6, .ref 6 [] true (.ptr [dI v2.2])), (7, .clo 161 [.tok 5, .tok 6])]) (fun _ => True) _ rfl rfl rfl ?_ (step_clo [(5, 5, 0, .own [dB v2.1]), (6, 6, 1, .own [dI v2.2])] [7, 17] rfl rfl (by simp) rfl rfl (i_subloop_c1_ok hv2) (.cons (CapOk.tok' 5 rfl) (.cons (CapOk.tok' 6 rfl) (.nil))) (.cons CapAs.tok' (.cons CapAs.tok' (.nil))) (show List.Nodup ([5, 6] : List Nat) by decide) (by intro q hq; simp only [List.mem_cons, List.not_mem_nil, or_false] at hq; rcases hq with rfl | rfl <;> first | exact ⟨rfl, rfl, rfl, .inl ⟨_, rfl⟩⟩ | exact ⟨rfl, rfl, rfl, .inr rfl⟩) (by intro s hs; simp only [List.mem_cons, List.not_mem_nil, or_false] at hs; rcases hs with rfl | rfl <;> rfl)) (fun _ _ => ?_) (fun _ _ => ?_)
  · simp <;> simp [ieq, ilt, ile]
  · simp <;> simp [ieq, ilt, ile]
  refine VW.sqc fun K3 hK3 hCK3 => ?_
  -- region 4
  refine VW.ws tau_ok Sound.none [some 19, some 20, some 21] [(0, .val (dM a0)), (5, .ref 5 [] true (.ptr [dB v2.1])), (6, .ref 6 [] true (.ptr [dI v2.2])), (7, .clo 161 [.tok 5, .tok 6]), (19, .val (dI a1)), (20, .val (i64 (a1.length : Int))), (21, .val (i64 0))] rfl ?_ ?_
  · simp <;> simp [ieq, ilt, ile]
  obtain ⟨x4, hx4, h⟩ := bind_some h
  refine VW.tlE [(0, .val (dM a0)), (5, .ref 5 [] true (.ptr [dB x4.1])), (6, .ref 6 [] true (.ptr [dI x4.2])), (7, .clo 161 [.tok 5, .tok 6])] (hCK3) ?_ ?_
  · clear hx4
    refine hK3 _ ?_
    refine VW.sqc fun K11 hK11 hCK11 => ?_
    -- region 9
    refine VW.ws tau_ok Sound.none [some 10] [(0, .val (dM a0)), (5, .ref 5 [] true (.ptr [dB x4.1])), (6, .ref 6 [] true (.ptr [dI x4.2])), (7, .clo 161 [.tok 5, .tok 6]), (10, .val (i64 0))] rfl ?_ ?_
    · simp <;> simp [ieq, ilt, ile]
    obtain ⟨x12, hx12, h⟩ := bind_some h
    refine VW.tlE [(6, .ref 6 [] true (.ptr [dI x12]))] (hCK11) ?_ ?_
    · clear hx12
      refine hK11 _ ?_
      -- region 17
      obtain ⟨hc32, h⟩ := chk_some h
      have hc32s := hc32
      try simp at hc32s
      refine VW.mid tau_ok Sound.none [some 70, some 71] 1 [(6, .ref 6 [] true (.ptr [dI x12])), (70, .ref 6 [0] true (dI x12))] _ (fun _ => [(6, .ref 6 [] true (.ptr [dI (srt x12)]))]) (fun _ => True) _ rfl rfl rfl ?_ (step_mutT rfl rfl rfl (by simp) rfl rfl (g_sortI_ok (by simpa using hc32))) (fun _ _ => ?_) (fun _ _ => ?_)
      · simp [hc32, hc32s] <;> simp [ieq, ilt, ile]
      · simp [hc32, hc32s] <;> simp [ieq, ilt, ile]
      -- region 18
      refine VW.ws tau_ok Sound.none [some 72, some 4] [(4, .ref 6 [0] true (dI (srt x12)))] rfl ?_ ?_
      · simp <;> simp [ieq, ilt, ile]
      have hr0 := Option.some.inj h
      subst hr0
      refine VW.fits (fl' := [(4, .ref 4 [] true (dI (srt x12)))]) (Fits.part (s := 4) rfl (by decide) (Fits.of rfl)) ?_
      refine VW.ret ?_
      simp [Post, PostM, PostC, PostC2, Nx, Bk]
    refine VW.block ?_
    refine VW.loopF (i_subloop_L1 a0) (fun s12 => [(0, .val (dM a0)), (5, .ref 5 [] true (.ptr [dB s12.1])), (6, .ref 6 [] true (.ptr [dI s12.2.1])), (7, .clo 161 [.tok 5, .tok 6]), (10, .val (i64 s12.2.2))]) hx12 (Fits.of rfl) ?_
    clear hx12
    intro s12 ox12 hx12o hx12b
    unfold i_subloop_L1 at hx12o
    refine VW.sqc fun K14 hK14 hCK14 => ?_
    -- region 10
    refine VW.ws tau_ok Sound.none [some 29, some 30, some 31, some 32] [(0, .val (dM a0)), (5, .ref 5 [] true (.ptr [dB s12.1])), (6, .ref 6 [] true (.ptr [dI s12.2.1])), (7, .clo 161 [.tok 5, .tok 6]), (10, .val (i64 s12.2.2)), (32, .val (.bool (ilt s12.2.2 (s12.2.1.length : Int))))] rfl ?_ ?_
    · simp <;> simp [ieq, ilt, ile]
    refine VW.cond rfl (fun hb15 => ?_) (fun hb15 => ?_)
    rotate_left
    ·
      replace hb15 : ¬ (s12.2.2 < (s12.2.1.length : Int)) := by simpa [ieq, ilt, ile] using hb15
      rw [if_neg hb15] at hx12o
      refine VW.exit ?_
      cases hx12o
      have hq := hx12b _ rfl
      subst hq
      exact Fits.of rfl
    replace hb15 : s12.2.2 < (s12.2.1.length : Int) := by simpa [ieq, ilt, ile] using hb15
    rw [if_pos hb15] at hx12o
    refine VW.skip ?_
    refine hK14 _ ?_
    refine VW.sqc fun K16 hK16 hCK16 => ?_
    refine VW.block ?_
    -- region 12
    refine VW.ws tau_ok Sound.none [some 11] [(0, .val (dM a0)), (5, .ref 5 [] true (.ptr [dB s12.1])), (6, .ref 6 [] true (.ptr [dI s12.2.1])), (7, .clo 161 [.tok 5, .tok 6]), (10, .val (i64 s12.2.2)), (11, .val (i64 0))] rfl ?_ ?_
    · simp <;> simp [ieq, ilt, ile]
    obtain ⟨x17, hx17, hx12o⟩ := bind_some hx12o
    refine VW.tlE [(0, .val (dM a0)), (5, .ref 5 [] true (.ptr [dB x17.1])), (6, .ref 6 [] true (.ptr [dI x17.2])), (7, .clo 161 [.tok 5, .tok 6]), (10, .val (i64 s12.2.2))] (hCK16) ?_ ?_
    · clear hx17
      refine hK16 _ ?_
      -- region 11
      refine VW.wr tau_ok Sound.none [some 33, some 34, some 10] [(0, .val (dM a0)), (5, .ref 5 [] true (.ptr [dB x17.1])), (6, .ref 6 [] true (.ptr [dI x17.2])), (7, .clo 161 [.tok 5, .tok 6]), (10, .val (i64 (w64 (s12.2.2 + 1))))] rfl ?_ ?_
      · simp <;> simp [ieq, ilt, ile]
      cases hx12o
      exact ⟨_, rfl, Fits.of rfl⟩
    refine VW.block ?_
    refine VW.loopF (i_subloop_L2 a0 s12) (fun s17 => [(0, .val (dM a0)), (5, .ref 5 [] true (.ptr [dB s17.1])), (6, .ref 6 [] true (.ptr [dI s17.2.1])), (7, .clo 161 [.tok 5, .tok 6]), (10, .val (i64 s12.2.2)), (11, .val (i64 s17.2.2))]) hx17 (Fits.of rfl) ?_
    clear hx17
    intro s17 ox17 hx17o hx17b
    unfold i_subloop_L2 at hx17o
    refine VW.sqc fun K19 hK19 hCK19 => ?_
    -- region 13
    refine VW.ws tau_ok Sound.none [some 35, some 36, some 37] [(0, .val (dM a0)), (5, .ref 5 [] true (.ptr [dB s17.1])), (6, .ref 6 [] true (.ptr [dI s17.2.1])), (7, .clo 161 [.tok 5, .tok 6]), (10, .val (i64 s12.2.2)), (11, .val (i64 s17.2.2)), (37, .val (.bool (ile s17.2.2 s12.2.2)))] rfl ?_ ?_
    · simp <;> simp [ieq, ilt, ile]
    refine VW.cond rfl (fun hb20 => ?_) (fun hb20 => ?_)
    rotate_left
    ·
      replace hb20 : ¬ (s17.2.2 ≤ s12.2.2) := by simpa [ieq, ilt, ile] using hb20
      rw [if_neg hb20] at hx17o
      refine VW.exit ?_
      cases hx17o
      have hq := hx17b _ rfl
      subst hq
      exact Fits.of rfl
    replace hb20 : s17.2.2 ≤ s12.2.2 := by simpa [ieq, ilt, ile] using hb20
    rw [if_pos hb20] at hx17o
    refine VW.skip ?_
    refine hK19 _ ?_
    refine VW.sqc fun K21 hK21 hCK21 => ?_
    refine VW.block ?_
    -- region 15
    obtain ⟨v22, hv22, hx17o⟩ := bind_some hx17o
    obtain ⟨hv22a, hv22b, hv22c, hv22d⟩ := idx_some hv22
    obtain ⟨v23, hv23, hx17o⟩ := bind_some hx17o
    obtain ⟨hv23a, hv23b, hv23c, hv23d⟩ := idx_some hv23
    obtain ⟨v24, hv24, hx17o⟩ := bind_some hx17o
    obtain ⟨hv24a, hv24b, hv24c, hv24d⟩ := idx_some hv24
    obtain ⟨v25, hv25, hx17o⟩ := bind_some hx17o
    obtain ⟨hv25a, hv25b, hv25c, hv25d⟩ := idx_some hv25
    obtain ⟨v26, hv26, hx17o⟩ := bind_some hx17o
    refine VW.dls tau_ok Sound.none try_mixed [some 40, some 41, some 42, some 43, some 44, some 45, some 46, some 47, some 48, some 49, some 50, some 51, some 52, some 53, some 54] 14 [(0, .val (dM a0)), (5, .ref 5 [] true (.ptr [dB s17.1])), (6, .ref 6 [] true (.ptr [dI s17.2.1])), (7, .clo 161 [.tok 5, .tok 6]), (10, .val (i64 s12.2.2)), (11, .val (i64 s17.2.2)), (40, .clo 161 [.tok 5, .tok 6]), (53, .val (i64 v25))] _ (fun _ => [(0, .val (dM a0)), (5, .ref 5 [] true (.ptr [dB v26.1])), (6, .ref 6 [] true (.ptr [dI v26.2])), (7, .clo 161 [.tok 5, .tok 6]), (10, .val (i64 s12.2.2)), (11, .val (i64 s17.2.2))]) (fun _ => True) _ rfl rfl rfl (by kernel_rfl) (by rfl) ?_ (step_clo [(5, 5, 0, .own [dB v26.1]), (6, 6, 1, .own [dI v26.2])] [7, 40] rfl rfl (by simp) rfl rfl (i_subloop_c1_ok hv26) (.cons (CapOk.tok' 5 rfl) (.cons (CapOk.tok' 6 rfl) (.nil))) (.cons CapAs.tok' (.cons CapAs.tok' (.nil))) (show List.Nodup ([5, 6] : List Nat) by decide) (by intro q hq; simp only [List.mem_cons, List.not_mem_nil, or_false] at hq; rcases hq with rfl | rfl <;> first | exact ⟨rfl, rfl, rfl, .inl ⟨_, rfl⟩⟩ | exact ⟨rfl, rfl, rfl, .inr rfl⟩) (by intro s hs; simp only [List.mem_cons, List.not_mem_nil, or_false] at hs; rcases hs with rfl | rfl <;> rfl)) (fun _ _ => ?_) (fun _ _ => ?_)
    · simp [hv22a, hv22b, hv22c, hv22d, hv23a, hv23b, hv23c, hv23d, hv24a, hv24b, hv24c, hv24d, hv25a, hv25b, hv25c, hv25d] <;> simp [ieq, ilt, ile]
    · simp [hv22a, hv22b, hv22c, hv22d, hv23a, hv23b, hv23c, hv23d, hv24a, hv24b, hv24c, hv24d, hv25a, hv25b, hv25c, hv25d] <;> simp [ieq, ilt, ile]
    -- region 16
    obtain ⟨v27, hv27, hx17o⟩ := bind_some hx17o
    obtain ⟨hv27a, hv27b, hv27c, hv27d⟩ := idx_some hv27
    obtain ⟨v28, hv28, hx17o⟩ := bind_some hx17o
    obtain ⟨hv28a, hv28b, hv28c, hv28d⟩ := idx_some hv28
    obtain ⟨v29, hv29, hx17o⟩ := bind_some hx17o
    obtain ⟨hv29a, hv29b, hv29c, hv29d⟩ := idx_some hv29
    obtain ⟨v30, hv30, hx17o⟩ := bind_some hx17o
    obtain ⟨hv30a, hv30b, hv30c, hv30d⟩ := idx_some hv30
    obtain ⟨v31, hv31, hx17o⟩ := bind_some hx17o
    refine VW.dlr tau_ok Sound.none try_mixed [some 55, some 56, some 57, some 58, some 59, some 60, some 61, some 62, some 63, some 64, some 65, some 66, some 67, some 68, some 69] 14 [(0, .val (dM a0)), (5, .ref 5 [] true (.ptr [dB v26.1])), (6, .ref 6 [] true (.ptr [dI v26.2])), (7, .clo 161 [.tok 5, .tok 6]), (10, .val (i64 s12.2.2)), (11, .val (i64 s17.2.2)), (55, .clo 161 [.tok 5, .tok 6]), (68, .val (i64 v30))] _ (fun _ => [(0, .val (dM a0)), (5, .ref 5 [] true (.ptr [dB v31.1])), (6, .ref 6 [] true (.ptr [dI v31.2])), (7, .clo 161 [.tok 5, .tok 6]), (10, .val (i64 s12.2.2)), (11, .val (i64 s17.2.2))]) (fun _ => True) _ rfl rfl rfl (by kernel_rfl) (by rfl) ?_ (step_clo [(5, 5, 0, .own [dB v31.1]), (6, 6, 1, .own [dI v31.2])] [7, 55] rfl rfl (by simp) rfl rfl (i_subloop_c1_ok hv31) (.cons (CapOk.tok' 5 rfl) (.cons (CapOk.tok' 6 rfl) (.nil))) (.cons CapAs.tok' (.cons CapAs.tok' (.nil))) (show List.Nodup ([5, 6] : List Nat) by decide) (by intro q hq; simp only [List.mem_cons, List.not_mem_nil, or_false] at hq; rcases hq with rfl | rfl <;> first | exact ⟨rfl, rfl, rfl, .inl ⟨_, rfl⟩⟩ | exact ⟨rfl, rfl, rfl, .inr rfl⟩) (by intro s hs; simp only [List.mem_cons, List.not_mem_nil, or_false] at hs; rcases hs with rfl | rfl <;> rfl)) (fun _ _ => ?_) (fun _ _ => ?_)
    · simp [hv27a, hv27b, hv27c, hv27d, hv28a, hv28b, hv28c, hv28d, hv29a, hv29b, hv29c, hv29d, hv30a, hv30b, hv30c, hv30d] <;> simp [ieq, ilt, ile]
    · simp [hv27a, hv27b, hv27c, hv27d, hv28a, hv28b, hv28c, hv28d, hv29a, hv29b, hv29c, hv29d, hv30a, hv30b, hv30c, hv30d] <;> simp [ieq, ilt, ile]
    refine hK21 _ ?_
    -- region 14
    refine VW.wr tau_ok Sound.none [some 38, some 39, some 11] [(0, .val (dM a0)), (5, .ref 5 [] true (.ptr [dB v31.1])), (6, .ref 6 [] true (.ptr [dI v31.2])), (7, .clo 161 [.tok 5, .tok 6]), (10, .val (i64 s12.2.2)), (11, .val (i64 (w64 (s17.2.2 + 1))))] rfl ?_ ?_
    · simp <;> simp [ieq, ilt, ile]
    cases hx17o
    exact ⟨_, rfl, Fits.of rfl⟩
  refine VW.block ?_
  refine VW.loopF (i_subloop_L0 a1) (fun s4 => [(0, .val (dM a0)), (5, .ref 5 [] true (.ptr [dB s4.1])), (6, .ref 6 [] true (.ptr [dI s4.2.1])), (7, .clo 161 [.tok 5, .tok 6]), (19, .val (dI a1)), (20, .val (i64 (a1.length : Int))), (21, .val (i64 s4.2.2))]) hx4 (Fits.of rfl) ?_
  clear hx4
  intro s4 ox4 hx4o hx4b
  unfold i_subloop_L0 at hx4o
  -- region 5
  refine VW.ws tau_ok Sound.none [some 22] [(0, .val (dM a0)), (5, .ref 5 [] true (.ptr [dB s4.1])), (6, .ref 6 [] true (.ptr [dI s4.2.1])), (7, .clo 161 [.tok 5, .tok 6]), (19, .val (dI a1)), (20, .val (i64 (a1.length : Int))), (21, .val (i64 s4.2.2)), (22, .val (.bool (ilt s4.2.2 (a1.length : Int))))] rfl ?_ ?_
  · simp <;> simp [ieq, ilt, ile]
  refine VW.sqc fun K6 hK6 hCK6 => ?_
  refine VW.cond rfl (fun hb7 => ?_) (fun hb7 => ?_)
  rotate_left
  ·
    replace hb7 : ¬ (s4.2.2 < (a1.length : Int)) := by simpa [ieq, ilt, ile] using hb7
    rw [if_neg hb7] at hx4o
    refine VW.exit ?_
    cases hx4o
    have hq := hx4b _ rfl
    subst hq
    exact Fits.of rfl
  replace hb7 : s4.2.2 < (a1.length : Int) := by simpa [ieq, ilt, ile] using hb7
  rw [if_pos hb7] at hx4o
  refine VW.skip ?_
  refine hK6 _ ?_
  refine VW.sqc fun K8 hK8 hCK8 => ?_
  refine VW.block ?_
  -- region 6
  obtain ⟨v9, hv9, hx4o⟩ := bind_some hx4o
  obtain ⟨hv9a, hv9b, hv9c, hv9d⟩ := idx_some hv9
  refine VW.ws tau_ok Sound.none [some 23, some 24, some 9] [(0, .val (dM a0)), (5, .ref 5 [] true (.ptr [dB s4.1])), (6, .ref 6 [] true (.ptr [dI s4.2.1])), (7, .clo 161 [.tok 5, .tok 6]), (9, .val (i64 v9)), (19, .val (dI a1)), (20, .val (i64 (a1.length : Int))), (21, .val (i64 s4.2.2))] rfl ?_ ?_
  · simp [hv9a, hv9b, hv9c, hv9d] <;> simp [ieq, ilt, ile]
  -- region 7
  obtain ⟨v10, hv10, hx4o⟩ := bind_some hx4o
  refine VW.midr tau_ok Sound.none [some 25, some 26, some 27] 2 [(0, .val (dM a0)), (5, .ref 5 [] true (.ptr [dB s4.1])), (6, .ref 6 [] true (.ptr [dI s4.2.1])), (7, .clo 161 [.tok 5, .tok 6]), (19, .val (dI a1)), (20, .val (i64 (a1.length : Int))), (21, .val (i64 s4.2.2)), (25, .clo 161 [.tok 5, .tok 6]), (26, .val (i64 v9))] _ (fun _ => [(0, .val (dM a0)), (5, .ref 5 [] true (.ptr [dB v10.1])), (6, .ref 6 [] true (.ptr [dI v10.2])), (7, .clo 161 [.tok 5, .tok 6]), (19, .val (dI a1)), (20, .val (i64 (a1.length : Int))), (21, .val (i64 s4.2.2))]) (fun _ => True) _ rfl rfl rfl ?_ (step_clo [(5, 5, 0, .own [dB v10.1]), (6, 6, 1, .own [dI v10.2])] [7, 25] rfl rfl (by simp) rfl rfl (i_subloop_c1_ok hv10) (.cons (CapOk.tok' 5 rfl) (.cons (CapOk.tok' 6 rfl) (.nil))) (.cons CapAs.tok' (.cons CapAs.tok' (.nil))) (show List.Nodup ([5, 6] : List Nat) by decide) (by intro q hq; simp only [List.mem_cons, List.not_mem_nil, or_false] at hq; rcases hq with rfl | rfl <;> first | exact ⟨rfl, rfl, rfl, .inl ⟨_, rfl⟩⟩ | exact ⟨rfl, rfl, rfl, .inr rfl⟩) (by intro s hs; simp only [List.mem_cons, List.not_mem_nil, or_false] at hs; rcases hs with rfl | rfl <;> rfl)) (fun _ _ => ?_) (fun _ _ => ?_)
  · simp <;> simp [ieq, ilt, ile]
  · simp <;> simp [ieq, ilt, ile]
  refine hK8 _ ?_
  -- region 8
  refine VW.wr tau_ok Sound.none [some 28, some 21] [(0, .val (dM a0)), (5, .ref 5 [] true (.ptr [dB v10.1])), (6, .ref 6 [] true (.ptr [dI v10.2])), (7, .clo 161 [.tok 5, .tok 6]), (19, .val (dI a1)), (20, .val (i64 (a1.length : Int))), (21, .val (i64 (w64 (s4.2.2 + 1))))] rfl ?_ ?_
  · simp <;> simp [ieq, ilt, ile]
  cases hx4o
  exact ⟨_, rfl, Fits.of rfl⟩

theorem i_associates_ok {a0 : List (List Int)} {a1 : Int} {a2 : Int} {a3 : Int} {r : Bool} (h : i_associates a0 a1 a2 a3 = some r) :
    VCall Try.prog 84 [dM a0, i64 a1, i64 a2, i64 a3] [.sc (.bool r)] := by
  unfold i_associates at h
  refine VCall.enter Try.call84 Try.func84 rfl 36 Try.ntmps84 (by simp) [.tmp 8] rfl ?_
  show VW _ _ _ (mk [(0, .val (dM a0)), (1, .val (i64 a1)), (2, .val (i64 a2)), (3, .val (i64 a3))]) _
  -- region 0
  refine VW.ws tau_ok Sound.none [some 8] [(0, .val (dM a0)), (1, .val (i64 a1)), (2, .val (i64 a2)), (3, .val (i64 a3))] rfl ?_ ?_
  · simp <;> simp [ieq, ilt, ile]
  -- region 1
  obtain ⟨v1, hv1, h⟩ := bind_some h
  obtain ⟨hv1a, hv1b, hv1c, hv1d⟩ := idx_some hv1
  obtain ⟨v2, hv2, h⟩ := bind_some h
  obtain ⟨hv2a, hv2b, hv2c, hv2d⟩ := idx_some hv2
  obtain ⟨v3, hv3, h⟩ := bind_some h
  obtain ⟨hv3a, hv3b, hv3c, hv3d⟩ := idx_some hv3
  obtain ⟨v4, hv4, h⟩ := bind_some h
  obtain ⟨hv4a, hv4b, hv4c, hv4d⟩ := idx_some hv4
  obtain ⟨v5, hv5, h⟩ := bind_some h
  obtain ⟨hv5a, hv5b, hv5c, hv5d⟩ := idx_some hv5
  obtain ⟨v6, hv6, h⟩ := bind_some h
  obtain ⟨hv6a, hv6b, hv6c, hv6d⟩ := idx_some hv6
  obtain ⟨v7, hv7, h⟩ := bind_some h
  obtain ⟨hv7a, hv7b, hv7c, hv7d⟩ := idx_some hv7
  refine VW.wds tau_ok Sound.none try_mixed [some 9, some 10, some 11, some 12, some 13, some 14, some 15, some 16, some 17, some 18, some 19, some 20, some 21, some 22, some 23, some 24, some 25, some 26, some 27, some 28, some 29, some 30, some 31, some 32, some 33, some 34, some 35, some 8] [(8, .val (.bool (ieq v4 v7)))] 28 rfl (by kernel_rfl) (by rfl) ?_ ?_
  · simp [hv1a, hv1b, hv1c, hv1d, hv2a, hv2b, hv2c, hv2d, hv3a, hv3b, hv3c, hv3d, hv4a, hv4b, hv4c, hv4d, hv5a, hv5b, hv5c, hv5d, hv6a, hv6b, hv6c, hv6d, hv7a, hv7b, hv7c, hv7d] <;> simp [ieq, ilt, ile]
  cases h
  refine VW.ret ?_
  simp [Post, PostM, PostC, PostC2, Nx, Bk]

theorem i_IsDiassociativeLoop_c1_ok {a0 : Int} {a1_0 : List (List Int)} {a2_0 : Int} {a3_0 : Int} {r : Bool} (h : i_IsDiassociativeLoop_c1 a0 a1_0 a2_0 a3_0 = some r) :
    VCall Try.prog 83 [i64 a0, .ptr [dM a1_0], .ptr [i64 a2_0], .ptr [i64 a3_0]] [.sc (.bool r)] := by
  unfold i_IsDiassociativeLoop_c1 at h
  refine VCall.enter Try.call83 Try.func83 rfl 12 Try.ntmps83 (by simp) [.tmp 5] rfl ?_
  show VW _ _ _ (mk [(0, .val (i64 a0)), (1, .val (.ptr [dM a1_0])), (2, .val (.ptr [i64 a2_0])), (3, .val (.ptr [i64 a3_0]))]) _
  -- region 0
  refine VW.ws tau_ok Sound.none [some 5] [(0, .val (i64 a0)), (1, .val (.ptr [dM a1_0])), (2, .val (.ptr [i64 a2_0])), (3, .val (.ptr [i64 a3_0]))] rfl ?_ ?_
  · simp <;> simp [ieq, ilt, ile]
  -- region 1
  obtain ⟨v1, hv1, h⟩ := bind_some h
  refine VW.ws tau_ok (Sound.none.add 10 (i_associates_ok hv1) rfl) [some 6, some 7, some 8, some 9, some 10, some 11, some 5] [(5, .val (.bool (!v1)))] rfl ?_ ?_
  · simp <;> simp [ieq, ilt, ile]
  cases h
  refine VW.ret ?_
  simp [Post, PostM, PostC, PostC2, Nx, Bk]

theorem g_slices_IndexFunc_LI_I_of_i_IsDiassociativeLoop_c1_ok {a0 : List Int} {a1_0_0 : List (List Int)} {a1_1_0 : Int} {a1_2_0 : Int} {r : Int} (h : g_slices_IndexFunc_LI_I_of_i_IsDiassociativeLoop_c1 a0 a1_0_0 a1_1_0 a1_2_0 = some r) :
    VCall Try.prog 163 [dI a0, .fn 83 [.ptr [dM a1_0_0], .ptr [i64 a1_1_0], .ptr [i64 a1_2_0]]] [.sc (i64 r)] := by
  unfold g_slices_IndexFunc_LI_I_of_i_IsDiassociativeLoop_c1 at h
  refine VCall.enter Try.call163 Try.func163 rfl 19 Try.ntmps163 (by simp) [.tmp 4] rfl ?_
  show VW _ _ _ (mk [(0, .val (dI a0)), (1, .val (.fn 83 [.ptr [dM a1_0_0], .ptr [i64 a1_1_0], .ptr [i64 a1_2_0]]))]) _
  -- region 0
  refine VW.ws tau_ok Sound.none [some 4] [(0, .val (dI a0)), (1, .val (.fn 83 [.ptr [dM a1_0_0], .ptr [i64 a1_1_0], .ptr [i64 a1_2_0]]))] rfl ?_ ?_
  · simp <;> simp [ieq, ilt, ile]
  refine VW.sqc fun K1 hK1 hCK1 => ?_
  -- region 1
  refine VW.ws tau_ok Sound.none [some 6, some 7, some 8] [(0, .val (dI a0)), (1, .val (.fn 83 [.ptr [dM a1_0_0], .ptr [i64 a1_1_0], .ptr [i64 a1_2_0]])), (7, .val (i64 (a0.length : Int))), (8, .val (i64 0))] rfl ?_ ?_
  · simp <;> simp [ieq, ilt, ile]
  obtain ⟨x2, hx2, h⟩ := bind_some h
  refine VW.tlO (fun y4 => []) x2 (hCK1) ?_ ?_
  · clear hx2
    rintro y4 rfl
    dsimp only at h
    refine hK1 _ ?_
    -- region 7
    refine VW.ws tau_ok Sound.none [some 4] [(4, .val (i64 (-1)))] rfl ?_ ?_
    · simp <;> simp [ieq, ilt, ile]
    cases h
    refine VW.ret ?_
    simp [Post, PostM, PostC, PostC2, Nx, Bk]
  refine VW.block ?_
  refine VW.loopF (g_slices_IndexFunc_LI_I_of_i_IsDiassociativeLoop_c1_L0 a0 a1_0_0 a1_1_0 a1_2_0) (fun s2 => [(0, .val (dI a0)), (1, .val (.fn 83 [.ptr [dM a1_0_0], .ptr [i64 a1_1_0], .ptr [i64 a1_2_0]])), (7, .val (i64 (a0.length : Int))), (8, .val (i64 s2))]) hx2 (Fits.of rfl) ?_
  clear hx2
  intro s2 ox2 hx2o hx2b
  unfold g_slices_IndexFunc_LI_I_of_i_IsDiassociativeLoop_c1_L0 at hx2o
  -- region 2
  refine VW.ws tau_ok Sound.none [some 9] [(0, .val (dI a0)), (1, .val (.fn 83 [.ptr [dM a1_0_0], .ptr [i64 a1_1_0], .ptr [i64 a1_2_0]])), (7, .val (i64 (a0.length : Int))), (8, .val (i64 s2)), (9, .val (.bool (ilt s2 (a0.length : Int))))] rfl ?_ ?_
  · simp <;> simp [ieq, ilt, ile]
  refine VW.sqc fun K5 hK5 hCK5 => ?_
  refine VW.cond rfl (fun hb6 => ?_) (fun hb6 => ?_)
  rotate_left
  ·
    replace hb6 : ¬ (s2 < (a0.length : Int)) := by simpa [ieq, ilt, ile] using hb6
    rw [if_neg hb6] at hx2o
    refine VW.exit ?_
    cases hx2o
    have hq := hx2b _ rfl
    subst hq
    exact ⟨_, rfl, Fits.of rfl⟩
  replace hb6 : s2 < (a0.length : Int) := by simpa [ieq, ilt, ile] using hb6
  rw [if_pos hb6] at hx2o
  refine VW.skip ?_
  refine hK5 _ ?_
  refine VW.sqc fun K7 hK7 hCK7 => ?_
  refine VW.block ?_
  -- region 3
  refine VW.ws tau_ok Sound.none [some 10, some 5] [(0, .val (dI a0)), (1, .val (.fn 83 [.ptr [dM a1_0_0], .ptr [i64 a1_1_0], .ptr [i64 a1_2_0]])), (5, .val (i64 s2)), (7, .val (i64 (a0.length : Int))), (8, .val (i64 s2))] rfl ?_ ?_
  · simp <;> simp [ieq, ilt, ile]
  -- region 4
  obtain ⟨v8, hv8, hx2o⟩ := bind_some hx2o
  obtain ⟨hv8a, hv8b, hv8c, hv8d⟩ := idx_some hv8
  obtain ⟨v9, hv9, hx2o⟩ := bind_some hx2o
  refine VW.ws tau_ok (Sound.none.add 16 (i_IsDiassociativeLoop_c1_ok hv9) rfl) [some 11, some 12, some 13, some 14, some 15, some 16] [(0, .val (dI a0)), (1, .val (.fn 83 [.ptr [dM a1_0_0], .ptr [i64 a1_1_0], .ptr [i64 a1_2_0]])), (5, .val (i64 s2)), (7, .val (i64 (a0.length : Int))), (8, .val (i64 s2)), (16, .val (.bool v9))] rfl ?_ ?_
  · simp [hv8a, hv8b, hv8c, hv8d] <;> simp [ieq, ilt, ile]
  refine VW.cond rfl (fun hb10 => ?_) (fun hb10 => ?_)
  rotate_left
  ·
    replace hb10 : ¬ (v9 = true) := by simpa [ieq, ilt, ile] using hb10
    rw [if_neg hb10] at hx2o
    refine VW.skip ?_
    refine hK7 _ ?_
    -- region 6
    refine VW.wr tau_ok Sound.none [some 18, some 8] [(0, .val (dI a0)), (1, .val (.fn 83 [.ptr [dM a1_0_0], .ptr [i64 a1_1_0], .ptr [i64 a1_2_0]])), (7, .val (i64 (a0.length : Int))), (8, .val (i64 (w64 (s2 + 1))))] rfl ?_ ?_
    · simp <;> simp [ieq, ilt, ile]
    cases hx2o
    exact ⟨_, rfl, Fits.of rfl⟩
  replace hb10 : v9 = true := by simpa [ieq, ilt, ile] using hb10
  rw [if_pos hb10] at hx2o
  -- region 5
  refine VW.ws tau_ok Sound.none [some 17, some 4] [(4, .val (i64 s2))] rfl ?_ ?_
  · simp <;> simp [ieq, ilt, ile]
  cases hx2o
  have hq := hx2b _ rfl
  subst hq
  dsimp only at h
  cases h
  refine VW.ret ?_
  simp [Post, PostM, PostC, PostC2, Nx, Bk]

theorem g_slices_ContainsFunc_LI_I_of_i_IsDiassociativeLoop_c1_ok {a0 : List Int} {a1_0_0 : List (List Int)} {a1_1_0 : Int} {a1_2_0 : Int} {r : Bool} (h : g_slices_ContainsFunc_LI_I_of_i_IsDiassociativeLoop_c1 a0 a1_0_0 a1_1_0 a1_2_0 = some r) :
    VCall Try.prog 82 [dI a0, .fn 83 [.ptr [dM a1_0_0], .ptr [i64 a1_1_0], .ptr [i64 a1_2_0]]] [.sc (.bool r)] := by
  unfold g_slices_ContainsFunc_LI_I_of_i_IsDiassociativeLoop_c1 at h
  refine VCall.enter Try.call82 Try.func82 rfl 9 Try.ntmps82 (by simp) [.tmp 4] rfl ?_
  show VW _ _ _ (mk [(0, .val (dI a0)), (1, .val (.fn 83 [.ptr [dM a1_0_0], .ptr [i64 a1_1_0], .ptr [i64 a1_2_0]]))]) _
  -- region 0
  refine VW.ws tau_ok Sound.none [some 4] [(0, .val (dI a0)), (1, .val (.fn 83 [.ptr [dM a1_0_0], .ptr [i64 a1_1_0], .ptr [i64 a1_2_0]]))] rfl ?_ ?_
  · simp <;> simp [ieq, ilt, ile]
  -- region 1
  obtain ⟨v1, hv1, h⟩ := bind_some h
  refine VW.ws tau_ok (Sound.none.add 7 (g_slices_IndexFunc_LI_I_of_i_IsDiassociativeLoop_c1_ok hv1) rfl) [some 5, some 6, some 7, some 8, some 4] [(4, .val (.bool (ile 0 v1)))] rfl ?_ ?_
  · simp <;> simp [ieq, ilt, ile]
  cases h
  refine VW.ret ?_
  simp [Post, PostM, PostC, PostC2, Nx, Bk]
end Go.Vam
