import Derived.Test.YtbbkiinopmnapaaR3T
import Derived.Test.YtbbkiinopmnapaaFnD
import Derived.Test.YtbbkiinopmnapaaR3W1
import Derived.Test.YtbbkiinopmnapaaR3W3
import Derived.Test.YtbbkiinopmnapaaR3W6
import Derived.Test.YtbbkiinopmnapaaR3W7
import Derived.Test.YtbbkiinopmnapaaR3W8
namespace Go.Vam
open Go Go.RowKit Go.Proofs
set_option maxRecDepth 100000
set_option linter.unusedSimpArgs false
set_option linter.unusedVariables false

theorem i_SolveMatrix_ok {a0 : Int} {a1 : List (List Int)} {a2 : List Int} {r : (List Int) × Int} (h : i_SolveMatrix a0 a1 a2 = some r) :
    VCall Try.prog 53 [i64 a0, dM a1, dI a2] [.own true (dI r.1), .sc (i64 r.2)] := by
  unfold i_SolveMatrix at h
  refine VCall.enter Try.call53 Try.func53 rfl 39 Try.ntmps53 (by simp) [.tmp 6, .tmp 7] rfl ?_
  show VW _ _ _ (mk [(0, .val (i64 a0)), (1, .val (dM a1)), (2, .val (dI a2))]) _
  -- region 0
  refine VW.ws tau_ok Sound.none [some 6, some 7] [(0, .val (i64 a0)), (1, .val (dM a1)), (2, .val (dI a2))] rfl ?_ ?_
  · simp <;> simp [ieq, ilt, ile]
  refine VW.sqc fun K1 hK1 hCK1 => ?_
  -- region 1
  obtain ⟨v2, hv2, h⟩ := bind_some h
  refine VW.ws tau_ok (Sound.none.add 14 (i_checkMatrices_ok hv2) rfl) [some 11, some 12, some 13, some 14, some 8] [(0, .val (i64 a0)), (1, .val (dM a1)), (2, .val (dI a2)), (8, .val (i64 v2))] rfl ?_ ?_
  · simp <;> simp [ieq, ilt, ile]
  -- region 2
  refine VW.ws tau_ok Sound.none [some 15, some 16] [(0, .val (i64 a0)), (1, .val (dM a1)), (2, .val (dI a2)), (8, .val (i64 v2)), (16, .val (.bool (!(ieq v2 0))))] rfl ?_ ?_
  · simp <;> simp [ieq, ilt, ile]
  refine VW.cond rfl (fun hb3 => ?_) (fun hb3 => ?_)
  ·
    replace hb3 : ¬ v2 = 0 := by simpa [ieq, ilt, ile] using hb3
    rw [if_pos hb3] at h
    -- region 3
    refine VW.ws tau_ok Sound.none [some 17, some 6, some 7] [(6, .ref 6 [] true (.list [])), (7, .val (i64 v2))] rfl ?_ ?_
    · simp <;> simp [ieq, ilt, ile]
    cases h
    refine VW.ret ?_
    simp [Post, PostM, PostC, PostC2, Nx, Bk]
  replace hb3 : ¬ (¬ v2 = 0) := by simpa [ieq, ilt, ile] using hb3
  rw [if_neg hb3] at h
  refine VW.skip ?_
  refine hK1 _ ?_
  refine VW.sqc fun K4 hK4 hCK4 => ?_
  -- region 4
  obtain ⟨x7, hx7, h⟩ := bind_some h
  refine VW.cut [(0, .val (i64 a0)), (1, .val (dM a1)), (2, .val (dI a2)), (28, .val (.bool x7))] ?_ fun hy => ?_
  rotate_left
  · clear h
    by_cases hp5 : ¬ (a2.length : Int) = (a1.length : Int)
    · rw [if_pos hp5] at hx7
      have hp5b : ieq (a2.length : Int) (a1.length : Int) = false := by simpa [ieq, ilt, ile] using hp5
      have hp5s := hp5b
      try simp at hp5s
      cases hx7
      refine VW.ws tau_ok Sound.none [some 18, some 19, some 20, some 21, some 22, some 23, some 24, some 25, some 26, some 27, some 28] _ rfl ?_ hy
      simp [hp5b, hp5s] <;> simp [ieq, ilt, ile]
    · rw [if_neg hp5] at hx7
      have hp5b : ieq (a2.length : Int) (a1.length : Int) = true := by simpa [ieq, ilt, ile] using hp5
      have hp5s := hp5b
      try simp at hp5s
      obtain ⟨v6, hv6, hx7⟩ := bind_some hx7
      cases hx7
      refine VW.ws tau_ok (Sound.none.add 26 (i_field_is_ok hv6) rfl) [some 18, some 19, some 20, some 21, some 22, some 23, some 24, some 25, some 26, some 27, some 28] _ rfl ?_ hy
      simp [hp5b, hp5s] <;> simp [ieq, ilt, ile]
  refine VW.cond rfl (fun hb8 => ?_) (fun hb8 => ?_)
  ·
    replace hb8 : x7 = true := by simpa [ieq, ilt, ile] using hb8
    rw [if_pos hb8] at h
    -- region 5
    refine VW.ws tau_ok Sound.none [some 6, some 7] [(6, .ref 6 [] true (.list [])), (7, .val (i64 2))] rfl ?_ ?_
    · simp <;> simp [ieq, ilt, ile]
    cases h
    refine VW.ret ?_
    simp [Post, PostM, PostC, PostC2, Nx, Bk]
  replace hb8 : ¬ (x7 = true) := by simpa [ieq, ilt, ile] using hb8
  rw [if_neg hb8] at h
  refine VW.skip ?_
  refine hK4 _ ?_
  -- region 6
  obtain ⟨v9, hv9, h⟩ := bind_some h
  refine VW.ws tau_ok (Sound.none.add 33 (i_field_solve_ok hv9) rfl) [some 30, some 31, some 32, some 33, some 29, some 34, some 35, some 9, some 10] [(9, .ref 9 [] true (dI v9.1)), (10, .val (.bool v9.2))] rfl ?_ ?_
  · simp <;> simp [ieq, ilt, ile]
  refine VW.sqc fun K10 hK10 hCK10 => ?_
  -- region 7
  refine VW.ws tau_ok Sound.none [some 36, some 37] [(9, .ref 9 [] true (dI v9.1)), (37, .val (.bool (!v9.2)))] rfl ?_ ?_
  · simp <;> simp [ieq, ilt, ile]
  refine VW.cond rfl (fun hb11 => ?_) (fun hb11 => ?_)
  ·
    replace hb11 : v9.2 = false := by simpa [ieq, ilt, ile] using hb11
    rw [if_pos hb11] at h
    -- region 8
    refine VW.ws tau_ok Sound.none [some 6, some 7] [(6, .ref 6 [] true (.list [])), (7, .val (i64 4))] rfl ?_ ?_
    · simp <;> simp [ieq, ilt, ile]
    cases h
    refine VW.ret ?_
    simp [Post, PostM, PostC, PostC2, Nx, Bk]
  replace hb11 : ¬ (v9.2 = false) := by simpa [ieq, ilt, ile] using hb11
  rw [if_neg hb11] at h
  refine VW.skip ?_
  refine hK10 _ ?_
  -- region 9
  refine VW.ws tau_ok Sound.none [some 38, some 6, some 7] [(6, .ref 6 [] true (dI v9.1)), (7, .val (i64 0))] rfl ?_ ?_
  · simp <;> simp [ieq, ilt, ile]
  cases h
  refine VW.ret ?_
  simp [Post, PostM, PostC, PostC2, Nx, Bk]

theorem l_markInt64S_ok {a0 : List Int} {a1 : Int} {r : Int × (List Int)} (h : l_markInt64S a0 a1 = some r) :
    VMut Try.prog 22 (dI a0) [i64 a1] (i64 r.1) (dI r.2) := by
  unfold l_markInt64S at h
  refine VMut.enter Try.call22 Try.func22 rfl 19 Try.ntmps22 (by simp) [.tmp 4] rfl ?_
  show VW _ _ _ (mk [(0, .ref 0 [] true (dI a0)), (1, .val (i64 a1))]) _
  -- region 0
  refine VW.ws tau_ok Sound.none [some 4] [(0, .ref 0 [] true (dI a0)), (1, .val (i64 a1))] rfl ?_ ?_
  · simp <;> simp [ieq, ilt, ile]
  refine VW.sqc fun K1 hK1 hCK1 => ?_
  -- region 1
  refine VW.ws tau_ok Sound.none [some 5] [(0, .ref 0 [] true (dI a0)), (1, .val (i64 a1)), (5, .val (i64 0))] rfl ?_ ?_
  · simp <;> simp [ieq, ilt, ile]
  obtain ⟨x2, hx2, h⟩ := bind_some h
  refine VW.tlE [(0, .ref 0 [] true (dI x2.1)), (1, .val (i64 x2.2))] (hCK1) ?_ ?_
  · clear hx2
    refine hK1 _ ?_
    -- region 6
    refine VW.ws tau_ok Sound.none [some 18, some 4] [(0, .ref 0 [] true (dI x2.1)), (4, .val (i64 x2.2))] rfl ?_ ?_
    · simp <;> simp [ieq, ilt, ile]
    cases h
    refine VW.ret ?_
    simp [Post, PostM, PostC, PostC2, Nx, Bk]
  refine VW.block ?_
  refine VW.loopF l_markInt64S_L0 (fun s2 => [(0, .ref 0 [] true (dI s2.1)), (1, .val (i64 s2.2.1)), (5, .val (i64 s2.2.2))]) hx2 (Fits.of rfl) ?_
  clear hx2
  intro s2 ox2 hx2o hx2b
  unfold l_markInt64S_L0 at hx2o
  refine VW.sqc fun K4 hK4 hCK4 => ?_
  -- region 2
  refine VW.ws tau_ok Sound.none [some 6, some 7, some 8, some 9] [(0, .ref 0 [] true (dI s2.1)), (1, .val (i64 s2.2.1)), (5, .val (i64 s2.2.2)), (9, .val (.bool (ilt s2.2.2 (s2.1.length : Int))))] rfl ?_ ?_
  · simp <;> simp [ieq, ilt, ile]
  refine VW.cond rfl (fun hb5 => ?_) (fun hb5 => ?_)
  rotate_left
  ·
    replace hb5 : ¬ (s2.2.2 < (s2.1.length : Int)) := by simpa [ieq, ilt, ile] using hb5
    rw [if_neg hb5] at hx2o
    refine VW.exit ?_
    cases hx2o
    have hq := hx2b _ rfl
    subst hq
    exact Fits.of rfl
  replace hb5 : s2.2.2 < (s2.1.length : Int) := by simpa [ieq, ilt, ile] using hb5
  rw [if_pos hb5] at hx2o
  refine VW.skip ?_
  refine hK4 _ ?_
  refine VW.sqc fun K6 hK6 hCK6 => ?_
  refine VW.block ?_
  -- region 4
  obtain ⟨v7, hv7, hx2o⟩ := bind_some hx2o
  obtain ⟨hv7a, hv7b, hv7c, hv7d⟩ := idx_some hv7
  refine VW.ws tau_ok Sound.none [some 12, some 13, some 14, some 15, none] [(0, .ref 0 [] true (dI (s2.1.set s2.2.2.toNat s2.2.1))), (1, .val (i64 s2.2.1)), (5, .val (i64 s2.2.2))] rfl ?_ ?_
  · simp [hv7a, hv7b, hv7c, hv7d] <;> simp [ieq, ilt, ile]
  -- region 5
  refine VW.wr tau_ok Sound.none [some 16, some 17, some 1] [(0, .ref 0 [] true (dI (s2.1.set s2.2.2.toNat s2.2.1))), (1, .val (i64 (w64 (s2.2.1 + 1)))), (5, .val (i64 s2.2.2))] rfl ?_ ?_
  · simp <;> simp [ieq, ilt, ile]
  refine hK6 _ ?_
  -- region 3
  refine VW.wr tau_ok Sound.none [some 10, some 11, some 5] [(0, .ref 0 [] true (dI (s2.1.set s2.2.2.toNat s2.2.1))), (1, .val (i64 (w64 (s2.2.1 + 1)))), (5, .val (i64 (w64 (s2.2.2 + 1))))] rfl ?_ ?_
  · simp <;> simp [ieq, ilt, ile]
  cases hx2o
  exact ⟨_, rfl, Fits.of rfl⟩

theorem l_markInt64SS_ok {a0 : List (List Int)} {a1 : Int} {r : Int × (List (List Int))} (h : l_markInt64SS a0 a1 = some r) :
    VMut Try.prog 21 (dM a0) [i64 a1] (i64 r.1) (dM r.2) := by
  unfold l_markInt64SS at h
  refine VMut.enter Try.call21 Try.func21 rfl 19 Try.ntmps21 (by simp) [.tmp 4] rfl ?_
  show VW _ _ _ (mk [(0, .ref 0 [] true (dM a0)), (1, .val (i64 a1))]) _
  -- region 0
  refine VW.ws tau_ok Sound.none [some 4] [(0, .ref 0 [] true (dM a0)), (1, .val (i64 a1))] rfl ?_ ?_
  · simp <;> simp [ieq, ilt, ile]
  refine VW.sqc fun K1 hK1 hCK1 => ?_
  -- region 1
  refine VW.ws tau_ok Sound.none [some 5] [(0, .ref 0 [] true (dM a0)), (1, .val (i64 a1)), (5, .val (i64 0))] rfl ?_ ?_
  · simp <;> simp [ieq, ilt, ile]
  obtain ⟨x2, hx2, h⟩ := bind_some h
  refine VW.tlE [(0, .ref 0 [] true (dM x2.1)), (1, .val (i64 x2.2))] (hCK1) ?_ ?_
  · clear hx2
    refine hK1 _ ?_
    -- region 5
    refine VW.ws tau_ok Sound.none [some 18, some 4] [(0, .ref 0 [] true (dM x2.1)), (4, .val (i64 x2.2))] rfl ?_ ?_
    · simp <;> simp [ieq, ilt, ile]
    cases h
    refine VW.ret ?_
    simp [Post, PostM, PostC, PostC2, Nx, Bk]
  refine VW.block ?_
  refine VW.loopF l_markInt64SS_L0 (fun s2 => [(0, .ref 0 [] true (dM s2.1)), (1, .val (i64 s2.2.1)), (5, .val (i64 s2.2.2))]) hx2 (Fits.of rfl) ?_
  clear hx2
  intro s2 ox2 hx2o hx2b
  unfold l_markInt64SS_L0 at hx2o
  refine VW.sqc fun K4 hK4 hCK4 => ?_
  -- region 2
  refine VW.ws tau_ok Sound.none [some 6, some 7, some 8, some 9] [(0, .ref 0 [] true (dM s2.1)), (1, .val (i64 s2.2.1)), (5, .val (i64 s2.2.2)), (9, .val (.bool (ilt s2.2.2 (s2.1.length : Int))))] rfl ?_ ?_
  · simp <;> simp [ieq, ilt, ile]
  refine VW.cond rfl (fun hb5 => ?_) (fun hb5 => ?_)
  rotate_left
  ·
    replace hb5 : ¬ (s2.2.2 < (s2.1.length : Int)) := by simpa [ieq, ilt, ile] using hb5
    rw [if_neg hb5] at hx2o
    refine VW.exit ?_
    cases hx2o
    have hq := hx2b _ rfl
    subst hq
    exact Fits.of rfl
  replace hb5 : s2.2.2 < (s2.1.length : Int) := by simpa [ieq, ilt, ile] using hb5
  rw [if_pos hb5] at hx2o
  refine VW.skip ?_
  refine hK4 _ ?_
  refine VW.sqc fun K6 hK6 hCK6 => ?_
  refine VW.block ?_
  -- region 4
  obtain ⟨v7, hv7, hx2o⟩ := bind_some hx2o
  obtain ⟨hv7a, hv7b, hv7c, hv7d⟩ := idx_some hv7
  obtain ⟨v8, hv8, hx2o⟩ := bind_some hx2o
  refine VW.wr tau_ok (Sound.none.mutc 17 (l_markInt64S_ok hv8)) [some 12, some 13, some 14, some 15, some 16, some 17, some 1] [(0, .ref 0 [] true (dM (s2.1.set s2.2.2.toNat v8.2))), (1, .val (i64 v8.1)), (5, .val (i64 s2.2.2))] rfl ?_ ?_
  · simp [hv7a, hv7b, hv7c, hv7d] <;> simp [ieq, ilt, ile]
  refine hK6 _ ?_
  -- region 3
  refine VW.wr tau_ok Sound.none [some 10, some 11, some 5] [(0, .ref 0 [] true (dM (s2.1.set s2.2.2.toNat v8.2))), (1, .val (i64 v8.1)), (5, .val (i64 (w64 (s2.2.2 + 1))))] rfl ?_ ?_
  · simp <;> simp [ieq, ilt, ile]
  cases hx2o
  exact ⟨_, rfl, Fits.of rfl⟩

theorem l_heldInt64S_ok {a0 : List Int} {a1 : Int} {r : Int} (h : l_heldInt64S a0 a1 = some r) :
    VCall Try.prog 23 [dI a0, i64 a1] [.sc (i64 r)] := by
  unfold l_heldInt64S at h
  refine VCall.enter Try.call23 Try.func23 rfl 21 Try.ntmps23 (by simp) [.tmp 4] rfl ?_
  show VW _ _ _ (mk [(0, .val (dI a0)), (1, .val (i64 a1))]) _
  -- region 0
  refine VW.ws tau_ok Sound.none [some 4] [(0, .val (dI a0)), (1, .val (i64 a1))] rfl ?_ ?_
  · simp <;> simp [ieq, ilt, ile]
  refine VW.sqc fun K1 hK1 hCK1 => ?_
  -- region 1
  refine VW.ws tau_ok Sound.none [some 5] [(0, .val (dI a0)), (1, .val (i64 a1)), (5, .val (i64 0))] rfl ?_ ?_
  · simp <;> simp [ieq, ilt, ile]
  obtain ⟨x2, hx2, h⟩ := bind_some h
  refine VW.tlO (fun y4 => [(1, .val (i64 y4))]) x2 (hCK1) ?_ ?_
  · clear hx2
    rintro y4 rfl
    dsimp only at h
    refine hK1 _ ?_
    -- region 7
    refine VW.ws tau_ok Sound.none [some 20, some 4] [(4, .val (i64 y4))] rfl ?_ ?_
    · simp <;> simp [ieq, ilt, ile]
    cases h
    refine VW.ret ?_
    simp [Post, PostM, PostC, PostC2, Nx, Bk]
  refine VW.block ?_
  refine VW.loopF (l_heldInt64S_L0 a0) (fun s2 => [(0, .val (dI a0)), (1, .val (i64 s2.1)), (5, .val (i64 s2.2))]) hx2 (Fits.of rfl) ?_
  clear hx2
  intro s2 ox2 hx2o hx2b
  unfold l_heldInt64S_L0 at hx2o
  refine VW.sqc fun K5 hK5 hCK5 => ?_
  -- region 2
  refine VW.ws tau_ok Sound.none [some 6, some 7, some 8, some 9] [(0, .val (dI a0)), (1, .val (i64 s2.1)), (5, .val (i64 s2.2)), (9, .val (.bool (ilt s2.2 (a0.length : Int))))] rfl ?_ ?_
  · simp <;> simp [ieq, ilt, ile]
  refine VW.cond rfl (fun hb6 => ?_) (fun hb6 => ?_)
  rotate_left
  ·
    replace hb6 : ¬ (s2.2 < (a0.length : Int)) := by simpa [ieq, ilt, ile] using hb6
    rw [if_neg hb6] at hx2o
    refine VW.exit ?_
    cases hx2o
    have hq := hx2b _ rfl
    subst hq
    exact ⟨_, rfl, Fits.of rfl⟩
  replace hb6 : s2.2 < (a0.length : Int) := by simpa [ieq, ilt, ile] using hb6
  rw [if_pos hb6] at hx2o
  refine VW.skip ?_
  refine hK5 _ ?_
  refine VW.sqc fun K7 hK7 hCK7 => ?_
  refine VW.block ?_
  refine VW.sqc fun K8 hK8 hCK8 => ?_
  -- region 4
  obtain ⟨v9, hv9, hx2o⟩ := bind_some hx2o
  obtain ⟨hv9a, hv9b, hv9c, hv9d⟩ := idx_some hv9
  refine VW.ws tau_ok Sound.none [some 12, some 13, some 14, some 15, some 16, some 17] [(0, .val (dI a0)), (1, .val (i64 s2.1)), (5, .val (i64 s2.2)), (17, .val (.bool (!(ieq v9 s2.1))))] rfl ?_ ?_
  · simp [hv9a, hv9b, hv9c, hv9d] <;> simp [ieq, ilt, ile]
  refine VW.cond rfl (fun hb10 => ?_) (fun hb10 => ?_)
  ·
    replace hb10 : ¬ v9 = s2.1 := by simpa [ieq, ilt, ile] using hb10
    rw [if_pos hb10] at hx2o
    -- region 5
    refine VW.ws tau_ok Sound.none [some 4] [(4, .val (i64 (-1)))] rfl ?_ ?_
    · simp <;> simp [ieq, ilt, ile]
    cases hx2o
    have hq := hx2b _ rfl
    subst hq
    dsimp only at h
    cases h
    refine VW.ret ?_
    simp [Post, PostM, PostC, PostC2, Nx, Bk]
  replace hb10 : ¬ (¬ v9 = s2.1) := by simpa [ieq, ilt, ile] using hb10
  rw [if_neg hb10] at hx2o
  refine VW.skip ?_
  refine hK8 _ ?_
  -- region 6
  refine VW.wr tau_ok Sound.none [some 18, some 19, some 1] [(0, .val (dI a0)), (1, .val (i64 (w64 (s2.1 + 1)))), (5, .val (i64 s2.2))] rfl ?_ ?_
  · simp <;> simp [ieq, ilt, ile]
  refine hK7 _ ?_
  -- region 3
  refine VW.wr tau_ok Sound.none [some 10, some 11, some 5] [(0, .val (dI a0)), (1, .val (i64 (w64 (s2.1 + 1)))), (5, .val (i64 (w64 (s2.2 + 1))))] rfl ?_ ?_
  · simp <;> simp [ieq, ilt, ile]
  cases hx2o
  exact ⟨_, rfl, Fits.of rfl⟩

theorem l_FnExactSolveMatrix_ok {a0 : Int} {a1 : List (List Int)} {a2 : List Int} {r : Bool} (h : l_FnExactSolveMatrix a0 a1 a2 = some r) :
    VCall Try.prog 7 [i64 a0, dM a1, dI a2] [.sc (.bool r)] := by
  unfold l_FnExactSolveMatrix at h
  refine VCall.enter Try.call7 Try.func7 rfl 122 Try.ntmps7 (by simp) [.tmp 6] rfl ?_
  show VW _ _ _ (mk [(0, .val (i64 a0)), (1, .val (dM a1)), (2, .val (dI a2))]) _
  -- region 0
  refine VW.ws tau_ok Sound.none [some 6] [(0, .val (i64 a0)), (1, .val (dM a1)), (2, .val (dI a2))] rfl ?_ ?_
  · simp <;> simp [ieq, ilt, ile]
  refine VW.sqc fun K1 hK1 hCK1 => ?_
  -- region 1
  refine VW.ws tau_ok Sound.none [some 19, some 20, some 21] [(0, .val (i64 a0)), (1, .val (dM a1)), (2, .val (dI a2)), (21, .val (.bool (ilt 1048576 (a2.length : Int))))] rfl ?_ ?_
  · simp <;> simp [ieq, ilt, ile]
  refine VW.cond rfl (fun hb2 => ?_) (fun hb2 => ?_)
  ·
    replace hb2 : 1048576 < (a2.length : Int) := by simpa [ieq, ilt, ile] using hb2
    rw [if_pos hb2] at h
    -- region 2
    refine VW.ws tau_ok Sound.none [some 6] [(6, .val (.bool true))] rfl ?_ ?_
    · simp <;> simp [ieq, ilt, ile]
    cases h
    refine VW.ret ?_
    simp [Post, PostM, PostC, PostC2, Nx, Bk]
  replace hb2 : ¬ (1048576 < (a2.length : Int)) := by simpa [ieq, ilt, ile] using hb2
  rw [if_neg hb2] at h
  refine VW.skip ?_
  refine hK1 _ ?_
  -- region 3
  refine VW.ws tau_ok Sound.none [some 7] [(0, .val (i64 a0)), (1, .val (dM a1)), (2, .val (dI a2)), (7, .val (i64 1048576))] rfl ?_ ?_
  · simp <;> simp [ieq, ilt, ile]
  -- region 4
  obtain ⟨v3, hv3, h⟩ := bind_some h
  refine VW.ws tau_ok (Sound.none.add 24 (l_szInt64SS_ok hv3) rfl) [some 22, some 23, some 24, some 7] [(0, .val (i64 a0)), (1, .val (dM a1)), (2, .val (dI a2)), (7, .val (i64 v3))] rfl ?_ ?_
  · simp <;> simp [ieq, ilt, ile]
  refine VW.sqc fun K4 hK4 hCK4 => ?_
  -- region 5
  refine VW.ws tau_ok Sound.none [some 25, some 26] [(0, .val (i64 a0)), (1, .val (dM a1)), (2, .val (dI a2)), (26, .val (.bool (ilt v3 0)))] rfl ?_ ?_
  · simp <;> simp [ieq, ilt, ile]
  refine VW.cond rfl (fun hb5 => ?_) (fun hb5 => ?_)
  ·
    replace hb5 : v3 < 0 := by simpa [ieq, ilt, ile] using hb5
    rw [if_pos hb5] at h
    -- region 6
    refine VW.ws tau_ok Sound.none [some 6] [(6, .val (.bool true))] rfl ?_ ?_
    · simp <;> simp [ieq, ilt, ile]
    cases h
    refine VW.ret ?_
    simp [Post, PostM, PostC, PostC2, Nx, Bk]
  replace hb5 : ¬ (v3 < 0) := by simpa [ieq, ilt, ile] using hb5
  rw [if_neg hb5] at h
  refine VW.skip ?_
  refine hK4 _ ?_
  -- region 7
  obtain ⟨v6, hv6, h⟩ := bind_some h
  obtain ⟨v7, hv7, h⟩ := bind_some h
  obtain ⟨v8, hv8, h⟩ := bind_some h
  refine VW.ws tau_ok (((Sound.none.add 30 (l_toInt64SS_ok hv6) rfl).add 32 (l_toInt64S_ok hv7) rfl).add 33 (s_SolveMatrix_ok hv8) rfl) [some 28, some 29, some 30, some 31, some 32, some 33, some 27, some 34, some 35, some 8, some 9] [(0, .val (i64 a0)), (1, .val (dM a1)), (2, .val (dI a2)), (8, .ref 8 [] true (dI v8.1)), (9, .val (i64 v8.2))] rfl ?_ ?_
  · simp <;> simp [ieq, ilt, ile]
  -- region 8
  obtain ⟨v9, hv9, h⟩ := bind_some h
  refine VW.ws tau_ok (Sound.none.add 37 (l_toInt64SS_ok hv9) rfl) [some 36, some 37, some 10] [(0, .val (i64 a0)), (1, .val (dM a1)), (2, .val (dI a2)), (8, .ref 8 [] true (dI v8.1)), (9, .val (i64 v8.2)), (10, .ref 10 [] true (dM v9))] rfl ?_ ?_
  · simp <;> simp [ieq, ilt, ile]
  -- region 9
  obtain ⟨v10, hv10, h⟩ := bind_some h
  refine VW.ws tau_ok (Sound.none.add 39 (l_toInt64S_ok hv10) rfl) [some 38, some 39, some 11] [(0, .val (i64 a0)), (1, .val (dM a1)), (2, .val (dI a2)), (8, .ref 8 [] true (dI v8.1)), (9, .val (i64 v8.2)), (10, .ref 10 [] true (dM v9)), (11, .ref 11 [] true (dI v10))] rfl ?_ ?_
  · simp <;> simp [ieq, ilt, ile]
  -- region 10
  obtain ⟨v11, hv11, h⟩ := bind_some h
  refine VW.ws tau_ok (Sound.none.add 44 (i_SolveMatrix_ok hv11) rfl) [some 41, some 42, some 43, some 44, some 40, some 45, some 46, some 12, some 13] [(0, .val (i64 a0)), (1, .val (dM a1)), (2, .val (dI a2)), (8, .ref 8 [] true (dI v8.1)), (9, .val (i64 v8.2)), (10, .ref 10 [] true (dM v9)), (11, .ref 11 [] true (dI v10)), (12, .ref 12 [] true (dI v11.1)), (13, .val (i64 v11.2))] rfl ?_ ?_
  · simp <;> simp [ieq, ilt, ile]
  refine VW.sqc fun K12 hK12 hCK12 => ?_
  -- region 11
  obtain ⟨x15, hx15, h⟩ := bind_some h
  refine VW.cut [(0, .val (i64 a0)), (1, .val (dM a1)), (2, .val (dI a2)), (8, .ref 8 [] true (dI v8.1)), (9, .val (i64 v8.2)), (10, .ref 10 [] true (dM v9)), (11, .ref 11 [] true (dI v10)), (12, .ref 12 [] true (dI v11.1)), (13, .val (i64 v11.2)), (55, .val (.bool x15))] ?_ fun hy => ?_
  rotate_left
  · clear h
    obtain ⟨v13, hv13, hx15⟩ := bind_some hx15
    by_cases hp14 : v13 = false
    · rw [if_pos hp14] at hx15
      have hp14b : v13 = false := by simpa [ieq, ilt, ile] using hp14
      have hp14s := hp14b
      try simp at hp14s
      cases hx15
      refine VW.ws tau_ok (Sound.none.add 49 (l_eqInt64S_ok hv13) rfl) [some 47, some 48, some 49, some 50, some 51, some 52, some 53, some 54, some 55] _ rfl ?_ hy
      simp [hp14b, hp14s] <;> simp [ieq, ilt, ile]
    · rw [if_neg hp14] at hx15
      have hp14b : v13 = true := by simpa [ieq, ilt, ile] using hp14
      have hp14s := hp14b
      try simp at hp14s
      cases hx15
      refine VW.ws tau_ok (Sound.none.add 49 (l_eqInt64S_ok hv13) rfl) [some 47, some 48, some 49, some 50, some 51, some 52, some 53, some 54, some 55] _ rfl ?_ hy
      simp [hp14b, hp14s] <;> simp [ieq, ilt, ile]
  refine VW.cond rfl (fun hb16 => ?_) (fun hb16 => ?_)
  ·
    replace hb16 : x15 = true := by simpa [ieq, ilt, ile] using hb16
    rw [if_pos hb16] at h
    -- region 12
    refine VW.ws tau_ok Sound.none [some 6] [(6, .val (.bool false))] rfl ?_ ?_
    · simp <;> simp [ieq, ilt, ile]
    cases h
    refine VW.ret ?_
    simp [Post, PostM, PostC, PostC2, Nx, Bk]
  replace hb16 : ¬ (x15 = true) := by simpa [ieq, ilt, ile] using hb16
  rw [if_neg hb16] at h
  refine VW.skip ?_
  refine hK12 _ ?_
  refine VW.sqc fun K17 hK17 hCK17 => ?_
  -- region 13
  obtain ⟨v18, hv18, h⟩ := bind_some h
  obtain ⟨v19, hv19, h⟩ := bind_some h
  refine VW.ws tau_ok ((Sound.none.add 58 (l_toInt64SS_ok hv18) rfl).add 59 (l_eqInt64SS_ok hv19) rfl) [some 56, some 57, some 58, some 59, some 60] [(0, .val (i64 a0)), (1, .val (dM a1)), (2, .val (dI a2)), (8, .ref 8 [] true (dI v8.1)), (9, .val (i64 v8.2)), (10, .ref 10 [] true (dM v9)), (11, .ref 11 [] true (dI v10)), (12, .ref 12 [] true (dI v11.1)), (13, .val (i64 v11.2)), (60, .val (.bool (!v19)))] rfl ?_ ?_
  · simp <;> simp [ieq, ilt, ile]
  refine VW.cond rfl (fun hb20 => ?_) (fun hb20 => ?_)
  ·
    replace hb20 : v19 = false := by simpa [ieq, ilt, ile] using hb20
    rw [if_pos hb20] at h
    -- region 14
    refine VW.ws tau_ok Sound.none [some 6] [(6, .val (.bool false))] rfl ?_ ?_
    · simp <;> simp [ieq, ilt, ile]
    cases h
    refine VW.ret ?_
    simp [Post, PostM, PostC, PostC2, Nx, Bk]
  replace hb20 : ¬ (v19 = false) := by simpa [ieq, ilt, ile] using hb20
  rw [if_neg hb20] at h
  refine VW.skip ?_
  refine hK17 _ ?_
  refine VW.sqc fun K21 hK21 hCK21 => ?_
  -- region 15
  obtain ⟨v22, hv22, h⟩ := bind_some h
  obtain ⟨v23, hv23, h⟩ := bind_some h
  refine VW.ws tau_ok ((Sound.none.add 63 (l_toInt64S_ok hv22) rfl).add 64 (l_eqInt64S_ok hv23) rfl) [some 61, some 62, some 63, some 64, some 65] [(0, .val (i64 a0)), (1, .val (dM a1)), (2, .val (dI a2)), (8, .ref 8 [] true (dI v8.1)), (9, .val (i64 v8.2)), (10, .ref 10 [] true (dM v9)), (11, .ref 11 [] true (dI v10)), (12, .ref 12 [] true (dI v11.1)), (13, .val (i64 v11.2)), (65, .val (.bool (!v23)))] rfl ?_ ?_
  · simp <;> simp [ieq, ilt, ile]
  refine VW.cond rfl (fun hb24 => ?_) (fun hb24 => ?_)
  ·
    replace hb24 : v23 = false := by simpa [ieq, ilt, ile] using hb24
    rw [if_pos hb24] at h
    -- region 16
    refine VW.ws tau_ok Sound.none [some 6] [(6, .val (.bool false))] rfl ?_ ?_
    · simp <;> simp [ieq, ilt, ile]
    cases h
    refine VW.ret ?_
    simp [Post, PostM, PostC, PostC2, Nx, Bk]
  replace hb24 : ¬ (v23 = false) := by simpa [ieq, ilt, ile] using hb24
  rw [if_neg hb24] at h
  refine VW.skip ?_
  refine hK21 _ ?_
  -- region 17
  refine VW.ws tau_ok Sound.none [some 14] [(0, .val (i64 a0)), (1, .val (dM a1)), (2, .val (dI a2)), (8, .ref 8 [] true (dI v8.1)), (9, .val (i64 v8.2)), (10, .ref 10 [] true (dM v9)), (11, .ref 11 [] true (dI v10)), (12, .ref 12 [] true (dI v11.1)), (13, .val (i64 v11.2)), (14, .val (i64 1))] rfl ?_ ?_
  · simp <;> simp [ieq, ilt, ile]
  -- region 18
  obtain ⟨v25, hv25, h⟩ := bind_some h
  refine VW.ws tau_ok (Sound.none.mutc 68 (l_markInt64SS_ok hv25)) [some 66, some 67, some 68, some 14] [(0, .val (i64 a0)), (1, .val (dM a1)), (2, .val (dI a2)), (8, .ref 8 [] true (dI v8.1)), (9, .val (i64 v8.2)), (11, .ref 11 [] true (dI v10)), (12, .ref 12 [] true (dI v11.1)), (13, .val (i64 v11.2)), (14, .val (i64 v25.1))] rfl ?_ ?_
  · simp <;> simp [ieq, ilt, ile]
  -- region 19
  obtain ⟨v26, hv26, h⟩ := bind_some h
  refine VW.ws tau_ok (Sound.none.mutc 71 (l_markInt64S_ok hv26)) [some 69, some 70, some 71, some 14] [(0, .val (i64 a0)), (1, .val (dM a1)), (2, .val (dI a2)), (8, .ref 8 [] true (dI v8.1)), (9, .val (i64 v8.2)), (12, .ref 12 [] true (dI v11.1)), (13, .val (i64 v11.2)), (14, .val (i64 v26.1))] rfl ?_ ?_
  · simp <;> simp [ieq, ilt, ile]
  refine VW.sqc fun K27 hK27 hCK27 => ?_
  -- region 20
  obtain ⟨x31, hx31, h⟩ := bind_some h
  refine VW.cut [(0, .val (i64 a0)), (1, .val (dM a1)), (2, .val (dI a2)), (8, .ref 8 [] true (dI v8.1)), (9, .val (i64 v8.2)), (12, .ref 12 [] true (dI v11.1)), (84, .val (.bool x31))] ?_ fun hy => ?_
  rotate_left
  · clear h
    by_cases hp28 : v26.1 < 0
    · rw [if_pos hp28] at hx31
      have hp28b : ilt v26.1 0 = true := by simpa [ieq, ilt, ile] using hp28
      have hp28s := hp28b
      try simp at hp28s
      cases hx31
      refine VW.ws tau_ok Sound.none [some 72, some 73, some 74, some 75, some 76, some 77, some 78, some 79, some 80, some 81, some 82, some 83, some 84] _ rfl ?_ hy
      simp [hp28b, hp28s] <;> simp [ieq, ilt, ile]
    · rw [if_neg hp28] at hx31
      have hp28b : ilt v26.1 0 = false := by simpa [ieq, ilt, ile] using hp28
      have hp28s := hp28b
      try simp at hp28s
      obtain ⟨v29, hv29, hx31⟩ := bind_some hx31
      by_cases hp30 : v29 = false
      · rw [if_pos hp30] at hx31
        have hp30b : v29 = false := by simpa [ieq, ilt, ile] using hp30
        have hp30s := hp30b
        try simp at hp30s
        cases hx31
        refine VW.ws tau_ok (Sound.none.add 77 (l_eqInt64S_ok hv29) rfl) [some 72, some 73, some 74, some 75, some 76, some 77, some 78, some 79, some 80, some 81, some 82, some 83, some 84] _ rfl ?_ hy
        simp [hp28b, hp28s, hp30b, hp30s] <;> simp [ieq, ilt, ile]
      · rw [if_neg hp30] at hx31
        have hp30b : v29 = true := by simpa [ieq, ilt, ile] using hp30
        have hp30s := hp30b
        try simp at hp30s
        cases hx31
        refine VW.ws tau_ok (Sound.none.add 77 (l_eqInt64S_ok hv29) rfl) [some 72, some 73, some 74, some 75, some 76, some 77, some 78, some 79, some 80, some 81, some 82, some 83, some 84] _ rfl ?_ hy
        simp [hp28b, hp28s, hp30b, hp30s] <;> simp [ieq, ilt, ile]
  refine VW.cond rfl (fun hb32 => ?_) (fun hb32 => ?_)
  ·
    replace hb32 : x31 = true := by simpa [ieq, ilt, ile] using hb32
    rw [if_pos hb32] at h
    -- region 21
    refine VW.ws tau_ok Sound.none [some 6] [(6, .val (.bool false))] rfl ?_ ?_
    · simp <;> simp [ieq, ilt, ile]
    cases h
    refine VW.ret ?_
    simp [Post, PostM, PostC, PostC2, Nx, Bk]
  replace hb32 : ¬ (x31 = true) := by simpa [ieq, ilt, ile] using hb32
  rw [if_neg hb32] at h
  refine VW.skip ?_
  refine hK27 _ ?_
  -- region 22
  refine VW.ws tau_ok Sound.none [some 15] [(0, .val (i64 a0)), (1, .val (dM a1)), (2, .val (dI a2)), (8, .ref 8 [] true (dI v8.1)), (9, .val (i64 v8.2)), (12, .ref 12 [] true (dI v11.1)), (15, .val (i64 1))] rfl ?_ ?_
  · simp <;> simp [ieq, ilt, ile]
  -- region 23
  obtain ⟨v33, hv33, h⟩ := bind_some h
  refine VW.ws tau_ok (Sound.none.mutc 87 (l_markInt64S_ok hv33)) [some 85, some 86, some 87, some 15] [(0, .val (i64 a0)), (1, .val (dM a1)), (2, .val (dI a2)), (8, .ref 8 [] true (dI v8.1)), (9, .val (i64 v8.2)), (12, .ref 12 [] true (dI v33.2)), (15, .val (i64 v33.1))] rfl ?_ ?_
  · simp <;> simp [ieq, ilt, ile]
  -- region 24
  refine VW.ws tau_ok Sound.none [some 16] [(0, .val (i64 a0)), (1, .val (dM a1)), (2, .val (dI a2)), (8, .ref 8 [] true (dI v8.1)), (9, .val (i64 v8.2)), (12, .ref 12 [] true (dI v33.2)), (15, .val (i64 v33.1)), (16, .val (i64 1))] rfl ?_ ?_
  · simp <;> simp [ieq, ilt, ile]
  -- region 25
  obtain ⟨v34, hv34, h⟩ := bind_some h
  refine VW.ws tau_ok (Sound.none.add 90 (l_heldInt64S_ok hv34) rfl) [some 88, some 89, some 90, some 16] [(0, .val (i64 a0)), (1, .val (dM a1)), (2, .val (dI a2)), (8, .ref 8 [] true (dI v8.1)), (9, .val (i64 v8.2)), (12, .ref 12 [] true (dI v33.2)), (15, .val (i64 v33.1)), (16, .val (i64 v34))] rfl ?_ ?_
  · simp <;> simp [ieq, ilt, ile]
  refine VW.sqc fun K35 hK35 hCK35 => ?_
  -- region 26
  refine VW.ws tau_ok Sound.none [some 91, some 92] [(0, .val (i64 a0)), (1, .val (dM a1)), (2, .val (dI a2)), (8, .ref 8 [] true (dI v8.1)), (9, .val (i64 v8.2)), (12, .ref 12 [] true (dI v33.2)), (15, .val (i64 v33.1)), (16, .val (i64 v34)), (92, .val (.bool (ilt v34 0)))] rfl ?_ ?_
  · simp <;> simp [ieq, ilt, ile]
  refine VW.cond rfl (fun hb36 => ?_) (fun hb36 => ?_)
  ·
    replace hb36 : v34 < 0 := by simpa [ieq, ilt, ile] using hb36
    rw [if_pos hb36] at h
    -- region 27
    refine VW.ws tau_ok Sound.none [some 6] [(6, .val (.bool false))] rfl ?_ ?_
    · simp <;> simp [ieq, ilt, ile]
    cases h
    refine VW.ret ?_
    simp [Post, PostM, PostC, PostC2, Nx, Bk]
  replace hb36 : ¬ (v34 < 0) := by simpa [ieq, ilt, ile] using hb36
  rw [if_neg hb36] at h
  refine VW.skip ?_
  refine hK35 _ ?_
  refine VW.sqc fun K37 hK37 hCK37 => ?_
  -- region 28
  refine VW.ws tau_ok Sound.none [some 93, some 94, some 95] [(0, .val (i64 a0)), (1, .val (dM a1)), (2, .val (dI a2)), (8, .ref 8 [] true (dI v8.1)), (9, .val (i64 v8.2)), (12, .ref 12 [] true (dI v33.2)), (15, .val (i64 v33.1)), (95, .val (.bool (!(ieq v34 v33.1))))] rfl ?_ ?_
  · simp <;> simp [ieq, ilt, ile]
  refine VW.cond rfl (fun hb38 => ?_) (fun hb38 => ?_)
  ·
    replace hb38 : ¬ v34 = v33.1 := by simpa [ieq, ilt, ile] using hb38
    rw [if_pos hb38] at h
    -- region 29
    refine VW.ws tau_ok Sound.none [some 6] [(6, .val (.bool false))] rfl ?_ ?_
    · simp <;> simp [ieq, ilt, ile]
    cases h
    refine VW.ret ?_
    simp [Post, PostM, PostC, PostC2, Nx, Bk]
  replace hb38 : ¬ (¬ v34 = v33.1) := by simpa [ieq, ilt, ile] using hb38
  rw [if_neg hb38] at h
  refine VW.skip ?_
  refine hK37 _ ?_
  -- region 30
  obtain ⟨v39, hv39, h⟩ := bind_some h
  obtain ⟨v40, hv40, h⟩ := bind_some h
  obtain ⟨v41, hv41, h⟩ := bind_some h
  refine VW.ws tau_ok (((Sound.none.add 99 (l_toInt64SS_ok hv39) rfl).add 101 (l_toInt64S_ok hv40) rfl).add 102 (i_SolveMatrix_ok hv41) rfl) [some 97, some 98, some 99, some 100, some 101, some 102, some 96, some 103, some 104, some 17, some 18] [(8, .ref 8 [] true (dI v8.1)), (9, .val (i64 v8.2)), (12, .ref 12 [] true (dI v33.2)), (15, .val (i64 v33.1)), (17, .ref 17 [] true (dI v41.1)), (18, .val (i64 v41.2))] rfl ?_ ?_
  · simp <;> simp [ieq, ilt, ile]
  refine VW.sqc fun K42 hK42 hCK42 => ?_
  -- region 31
  obtain ⟨x45, hx45, h⟩ := bind_some h
  refine VW.cut [(12, .ref 12 [] true (dI v33.2)), (15, .val (i64 v33.1)), (113, .val (.bool x45))] ?_ fun hy => ?_
  rotate_left
  · clear h
    obtain ⟨v43, hv43, hx45⟩ := bind_some hx45
    by_cases hp44 : v43 = false
    · rw [if_pos hp44] at hx45
      have hp44b : v43 = false := by simpa [ieq, ilt, ile] using hp44
      have hp44s := hp44b
      try simp at hp44s
      cases hx45
      refine VW.ws tau_ok (Sound.none.add 107 (l_eqInt64S_ok hv43) rfl) [some 105, some 106, some 107, some 108, some 109, some 110, some 111, some 112, some 113] _ rfl ?_ hy
      simp [hp44b, hp44s] <;> simp [ieq, ilt, ile]
    · rw [if_neg hp44] at hx45
      have hp44b : v43 = true := by simpa [ieq, ilt, ile] using hp44
      have hp44s := hp44b
      try simp at hp44s
      cases hx45
      refine VW.ws tau_ok (Sound.none.add 107 (l_eqInt64S_ok hv43) rfl) [some 105, some 106, some 107, some 108, some 109, some 110, some 111, some 112, some 113] _ rfl ?_ hy
      simp [hp44b, hp44s] <;> simp [ieq, ilt, ile]
  refine VW.cond rfl (fun hb46 => ?_) (fun hb46 => ?_)
  ·
    replace hb46 : x45 = true := by simpa [ieq, ilt, ile] using hb46
    rw [if_pos hb46] at h
    -- region 32
    refine VW.ws tau_ok Sound.none [some 6] [(6, .val (.bool false))] rfl ?_ ?_
    · simp <;> simp [ieq, ilt, ile]
    cases h
    refine VW.ret ?_
    simp [Post, PostM, PostC, PostC2, Nx, Bk]
  replace hb46 : ¬ (x45 = true) := by simpa [ieq, ilt, ile] using hb46
  rw [if_neg hb46] at h
  refine VW.skip ?_
  refine hK42 _ ?_
  -- region 33
  refine VW.ws tau_ok Sound.none [some 16] [(12, .ref 12 [] true (dI v33.2)), (15, .val (i64 v33.1)), (16, .val (i64 1))] rfl ?_ ?_
  · simp <;> simp [ieq, ilt, ile]
  -- region 34
  obtain ⟨v47, hv47, h⟩ := bind_some h
  refine VW.ws tau_ok (Sound.none.add 116 (l_heldInt64S_ok hv47) rfl) [some 114, some 115, some 116, some 16] [(15, .val (i64 v33.1)), (16, .val (i64 v47))] rfl ?_ ?_
  · simp <;> simp [ieq, ilt, ile]
  refine VW.sqc fun K48 hK48 hCK48 => ?_
  -- region 35
  refine VW.ws tau_ok Sound.none [some 117, some 118] [(15, .val (i64 v33.1)), (16, .val (i64 v47)), (118, .val (.bool (ilt v47 0)))] rfl ?_ ?_
  · simp <;> simp [ieq, ilt, ile]
  refine VW.cond rfl (fun hb49 => ?_) (fun hb49 => ?_)
  ·
    replace hb49 : v47 < 0 := by simpa [ieq, ilt, ile] using hb49
    rw [if_pos hb49] at h
    -- region 36
    refine VW.ws tau_ok Sound.none [some 6] [(6, .val (.bool false))] rfl ?_ ?_
    · simp <;> simp [ieq, ilt, ile]
    cases h
    refine VW.ret ?_
    simp [Post, PostM, PostC, PostC2, Nx, Bk]
  replace hb49 : ¬ (v47 < 0) := by simpa [ieq, ilt, ile] using hb49
  rw [if_neg hb49] at h
  refine VW.skip ?_
  refine hK48 _ ?_
  refine VW.sqc fun K50 hK50 hCK50 => ?_
  -- region 37
  refine VW.ws tau_ok Sound.none [some 119, some 120, some 121] [(121, .val (.bool (!(ieq v47 v33.1))))] rfl ?_ ?_
  · simp <;> simp [ieq, ilt, ile]
  refine VW.cond rfl (fun hb51 => ?_) (fun hb51 => ?_)
  ·
    replace hb51 : ¬ v47 = v33.1 := by simpa [ieq, ilt, ile] using hb51
    rw [if_pos hb51] at h
    -- region 38
    refine VW.ws tau_ok Sound.none [some 6] [(6, .val (.bool false))] rfl ?_ ?_
    · simp <;> simp [ieq, ilt, ile]
    cases h
    refine VW.ret ?_
    simp [Post, PostM, PostC, PostC2, Nx, Bk]
  replace hb51 : ¬ (¬ v47 = v33.1) := by simpa [ieq, ilt, ile] using hb51
  rw [if_neg hb51] at h
  refine VW.skip ?_
  refine hK50 _ ?_
  -- region 39
  refine VW.ws tau_ok Sound.none [some 6] [(6, .val (.bool true))] rfl ?_ ?_
  · simp <;> simp [ieq, ilt, ile]
  cases h
  refine VW.ret ?_
  simp [Post, PostM, PostC, PostC2, Nx, Bk]

theorem l_szSpace_ok {a0_0 : Int} {a0_1 : List Int} {a1 : Int} {r : Int} (h : l_szSpace a0_0 a0_1 a1 = some r) :
    VCall Try.prog 67 [.agg [i64 a0_0, dI a0_1], i64 a1] [.sc (i64 r)] := by
  unfold l_szSpace at h
  refine VCall.enter Try.call67 Try.func67 rfl 12 Try.ntmps67 (by simp) [.tmp 4] rfl ?_
  show VW _ _ _ (mk [(0, .val (.agg [i64 a0_0, dI a0_1])), (1, .val (i64 a1))]) _
  -- region 0
  refine VW.ws tau_ok Sound.none [some 2, some 4] [(1, .val (i64 a1)), (2, .val (.ptr [i64 a0_0, dI a0_1]))] rfl ?_ ?_
  · simp <;> simp [ieq, ilt, ile]
  -- region 1
  obtain ⟨v1, hv1, h⟩ := bind_some h
  refine VW.ws tau_ok (Sound.none.add 8 (l_szInt64S_ok hv1) rfl) [some 5, some 6, some 7, some 8, some 1] [(1, .val (i64 v1))] rfl ?_ ?_
  · simp <;> simp [ieq, ilt, ile]
  refine VW.sqc fun K2 hK2 hCK2 => ?_
  -- region 2
  refine VW.ws tau_ok Sound.none [some 9, some 10] [(1, .val (i64 v1)), (10, .val (.bool (ilt v1 0)))] rfl ?_ ?_
  · simp <;> simp [ieq, ilt, ile]
  refine VW.cond rfl (fun hb3 => ?_) (fun hb3 => ?_)
  ·
    replace hb3 : v1 < 0 := by simpa [ieq, ilt, ile] using hb3
    rw [if_pos hb3] at h
    -- region 3
    refine VW.ws tau_ok Sound.none [some 4] [(4, .val (i64 (-1)))] rfl ?_ ?_
    · simp <;> simp [ieq, ilt, ile]
    cases h
    refine VW.ret ?_
    simp [Post, PostM, PostC, PostC2, Nx, Bk]
  replace hb3 : ¬ (v1 < 0) := by simpa [ieq, ilt, ile] using hb3
  rw [if_neg hb3] at h
  refine VW.skip ?_
  refine hK2 _ ?_
  -- region 4
  refine VW.ws tau_ok Sound.none [some 11, some 4] [(4, .val (i64 v1))] rfl ?_ ?_
  · simp <;> simp [ieq, ilt, ile]
  cases h
  refine VW.ret ?_
  simp [Post, PostM, PostC, PostC2, Nx, Bk]

theorem l_toSpace_ok {a0_0 : Int} {a0_1 : List Int} {r : Int × (List Int)} (h : l_toSpace a0_0 a0_1 = some r) :
    VCall Try.prog 69 [.agg [i64 a0_0, dI a0_1]] [.own true (.agg [i64 r.1, dI r.2])] := by
  unfold l_toSpace at h
  refine VCall.enterC Try.call69 Try.func69 rfl 12 Try.ntmps69 (by simp) (tau_ok 78) 2 rfl ?_
  show VW _ _ _ (mk [(0, .val (.agg [i64 a0_0, dI a0_1]))]) _
  -- region 0
  refine VW.ws tau_ok Sound.none [some 1, some 2] [(1, .val (.ptr [i64 a0_0, dI a0_1])), (2, .ref 2 [] true (.ptr [i64 0, dI []]))] rfl ?_ ?_
  · simp <;> simp [ieq, ilt, ile]
  -- region 1
  refine VW.ws tau_ok Sound.none [some 3] [(1, .val (.ptr [i64 a0_0, dI a0_1])), (2, .ref 2 [] true (.ptr [i64 0, dI []])), (3, .ref 3 [] true (.ptr [i64 0, dI []]))] rfl ?_ ?_
  · simp <;> simp [ieq, ilt, ile]
  -- region 2
  refine VW.ws tau_ok Sound.none [some 4, some 5, some 6, none] [(1, .val (.ptr [i64 a0_0, dI a0_1])), (2, .ref 2 [] true (.ptr [i64 0, dI []])), (3, .ref 3 [] true (.ptr [i64 a0_0, dI []]))] rfl ?_ ?_
  · simp <;> simp [ieq, ilt, ile]
  -- region 3
  obtain ⟨v1, hv1, h⟩ := bind_some h
  refine VW.ws tau_ok (Sound.none.add 9 (l_toInt64S_ok hv1) rfl) [some 7, some 8, some 9, some 10, none] [(2, .ref 2 [] true (.ptr [i64 0, dI []])), (3, .ref 3 [] true (.ptr [i64 a0_0, dI v1]))] rfl ?_ ?_
  · simp <;> simp [ieq, ilt, ile]
  -- region 4
  refine VW.ws tau_ok Sound.none [some 11, none] [(2, .ref 2 [] true (.ptr [i64 a0_0, dI v1]))] rfl ?_ ?_
  · simp <;> simp [ieq, ilt, ile]
  cases h
  refine VW.ret ?_
  simp [Post, PostM, PostC, PostC2, Nx, Bk]

theorem s_l03Is_ok {a0_0 : Int} {a0_1 : List Int} {r : Bool} (h : s_l03Is a0_0 a0_1 = some r) :
    VCall Try.prog 125 [.agg [i64 a0_0, dI a0_1]] [.sc (.bool r)] := by
  unfold s_l03Is at h
  refine VCall.enter Try.call125 Try.func125 rfl 19 Try.ntmps125 (by simp) [.tmp 2] rfl ?_
  show VW _ _ _ (mk [(0, .val (.agg [i64 a0_0, dI a0_1]))]) _
  -- region 0
  refine VW.ws tau_ok Sound.none [some 1, some 2] [(1, .val (.ptr [i64 a0_0, dI a0_1]))] rfl ?_ ?_
  · simp <;> simp [ieq, ilt, ile]
  -- region 1
  obtain ⟨x6, hx6, h⟩ := bind_some h
  refine VW.cut [(2, .val (.bool x6))] ?_ fun hy => ?_
  rotate_left
  · clear h
    obtain ⟨v1, hv1, hx6⟩ := bind_some hx6
    by_cases hp2 : v1 = true
    · rw [if_pos hp2] at hx6
      have hp2b : v1 = true := by simpa [ieq, ilt, ile] using hp2
      have hp2s := hp2b
      try simp at hp2s
      obtain ⟨v3, hv3, hx6⟩ := bind_some hx6
      by_cases hp4 : v3 = true
      · rw [if_pos hp4] at hx6
        have hp4b : v3 = true := by simpa [ieq, ilt, ile] using hp4
        have hp4s := hp4b
        try simp at hp4s
        obtain ⟨v5, hv5, hx6⟩ := bind_some hx6
        cases hx6
        refine VW.ws tau_ok (((Sound.none.add 5 (s_l01Prime_ok hv1) rfl).add 10 (s_l01In_ok hv3) rfl).add 17 (s_l01Numbers_ok hv5) rfl) [some 3, some 4, some 5, some 6, some 7, some 8, some 9, some 10, some 11, some 12, some 13, some 14, some 15, some 16, some 17, some 18, some 2] _ rfl ?_ hy
        simp [hp2b, hp2s, hp4b, hp4s] <;> simp [ieq, ilt, ile]
      · rw [if_neg hp4] at hx6
        have hp4b : v3 = false := by simpa [ieq, ilt, ile] using hp4
        have hp4s := hp4b
        try simp at hp4s
        cases hx6
        refine VW.ws tau_ok ((Sound.none.add 5 (s_l01Prime_ok hv1) rfl).add 10 (s_l01In_ok hv3) rfl) [some 3, some 4, some 5, some 6, some 7, some 8, some 9, some 10, some 11, some 12, some 13, some 14, some 15, some 16, some 17, some 18, some 2] _ rfl ?_ hy
        simp [hp2b, hp2s, hp4b, hp4s] <;> simp [ieq, ilt, ile]
    · rw [if_neg hp2] at hx6
      have hp2b : v1 = false := by simpa [ieq, ilt, ile] using hp2
      have hp2s := hp2b
      try simp at hp2s
      cases hx6
      refine VW.ws tau_ok (Sound.none.add 5 (s_l01Prime_ok hv1) rfl) [some 3, some 4, some 5, some 6, some 7, some 8, some 9, some 10, some 11, some 12, some 13, some 14, some 15, some 16, some 17, some 18, some 2] _ rfl ?_ hy
      simp [hp2b, hp2s] <;> simp [ieq, ilt, ile]
  cases h
  refine VW.ret ?_
  simp [Post, PostM, PostC, PostC2, Nx, Bk]
end Go.Vam
