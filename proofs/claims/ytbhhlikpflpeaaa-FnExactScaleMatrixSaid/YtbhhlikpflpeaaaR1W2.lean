import Derived.Test.YtbhhlikpflpeaaaR1T
import Derived.Test.YtbhhlikpflpeaaaFnA
import Derived.Test.YtbhhlikpflpeaaaR1W1
namespace Go.Vam
open Go Go.RowKit Go.Proofs
set_option maxRecDepth 100000
set_option linter.unusedSimpArgs false
set_option linter.unusedVariables false

theorem i_field_isTable_ok {a0 : Int} {a1 : List (List Int)} {r : Bool} (h : i_field_isTable a0 a1 = some r) :
    VCall Try.prog 50 [i64 a0, dM a1] [.sc (.bool r)] := by
  unfold i_field_isTable at h
  refine VCall.enter Try.call50 Try.func50 rfl 40 Try.ntmps50 (by simp) [.tmp 4] rfl ?_
  show VW _ _ _ (mk [(0, .val (i64 a0)), (1, .val (dM a1))]) _
  -- region 0
  refine VW.ws tau_ok Sound.none [some 4] [(0, .val (i64 a0)), (1, .val (dM a1))] rfl ?_ ?_
  · simp <;> simp [ieq, ilt, ile]
  refine VW.sqc fun K1 hK1 hCK1 => ?_
  -- region 1
  refine VW.ws tau_ok Sound.none [some 7, some 8, some 9] [(0, .val (i64 a0)), (1, .val (dM a1)), (9, .val (.bool (ilt 16 (a1.length : Int))))] rfl ?_ ?_
  · simp <;> simp [ieq, ilt, ile]
  refine VW.cond rfl (fun hb2 => ?_) (fun hb2 => ?_)
  ·
    replace hb2 : 16 < (a1.length : Int) := by simpa [ieq, ilt, ile] using hb2
    rw [if_pos hb2] at h
    -- region 2
    refine VW.ws tau_ok Sound.none [some 4] [(4, .val (.bool false))] rfl ?_ ?_
    · simp <;> simp [ieq, ilt, ile]
    cases h
    refine VW.ret ?_
    simp [Post, PostM, PostC, PostC2, Nx, Bk]
  replace hb2 : ¬ (16 < (a1.length : Int)) := by simpa [ieq, ilt, ile] using hb2
  rw [if_neg hb2] at h
  refine VW.skip ?_
  refine hK1 _ ?_
  refine VW.sqc fun K3 hK3 hCK3 => ?_
  -- region 3
  refine VW.ws tau_ok Sound.none [some 10, some 11, some 12] [(0, .val (i64 a0)), (1, .val (dM a1)), (10, .val (dM a1)), (11, .val (i64 (a1.length : Int))), (12, .val (i64 0))] rfl ?_ ?_
  · simp <;> simp [ieq, ilt, ile]
  obtain ⟨x4, hx4, h⟩ := bind_some h
  refine VW.tlO (fun y6 => []) x4 (hCK3) ?_ ?_
  · clear hx4
    rintro y6 rfl
    dsimp only at h
    refine hK3 _ ?_
    -- region 9
    refine VW.ws tau_ok Sound.none [some 4] [(4, .val (.bool true))] rfl ?_ ?_
    · simp <;> simp [ieq, ilt, ile]
    cases h
    refine VW.ret ?_
    simp [Post, PostM, PostC, PostC2, Nx, Bk]
  refine VW.block ?_
  refine VW.loopF (i_field_isTable_L0 a0 a1) (fun s4 => [(0, .val (i64 a0)), (1, .val (dM a1)), (10, .val (dM a1)), (11, .val (i64 (a1.length : Int))), (12, .val (i64 s4))]) hx4 (Fits.of rfl) ?_
  clear hx4
  intro s4 ox4 hx4o hx4b
  unfold i_field_isTable_L0 at hx4o
  -- region 4
  refine VW.ws tau_ok Sound.none [some 13] [(0, .val (i64 a0)), (1, .val (dM a1)), (10, .val (dM a1)), (11, .val (i64 (a1.length : Int))), (12, .val (i64 s4)), (13, .val (.bool (ilt s4 (a1.length : Int))))] rfl ?_ ?_
  · simp <;> simp [ieq, ilt, ile]
  refine VW.sqc fun K7 hK7 hCK7 => ?_
  refine VW.cond rfl (fun hb8 => ?_) (fun hb8 => ?_)
  rotate_left
  ·
    replace hb8 : ¬ (s4 < (a1.length : Int)) := by simpa [ieq, ilt, ile] using hb8
    rw [if_neg hb8] at hx4o
    refine VW.exit ?_
    cases hx4o
    have hq := hx4b _ rfl
    subst hq
    exact ⟨_, rfl, Fits.of rfl⟩
  replace hb8 : s4 < (a1.length : Int) := by simpa [ieq, ilt, ile] using hb8
  rw [if_pos hb8] at hx4o
  refine VW.skip ?_
  refine hK7 _ ?_
  refine VW.sqc fun K9 hK9 hCK9 => ?_
  refine VW.block ?_
  -- region 5
  obtain ⟨v10, hv10, hx4o⟩ := bind_some hx4o
  obtain ⟨hv10a, hv10b, hv10c, hv10d⟩ := idx_some hv10
  refine VW.ws tau_ok Sound.none [some 14, some 15, some 6] [(0, .val (i64 a0)), (1, .val (dM a1)), (6, .val (dI v10)), (10, .val (dM a1)), (11, .val (i64 (a1.length : Int))), (12, .val (i64 s4))] rfl ?_ ?_
  · simp [hv10a, hv10b, hv10c, hv10d] <;> simp [ieq, ilt, ile]
  -- region 6
  obtain ⟨x16, hx16, hx4o⟩ := bind_some hx4o
  refine VW.cut [(0, .val (i64 a0)), (1, .val (dM a1)), (10, .val (dM a1)), (11, .val (i64 (a1.length : Int))), (12, .val (i64 s4)), (38, .val (.bool x16))] ?_ fun hy => ?_
  rotate_left
  · clear hx4o
    obtain ⟨v11, hv11, hx16⟩ := bind_some hx16
    obtain ⟨hv11a, hv11b, hv11c, hv11d⟩ := idx_some hv11
    replace hv11b : 0 < a1.length := hv11b
    replace hv11c : a1[0]? = some v11 := hv11c
    replace hv11d : ∀ h, a1[0]'h = v11 := hv11d
    by_cases hp12 : ¬ (v10.length : Int) = (v11.length : Int)
    · rw [if_pos hp12] at hx16
      have hp12b : ieq (v10.length : Int) (v11.length : Int) = false := by simpa [ieq, ilt, ile] using hp12
      have hp12s := hp12b
      try simp at hp12s
      cases hx16
      refine VW.ws tau_ok Sound.none [some 16, some 17, some 18, some 19, some 20, some 21, some 22, some 23, some 24, some 25, some 26, some 27, some 28, some 29, some 30, some 31, some 32, some 33, some 34, some 35, some 36, some 37, some 38] _ rfl ?_ hy
      simp [hv11a, hv11b, hv11c, hv11d, hp12b, hp12s] <;> simp [ieq, ilt, ile]
    · rw [if_neg hp12] at hx16
      have hp12b : ieq (v10.length : Int) (v11.length : Int) = true := by simpa [ieq, ilt, ile] using hp12
      have hp12s := hp12b
      try simp at hp12s
      by_cases hp13 : (v10.length : Int) < 1
      · rw [if_pos hp13] at hx16
        have hp13b : ilt (v10.length : Int) 1 = true := by simpa [ieq, ilt, ile] using hp13
        have hp13s := hp13b
        try simp at hp13s
        cases hx16
        refine VW.ws tau_ok Sound.none [some 16, some 17, some 18, some 19, some 20, some 21, some 22, some 23, some 24, some 25, some 26, some 27, some 28, some 29, some 30, some 31, some 32, some 33, some 34, some 35, some 36, some 37, some 38] _ rfl ?_ hy
        simp [hv11a, hv11b, hv11c, hv11d, hp12b, hp12s, hp13b, hp13s] <;> simp [ieq, ilt, ile]
      · rw [if_neg hp13] at hx16
        have hp13b : ilt (v10.length : Int) 1 = false := by simpa [ieq, ilt, ile] using hp13
        have hp13s := hp13b
        try simp at hp13s
        by_cases hp14 : 16 < (v10.length : Int)
        · rw [if_pos hp14] at hx16
          have hp14b : ilt 16 (v10.length : Int) = true := by simpa [ieq, ilt, ile] using hp14
          have hp14s := hp14b
          try simp at hp14s
          cases hx16
          refine VW.ws tau_ok Sound.none [some 16, some 17, some 18, some 19, some 20, some 21, some 22, some 23, some 24, some 25, some 26, some 27, some 28, some 29, some 30, some 31, some 32, some 33, some 34, some 35, some 36, some 37, some 38] _ rfl ?_ hy
          simp [hv11a, hv11b, hv11c, hv11d, hp12b, hp12s, hp13b, hp13s, hp14b, hp14s] <;> simp [ieq, ilt, ile]
        · rw [if_neg hp14] at hx16
          have hp14b : ilt 16 (v10.length : Int) = false := by simpa [ieq, ilt, ile] using hp14
          have hp14s := hp14b
          try simp at hp14s
          obtain ⟨v15, hv15, hx16⟩ := bind_some hx16
          cases hx16
          refine VW.ws tau_ok (Sound.none.add 36 (i_field_is_ok hv15) rfl) [some 16, some 17, some 18, some 19, some 20, some 21, some 22, some 23, some 24, some 25, some 26, some 27, some 28, some 29, some 30, some 31, some 32, some 33, some 34, some 35, some 36, some 37, some 38] _ rfl ?_ hy
          simp [hv11a, hv11b, hv11c, hv11d, hp12b, hp12s, hp13b, hp13s, hp14b, hp14s] <;> simp [ieq, ilt, ile]
  refine VW.cond rfl (fun hb17 => ?_) (fun hb17 => ?_)
  rotate_left
  ·
    replace hb17 : ¬ (x16 = true) := by simpa [ieq, ilt, ile] using hb17
    rw [if_neg hb17] at hx4o
    refine VW.skip ?_
    refine hK9 _ ?_
    -- region 8
    refine VW.wr tau_ok Sound.none [some 39, some 12] [(0, .val (i64 a0)), (1, .val (dM a1)), (10, .val (dM a1)), (11, .val (i64 (a1.length : Int))), (12, .val (i64 (w64 (s4 + 1))))] rfl ?_ ?_
    · simp <;> simp [ieq, ilt, ile]
    cases hx4o
    exact ⟨_, rfl, Fits.of rfl⟩
  replace hb17 : x16 = true := by simpa [ieq, ilt, ile] using hb17
  rw [if_pos hb17] at hx4o
  -- region 7
  refine VW.ws tau_ok Sound.none [some 4] [(4, .val (.bool false))] rfl ?_ ?_
  · simp <;> simp [ieq, ilt, ile]
  cases hx4o
  have hq := hx4b _ rfl
  subst hq
  dsimp only at h
  cases h
  refine VW.ret ?_
  simp [Post, PostM, PostC, PostC2, Nx, Bk]

theorem i_field_isMatrix_ok {a0 : Int} {a1 : List (List Int)} {r : Bool} (h : i_field_isMatrix a0 a1 = some r) :
    VCall Try.prog 33 [i64 a0, dM a1] [.sc (.bool r)] := by
  unfold i_field_isMatrix at h
  refine VCall.enter Try.call33 Try.func33 rfl 13 Try.ntmps33 (by simp) [.tmp 4] rfl ?_
  show VW _ _ _ (mk [(0, .val (i64 a0)), (1, .val (dM a1))]) _
  -- region 0
  refine VW.ws tau_ok Sound.none [some 4] [(0, .val (i64 a0)), (1, .val (dM a1))] rfl ?_ ?_
  · simp <;> simp [ieq, ilt, ile]
  -- region 1
  obtain ⟨x3, hx3, h⟩ := bind_some h
  refine VW.cut [(4, .val (.bool x3))] ?_ fun hy => ?_
  rotate_left
  · clear h
    by_cases hp1 : 0 < (a1.length : Int)
    · rw [if_pos hp1] at hx3
      have hp1b : ilt 0 (a1.length : Int) = true := by simpa [ieq, ilt, ile] using hp1
      have hp1s := hp1b
      try simp at hp1s
      obtain ⟨v2, hv2, hx3⟩ := bind_some hx3
      cases hx3
      refine VW.ws tau_ok (Sound.none.add 11 (i_field_isTable_ok hv2) rfl) [some 5, some 6, some 7, some 8, some 9, some 10, some 11, some 12, some 4] _ rfl ?_ hy
      simp [hp1b, hp1s] <;> simp [ieq, ilt, ile]
    · rw [if_neg hp1] at hx3
      have hp1b : ilt 0 (a1.length : Int) = false := by simpa [ieq, ilt, ile] using hp1
      have hp1s := hp1b
      try simp at hp1s
      cases hx3
      refine VW.ws tau_ok Sound.none [some 5, some 6, some 7, some 8, some 9, some 10, some 11, some 12, some 4] _ rfl ?_ hy
      simp [hp1b, hp1s] <;> simp [ieq, ilt, ile]
  cases h
  refine VW.ret ?_
  simp [Post, PostM, PostC, PostC2, Nx, Bk]

theorem i_IsMatrix_ok {a0 : Int} {a1 : List (List Int)} {r : Bool} (h : i_IsMatrix a0 a1 = some r) :
    VCall Try.prog 12 [i64 a0, dM a1] [.sc (.bool r)] := by
  unfold i_IsMatrix at h
  refine VCall.enter Try.call12 Try.func12 rfl 12 Try.ntmps12 (by simp) [.tmp 4] rfl ?_
  show VW _ _ _ (mk [(0, .val (i64 a0)), (1, .val (dM a1))]) _
  -- region 0
  refine VW.ws tau_ok Sound.none [some 4] [(0, .val (i64 a0)), (1, .val (dM a1))] rfl ?_ ?_
  · simp <;> simp [ieq, ilt, ile]
  -- region 1
  obtain ⟨x4, hx4, h⟩ := bind_some h
  refine VW.cut [(4, .val (.bool x4))] ?_ fun hy => ?_
  rotate_left
  · clear h
    obtain ⟨v1, hv1, hx4⟩ := bind_some hx4
    by_cases hp2 : v1 = true
    · rw [if_pos hp2] at hx4
      have hp2b : v1 = true := by simpa [ieq, ilt, ile] using hp2
      have hp2s := hp2b
      try simp at hp2s
      obtain ⟨v3, hv3, hx4⟩ := bind_some hx4
      cases hx4
      refine VW.ws tau_ok ((Sound.none.add 6 (i_IsPrime_ok hv1) rfl).add 10 (i_field_isMatrix_ok hv3) rfl) [some 5, some 6, some 7, some 8, some 9, some 10, some 11, some 4] _ rfl ?_ hy
      simp [hp2b, hp2s] <;> simp [ieq, ilt, ile]
    · rw [if_neg hp2] at hx4
      have hp2b : v1 = false := by simpa [ieq, ilt, ile] using hp2
      have hp2s := hp2b
      try simp at hp2s
      cases hx4
      refine VW.ws tau_ok (Sound.none.add 6 (i_IsPrime_ok hv1) rfl) [some 5, some 6, some 7, some 8, some 9, some 10, some 11, some 4] _ rfl ?_ hy
      simp [hp2b, hp2s] <;> simp [ieq, ilt, ile]
  cases h
  refine VW.ret ?_
  simp [Post, PostM, PostC, PostC2, Nx, Bk]

theorem l_eqInt64S_ok {a0 : List Int} {a1 : List Int} {r : Bool} (h : l_eqInt64S a0 a1 = some r) :
    VCall Try.prog 23 [dI a0, dI a1] [.sc (.bool r)] := by
  unfold l_eqInt64S at h
  refine VCall.enter Try.call23 Try.func23 rfl 26 Try.ntmps23 (by simp) [.tmp 4] rfl ?_
  show VW _ _ _ (mk [(0, .val (dI a0)), (1, .val (dI a1))]) _
  -- region 0
  refine VW.ws tau_ok Sound.none [some 4] [(0, .val (dI a0)), (1, .val (dI a1))] rfl ?_ ?_
  · simp <;> simp [ieq, ilt, ile]
  refine VW.sqc fun K1 hK1 hCK1 => ?_
  -- region 1
  refine VW.ws tau_ok Sound.none [some 6, some 7, some 8, some 9, some 10] [(0, .val (dI a0)), (1, .val (dI a1)), (10, .val (.bool (!(ieq (a0.length : Int) (a1.length : Int)))))] rfl ?_ ?_
  · simp <;> simp [ieq, ilt, ile]
  refine VW.cond rfl (fun hb2 => ?_) (fun hb2 => ?_)
  ·
    replace hb2 : ¬ (a0.length : Int) = (a1.length : Int) := by simpa [ieq, ilt, ile] using hb2
    rw [if_pos hb2] at h
    -- region 2
    refine VW.ws tau_ok Sound.none [some 4] [(4, .val (.bool false))] rfl ?_ ?_
    · simp <;> simp [ieq, ilt, ile]
    cases h
    refine VW.ret ?_
    simp [Post, PostM, PostC, PostC2, Nx, Bk]
  replace hb2 : ¬ (¬ (a0.length : Int) = (a1.length : Int)) := by simpa [ieq, ilt, ile] using hb2
  rw [if_neg hb2] at h
  refine VW.skip ?_
  refine hK1 _ ?_
  refine VW.sqc fun K3 hK3 hCK3 => ?_
  -- region 3
  refine VW.ws tau_ok Sound.none [some 5] [(0, .val (dI a0)), (1, .val (dI a1)), (5, .val (i64 0))] rfl ?_ ?_
  · simp <;> simp [ieq, ilt, ile]
  obtain ⟨x4, hx4, h⟩ := bind_some h
  refine VW.tlO (fun y6 => []) x4 (hCK3) ?_ ?_
  · clear hx4
    rintro y6 rfl
    dsimp only at h
    refine hK3 _ ?_
    -- region 8
    refine VW.ws tau_ok Sound.none [some 4] [(4, .val (.bool true))] rfl ?_ ?_
    · simp <;> simp [ieq, ilt, ile]
    cases h
    refine VW.ret ?_
    simp [Post, PostM, PostC, PostC2, Nx, Bk]
  refine VW.block ?_
  refine VW.loopF (l_eqInt64S_L0 a0 a1) (fun s4 => [(0, .val (dI a0)), (1, .val (dI a1)), (5, .val (i64 s4))]) hx4 (Fits.of rfl) ?_
  clear hx4
  intro s4 ox4 hx4o hx4b
  unfold l_eqInt64S_L0 at hx4o
  refine VW.sqc fun K7 hK7 hCK7 => ?_
  -- region 4
  refine VW.ws tau_ok Sound.none [some 11, some 12, some 13, some 14] [(0, .val (dI a0)), (1, .val (dI a1)), (5, .val (i64 s4)), (14, .val (.bool (ilt s4 (a0.length : Int))))] rfl ?_ ?_
  · simp <;> simp [ieq, ilt, ile]
  refine VW.cond rfl (fun hb8 => ?_) (fun hb8 => ?_)
  rotate_left
  ·
    replace hb8 : ¬ (s4 < (a0.length : Int)) := by simpa [ieq, ilt, ile] using hb8
    rw [if_neg hb8] at hx4o
    refine VW.exit ?_
    cases hx4o
    have hq := hx4b _ rfl
    subst hq
    exact ⟨_, rfl, Fits.of rfl⟩
  replace hb8 : s4 < (a0.length : Int) := by simpa [ieq, ilt, ile] using hb8
  rw [if_pos hb8] at hx4o
  refine VW.skip ?_
  refine hK7 _ ?_
  refine VW.sqc fun K9 hK9 hCK9 => ?_
  refine VW.block ?_
  -- region 6
  obtain ⟨v10, hv10, hx4o⟩ := bind_some hx4o
  obtain ⟨hv10a, hv10b, hv10c, hv10d⟩ := idx_some hv10
  obtain ⟨v11, hv11, hx4o⟩ := bind_some hx4o
  obtain ⟨hv11a, hv11b, hv11c, hv11d⟩ := idx_some hv11
  refine VW.wds tau_ok Sound.none try_mixed [some 17, some 18, some 19, some 20, some 21, some 22, some 23, some 24, some 25] [(0, .val (dI a0)), (1, .val (dI a1)), (5, .val (i64 s4)), (25, .val (.bool (!(ieq v10 v11))))] 9 rfl (by kernel_rfl) (by rfl) ?_ ?_
  · simp [hv10a, hv10b, hv10c, hv10d, hv11a, hv11b, hv11c, hv11d] <;> simp [ieq, ilt, ile]
  refine VW.cond rfl (fun hb12 => ?_) (fun hb12 => ?_)
  rotate_left
  ·
    replace hb12 : ¬ (¬ v10 = v11) := by simpa [ieq, ilt, ile] using hb12
    rw [if_neg hb12] at hx4o
    refine VW.skip ?_
    refine hK9 _ ?_
    -- region 5
    refine VW.wr tau_ok Sound.none [some 15, some 16, some 5] [(0, .val (dI a0)), (1, .val (dI a1)), (5, .val (i64 (w64 (s4 + 1))))] rfl ?_ ?_
    · simp <;> simp [ieq, ilt, ile]
    cases hx4o
    exact ⟨_, rfl, Fits.of rfl⟩
  replace hb12 : ¬ v10 = v11 := by simpa [ieq, ilt, ile] using hb12
  rw [if_pos hb12] at hx4o
  -- region 7
  refine VW.ws tau_ok Sound.none [some 4] [(4, .val (.bool false))] rfl ?_ ?_
  · simp <;> simp [ieq, ilt, ile]
  cases hx4o
  have hq := hx4b _ rfl
  subst hq
  dsimp only at h
  cases h
  refine VW.ret ?_
  simp [Post, PostM, PostC, PostC2, Nx, Bk]

theorem l_eqInt64SS_ok {a0 : List (List Int)} {a1 : List (List Int)} {r : Bool} (h : l_eqInt64SS a0 a1 = some r) :
    VCall Try.prog 13 [dM a0, dM a1] [.sc (.bool r)] := by
  unfold l_eqInt64SS at h
  refine VCall.enter Try.call13 Try.func13 rfl 27 Try.ntmps13 (by simp) [.tmp 4] rfl ?_
  show VW _ _ _ (mk [(0, .val (dM a0)), (1, .val (dM a1))]) _
  -- region 0
  refine VW.ws tau_ok Sound.none [some 4] [(0, .val (dM a0)), (1, .val (dM a1))] rfl ?_ ?_
  · simp <;> simp [ieq, ilt, ile]
  refine VW.sqc fun K1 hK1 hCK1 => ?_
  -- region 1
  refine VW.ws tau_ok Sound.none [some 6, some 7, some 8, some 9, some 10] [(0, .val (dM a0)), (1, .val (dM a1)), (10, .val (.bool (!(ieq (a0.length : Int) (a1.length : Int)))))] rfl ?_ ?_
  · simp <;> simp [ieq, ilt, ile]
  refine VW.cond rfl (fun hb2 => ?_) (fun hb2 => ?_)
  ·
    replace hb2 : ¬ (a0.length : Int) = (a1.length : Int) := by simpa [ieq, ilt, ile] using hb2
    rw [if_pos hb2] at h
    -- region 2
    refine VW.ws tau_ok Sound.none [some 4] [(4, .val (.bool false))] rfl ?_ ?_
    · simp <;> simp [ieq, ilt, ile]
    cases h
    refine VW.ret ?_
    simp [Post, PostM, PostC, PostC2, Nx, Bk]
  replace hb2 : ¬ (¬ (a0.length : Int) = (a1.length : Int)) := by simpa [ieq, ilt, ile] using hb2
  rw [if_neg hb2] at h
  refine VW.skip ?_
  refine hK1 _ ?_
  refine VW.sqc fun K3 hK3 hCK3 => ?_
  -- region 3
  refine VW.ws tau_ok Sound.none [some 5] [(0, .val (dM a0)), (1, .val (dM a1)), (5, .val (i64 0))] rfl ?_ ?_
  · simp <;> simp [ieq, ilt, ile]
  obtain ⟨x4, hx4, h⟩ := bind_some h
  refine VW.tlO (fun y6 => []) x4 (hCK3) ?_ ?_
  · clear hx4
    rintro y6 rfl
    dsimp only at h
    refine hK3 _ ?_
    -- region 8
    refine VW.ws tau_ok Sound.none [some 4] [(4, .val (.bool true))] rfl ?_ ?_
    · simp <;> simp [ieq, ilt, ile]
    cases h
    refine VW.ret ?_
    simp [Post, PostM, PostC, PostC2, Nx, Bk]
  refine VW.block ?_
  refine VW.loopF (l_eqInt64SS_L0 a0 a1) (fun s4 => [(0, .val (dM a0)), (1, .val (dM a1)), (5, .val (i64 s4))]) hx4 (Fits.of rfl) ?_
  clear hx4
  intro s4 ox4 hx4o hx4b
  unfold l_eqInt64SS_L0 at hx4o
  refine VW.sqc fun K7 hK7 hCK7 => ?_
  -- region 4
  refine VW.ws tau_ok Sound.none [some 11, some 12, some 13, some 14] [(0, .val (dM a0)), (1, .val (dM a1)), (5, .val (i64 s4)), (14, .val (.bool (ilt s4 (a0.length : Int))))] rfl ?_ ?_
  · simp <;> simp [ieq, ilt, ile]
  refine VW.cond rfl (fun hb8 => ?_) (fun hb8 => ?_)
  rotate_left
  ·
    replace hb8 : ¬ (s4 < (a0.length : Int)) := by simpa [ieq, ilt, ile] using hb8
    rw [if_neg hb8] at hx4o
    refine VW.exit ?_
    cases hx4o
    have hq := hx4b _ rfl
    subst hq
    exact ⟨_, rfl, Fits.of rfl⟩
  replace hb8 : s4 < (a0.length : Int) := by simpa [ieq, ilt, ile] using hb8
  rw [if_pos hb8] at hx4o
  refine VW.skip ?_
  refine hK7 _ ?_
  refine VW.sqc fun K9 hK9 hCK9 => ?_
  refine VW.block ?_
  -- region 6
  obtain ⟨v10, hv10, hx4o⟩ := bind_some hx4o
  obtain ⟨hv10a, hv10b, hv10c, hv10d⟩ := idx_some hv10
  obtain ⟨v11, hv11, hx4o⟩ := bind_some hx4o
  obtain ⟨hv11a, hv11b, hv11c, hv11d⟩ := idx_some hv11
  obtain ⟨v12, hv12, hx4o⟩ := bind_some hx4o
  refine VW.wds tau_ok (Sound.none.add 25 (l_eqInt64S_ok hv12) rfl) try_mixed [some 17, some 18, some 19, some 20, some 21, some 22, some 23, some 24, some 25, some 26] [(0, .val (dM a0)), (1, .val (dM a1)), (5, .val (i64 s4)), (26, .val (.bool (!v12)))] 10 rfl (by kernel_rfl) (by rfl) ?_ ?_
  · simp [hv10a, hv10b, hv10c, hv10d, hv11a, hv11b, hv11c, hv11d] <;> simp [ieq, ilt, ile]
  refine VW.cond rfl (fun hb13 => ?_) (fun hb13 => ?_)
  rotate_left
  ·
    replace hb13 : ¬ (v12 = false) := by simpa [ieq, ilt, ile] using hb13
    rw [if_neg hb13] at hx4o
    refine VW.skip ?_
    refine hK9 _ ?_
    -- region 5
    refine VW.wr tau_ok Sound.none [some 15, some 16, some 5] [(0, .val (dM a0)), (1, .val (dM a1)), (5, .val (i64 (w64 (s4 + 1))))] rfl ?_ ?_
    · simp <;> simp [ieq, ilt, ile]
    cases hx4o
    exact ⟨_, rfl, Fits.of rfl⟩
  replace hb13 : v12 = false := by simpa [ieq, ilt, ile] using hb13
  rw [if_pos hb13] at hx4o
  -- region 7
  refine VW.ws tau_ok Sound.none [some 4] [(4, .val (.bool false))] rfl ?_ ?_
  · simp <;> simp [ieq, ilt, ile]
  cases hx4o
  have hq := hx4b _ rfl
  subst hq
  dsimp only at h
  cases h
  refine VW.ret ?_
  simp [Post, PostM, PostC, PostC2, Nx, Bk]

theorem l_FnExactIsMatrix_ok {a0 : Int} {a1 : List (List Int)} {r : Bool} (h : l_FnExactIsMatrix a0 a1 = some r) :
    VCall Try.prog 3 [i64 a0, dM a1] [.sc (.bool r)] := by
  unfold l_FnExactIsMatrix at h
  refine VCall.enter Try.call3 Try.func3 rfl 31 Try.ntmps3 (by simp) [.tmp 4] rfl ?_
  show VW _ _ _ (mk [(0, .val (i64 a0)), (1, .val (dM a1))]) _
  -- region 0
  refine VW.ws tau_ok Sound.none [some 4] [(0, .val (i64 a0)), (1, .val (dM a1))] rfl ?_ ?_
  · simp <;> simp [ieq, ilt, ile]
  -- region 1
  refine VW.ws tau_ok Sound.none [some 5] [(0, .val (i64 a0)), (1, .val (dM a1)), (5, .val (i64 1048576))] rfl ?_ ?_
  · simp <;> simp [ieq, ilt, ile]
  -- region 2
  obtain ⟨v1, hv1, h⟩ := bind_some h
  refine VW.ws tau_ok (Sound.none.add 11 (l_szInt64SS_ok hv1) rfl) [some 9, some 10, some 11, some 5] [(0, .val (i64 a0)), (1, .val (dM a1)), (5, .val (i64 v1))] rfl ?_ ?_
  · simp <;> simp [ieq, ilt, ile]
  refine VW.sqc fun K2 hK2 hCK2 => ?_
  -- region 3
  refine VW.ws tau_ok Sound.none [some 12, some 13] [(0, .val (i64 a0)), (1, .val (dM a1)), (13, .val (.bool (ilt v1 0)))] rfl ?_ ?_
  · simp <;> simp [ieq, ilt, ile]
  refine VW.cond rfl (fun hb3 => ?_) (fun hb3 => ?_)
  ·
    replace hb3 : v1 < 0 := by simpa [ieq, ilt, ile] using hb3
    rw [if_pos hb3] at h
    -- region 4
    refine VW.ws tau_ok Sound.none [some 4] [(4, .val (.bool true))] rfl ?_ ?_
    · simp <;> simp [ieq, ilt, ile]
    cases h
    refine VW.ret ?_
    simp [Post, PostM, PostC, PostC2, Nx, Bk]
  replace hb3 : ¬ (v1 < 0) := by simpa [ieq, ilt, ile] using hb3
  rw [if_neg hb3] at h
  refine VW.skip ?_
  refine hK2 _ ?_
  -- region 5
  obtain ⟨v4, hv4, h⟩ := bind_some h
  obtain ⟨v5, hv5, h⟩ := bind_some h
  refine VW.ws tau_ok ((Sound.none.add 16 (l_toInt64SS_ok hv4) rfl).add 17 (s_IsMatrix_ok hv5) rfl) [some 14, some 15, some 16, some 17, some 6] [(0, .val (i64 a0)), (1, .val (dM a1)), (6, .val (.bool v5))] rfl ?_ ?_
  · simp <;> simp [ieq, ilt, ile]
  -- region 6
  obtain ⟨v6, hv6, h⟩ := bind_some h
  refine VW.ws tau_ok (Sound.none.add 19 (l_toInt64SS_ok hv6) rfl) [some 18, some 19, some 7] [(0, .val (i64 a0)), (1, .val (dM a1)), (6, .val (.bool v5)), (7, .ref 7 [] true (dM v6))] rfl ?_ ?_
  · simp <;> simp [ieq, ilt, ile]
  -- region 7
  obtain ⟨v7, hv7, h⟩ := bind_some h
  refine VW.ws tau_ok (Sound.none.add 22 (i_IsMatrix_ok hv7) rfl) [some 20, some 21, some 22, some 8] [(1, .val (dM a1)), (6, .val (.bool v5)), (7, .ref 7 [] true (dM v6)), (8, .val (.bool v7))] rfl ?_ ?_
  · simp <;> simp [ieq, ilt, ile]
  refine VW.sqc fun K8 hK8 hCK8 => ?_
  -- region 8
  refine VW.ws tau_ok Sound.none [some 23, some 24, some 25] [(1, .val (dM a1)), (7, .ref 7 [] true (dM v6)), (25, .val (.bool (v7 != v5)))] rfl ?_ ?_
  · simp <;> simp [ieq, ilt, ile]
  refine VW.cond rfl (fun hb9 => ?_) (fun hb9 => ?_)
  ·
    replace hb9 : (v7 != v5) = true := by simpa [ieq, ilt, ile] using hb9
    rw [if_pos hb9] at h
    -- region 9
    refine VW.ws tau_ok Sound.none [some 4] [(4, .val (.bool false))] rfl ?_ ?_
    · simp <;> simp [ieq, ilt, ile]
    cases h
    refine VW.ret ?_
    simp [Post, PostM, PostC, PostC2, Nx, Bk]
  replace hb9 : ¬ ((v7 != v5) = true) := by simpa [ieq, ilt, ile] using hb9
  rw [if_neg hb9] at h
  refine VW.skip ?_
  refine hK8 _ ?_
  refine VW.sqc fun K10 hK10 hCK10 => ?_
  -- region 10
  obtain ⟨v11, hv11, h⟩ := bind_some h
  obtain ⟨v12, hv12, h⟩ := bind_some h
  refine VW.ws tau_ok ((Sound.none.add 28 (l_toInt64SS_ok hv11) rfl).add 29 (l_eqInt64SS_ok hv12) rfl) [some 26, some 27, some 28, some 29, some 30] [(30, .val (.bool (!v12)))] rfl ?_ ?_
  · simp <;> simp [ieq, ilt, ile]
  refine VW.cond rfl (fun hb13 => ?_) (fun hb13 => ?_)
  ·
    replace hb13 : v12 = false := by simpa [ieq, ilt, ile] using hb13
    rw [if_pos hb13] at h
    -- region 11
    refine VW.ws tau_ok Sound.none [some 4] [(4, .val (.bool false))] rfl ?_ ?_
    · simp <;> simp [ieq, ilt, ile]
    cases h
    refine VW.ret ?_
    simp [Post, PostM, PostC, PostC2, Nx, Bk]
  replace hb13 : ¬ (v12 = false) := by simpa [ieq, ilt, ile] using hb13
  rw [if_neg hb13] at h
  refine VW.skip ?_
  refine hK10 _ ?_
  -- region 12
  refine VW.ws tau_ok Sound.none [some 4] [(4, .val (.bool true))] rfl ?_ ?_
  · simp <;> simp [ieq, ilt, ile]
  cases h
  refine VW.ret ?_
  simp [Post, PostM, PostC, PostC2, Nx, Bk]

theorem s_l02Square_ok {a0 : Int} {a1 : List (List Int)} {r : Int} (h : s_l02Square a0 a1 = some r) :
    VCall Try.prog 34 [i64 a0, dM a1] [.sc (i64 r)] := by
  unfold s_l02Square at h
  refine VCall.enter Try.call34 Try.func34 rfl 16 Try.ntmps34 (by simp) [.tmp 4] rfl ?_
  show VW _ _ _ (mk [(0, .val (i64 a0)), (1, .val (dM a1))]) _
  -- region 0
  refine VW.ws tau_ok Sound.none [some 4] [(0, .val (i64 a0)), (1, .val (dM a1))] rfl ?_ ?_
  · simp <;> simp [ieq, ilt, ile]
  refine VW.sqc fun K1 hK1 hCK1 => ?_
  -- region 1
  obtain ⟨v2, hv2, h⟩ := bind_some h
  refine VW.ws tau_ok (Sound.none.add 7 (s_l02Is_ok hv2) rfl) [some 5, some 6, some 7, some 8] [(1, .val (dM a1)), (8, .val (.bool (!v2)))] rfl ?_ ?_
  · simp <;> simp [ieq, ilt, ile]
  refine VW.cond rfl (fun hb3 => ?_) (fun hb3 => ?_)
  ·
    replace hb3 : v2 = false := by simpa [ieq, ilt, ile] using hb3
    rw [if_pos hb3] at h
    -- region 2
    refine VW.ws tau_ok Sound.none [some 4] [(4, .val (i64 1))] rfl ?_ ?_
    · simp <;> simp [ieq, ilt, ile]
    cases h
    refine VW.ret ?_
    simp [Post, PostM, PostC, PostC2, Nx, Bk]
  replace hb3 : ¬ (v2 = false) := by simpa [ieq, ilt, ile] using hb3
  rw [if_neg hb3] at h
  refine VW.skip ?_
  refine hK1 _ ?_
  refine VW.sqc fun K4 hK4 hCK4 => ?_
  -- region 3
  obtain ⟨v5, hv5, h⟩ := bind_some h
  obtain ⟨hv5a, hv5b, hv5c, hv5d⟩ := idx_some hv5
  replace hv5b : 0 < a1.length := hv5b
  replace hv5c : a1[0]? = some v5 := hv5c
  replace hv5d : ∀ h, a1[0]'h = v5 := hv5d
  refine VW.ws tau_ok Sound.none [some 9, some 10, some 11, some 12, some 13, some 14, some 15] [(15, .val (.bool (!(ieq (a1.length : Int) (v5.length : Int)))))] rfl ?_ ?_
  · simp [hv5a, hv5b, hv5c, hv5d] <;> simp [ieq, ilt, ile]
  refine VW.cond rfl (fun hb6 => ?_) (fun hb6 => ?_)
  ·
    replace hb6 : ¬ (a1.length : Int) = (v5.length : Int) := by simpa [ieq, ilt, ile] using hb6
    rw [if_pos hb6] at h
    -- region 4
    refine VW.ws tau_ok Sound.none [some 4] [(4, .val (i64 2))] rfl ?_ ?_
    · simp <;> simp [ieq, ilt, ile]
    cases h
    refine VW.ret ?_
    simp [Post, PostM, PostC, PostC2, Nx, Bk]
  replace hb6 : ¬ (¬ (a1.length : Int) = (v5.length : Int)) := by simpa [ieq, ilt, ile] using hb6
  rw [if_neg hb6] at h
  refine VW.skip ?_
  refine hK4 _ ?_
  -- region 5
  refine VW.ws tau_ok Sound.none [some 4] [(4, .val (i64 0))] rfl ?_ ?_
  · simp <;> simp [ieq, ilt, ile]
  cases h
  refine VW.ret ?_
  simp [Post, PostM, PostC, PostC2, Nx, Bk]

theorem s_TraceOf_ok {a0 : Int} {a1 : List (List Int)} {r : Int × Int} (h : s_TraceOf a0 a1 = some r) :
    VCall Try.prog 14 [i64 a0, dM a1] [.sc (i64 r.1), .sc (i64 r.2)] := by
  unfold s_TraceOf at h
  refine VCall.enter Try.call14 Try.func14 rfl 33 Try.ntmps14 (by simp) [.tmp 4, .tmp 5] rfl ?_
  show VW _ _ _ (mk [(0, .val (i64 a0)), (1, .val (dM a1))]) _
  -- region 0
  refine VW.ws tau_ok Sound.none [some 4, some 5] [(0, .val (i64 a0)), (1, .val (dM a1))] rfl ?_ ?_
  · simp <;> simp [ieq, ilt, ile]
  -- region 1
  obtain ⟨v1, hv1, h⟩ := bind_some h
  refine VW.ws tau_ok (Sound.none.add 11 (s_l02Square_ok hv1) rfl) [some 9, some 10, some 11, some 6] [(0, .val (i64 a0)), (1, .val (dM a1)), (6, .val (i64 v1))] rfl ?_ ?_
  · simp <;> simp [ieq, ilt, ile]
  refine VW.sqc fun K2 hK2 hCK2 => ?_
  -- region 2
  refine VW.ws tau_ok Sound.none [some 12, some 13] [(0, .val (i64 a0)), (1, .val (dM a1)), (6, .val (i64 v1)), (13, .val (.bool (!(ieq v1 0))))] rfl ?_ ?_
  · simp <;> simp [ieq, ilt, ile]
  refine VW.cond rfl (fun hb3 => ?_) (fun hb3 => ?_)
  ·
    replace hb3 : ¬ v1 = 0 := by simpa [ieq, ilt, ile] using hb3
    rw [if_pos hb3] at h
    -- region 3
    refine VW.ws tau_ok Sound.none [some 14, some 4, some 5] [(4, .val (i64 0)), (5, .val (i64 v1))] rfl ?_ ?_
    · simp <;> simp [ieq, ilt, ile]
    cases h
    refine VW.ret ?_
    simp [Post, PostM, PostC, PostC2, Nx, Bk]
  replace hb3 : ¬ (¬ v1 = 0) := by simpa [ieq, ilt, ile] using hb3
  rw [if_neg hb3] at h
  refine VW.skip ?_
  refine hK2 _ ?_
  -- region 4
  refine VW.ws tau_ok Sound.none [some 7] [(0, .val (i64 a0)), (1, .val (dM a1)), (7, .val (i64 0))] rfl ?_ ?_
  · simp <;> simp [ieq, ilt, ile]
  refine VW.sqc fun K4 hK4 hCK4 => ?_
  -- region 5
  refine VW.ws tau_ok Sound.none [some 8] [(0, .val (i64 a0)), (1, .val (dM a1)), (7, .val (i64 0)), (8, .val (i64 0))] rfl ?_ ?_
  · simp <;> simp [ieq, ilt, ile]
  obtain ⟨x5, hx5, h⟩ := bind_some h
  refine VW.tlE [(7, .val (i64 x5))] (hCK4) ?_ ?_
  · clear hx5
    refine hK4 _ ?_
    -- region 9
    refine VW.ws tau_ok Sound.none [some 32, some 4, some 5] [(4, .val (i64 x5)), (5, .val (i64 0))] rfl ?_ ?_
    · simp <;> simp [ieq, ilt, ile]
    cases h
    refine VW.ret ?_
    simp [Post, PostM, PostC, PostC2, Nx, Bk]
  refine VW.block ?_
  refine VW.loopF (s_TraceOf_L0 a0 a1) (fun s5 => [(0, .val (i64 a0)), (1, .val (dM a1)), (7, .val (i64 s5.1)), (8, .val (i64 s5.2))]) hx5 (Fits.of rfl) ?_
  clear hx5
  intro s5 ox5 hx5o hx5b
  unfold s_TraceOf_L0 at hx5o
  refine VW.sqc fun K7 hK7 hCK7 => ?_
  -- region 6
  refine VW.ws tau_ok Sound.none [some 15, some 16, some 17, some 18] [(0, .val (i64 a0)), (1, .val (dM a1)), (7, .val (i64 s5.1)), (8, .val (i64 s5.2)), (18, .val (.bool (ilt s5.2 (a1.length : Int))))] rfl ?_ ?_
  · simp <;> simp [ieq, ilt, ile]
  refine VW.cond rfl (fun hb8 => ?_) (fun hb8 => ?_)
  rotate_left
  ·
    replace hb8 : ¬ (s5.2 < (a1.length : Int)) := by simpa [ieq, ilt, ile] using hb8
    rw [if_neg hb8] at hx5o
    refine VW.exit ?_
    cases hx5o
    have hq := hx5b _ rfl
    subst hq
    exact Fits.of rfl
  replace hb8 : s5.2 < (a1.length : Int) := by simpa [ieq, ilt, ile] using hb8
  rw [if_pos hb8] at hx5o
  refine VW.skip ?_
  refine hK7 _ ?_
  refine VW.sqc fun K9 hK9 hCK9 => ?_
  refine VW.block ?_
  -- region 8
  obtain ⟨v10, hv10, hx5o⟩ := bind_some hx5o
  obtain ⟨hv10a, hv10b, hv10c, hv10d⟩ := idx_some hv10
  obtain ⟨v11, hv11, hx5o⟩ := bind_some hx5o
  obtain ⟨hv11a, hv11b, hv11c, hv11d⟩ := idx_some hv11
  obtain ⟨hc12, hx5o⟩ := chk_some hx5o
  have hc12s := hc12
  try simp at hc12s
  refine VW.wr tau_ok Sound.none [some 21, some 22, some 23, some 24, some 25, some 26, some 27, some 28, some 29, some 30, some 31, some 7] [(0, .val (i64 a0)), (1, .val (dM a1)), (7, .val (i64 ((w64 (s5.1 + v11)).tmod a0))), (8, .val (i64 s5.2))] rfl ?_ ?_
  · simp [hv10a, hv10b, hv10c, hv10d, hv11a, hv11b, hv11c, hv11d, hc12, hc12s] <;> simp [ieq, ilt, ile]
  refine hK9 _ ?_
  -- region 7
  refine VW.wr tau_ok Sound.none [some 19, some 20, some 8] [(0, .val (i64 a0)), (1, .val (dM a1)), (7, .val (i64 ((w64 (s5.1 + v11)).tmod a0))), (8, .val (i64 (w64 (s5.2 + 1))))] rfl ?_ ?_
  · simp <;> simp [ieq, ilt, ile]
  cases hx5o
  exact ⟨_, rfl, Fits.of rfl⟩

theorem i_checkMatrices_c1_ok {a0 : List (List Int)} {a1_0 : Int} {r : Bool} (h : i_checkMatrices_c1 a0 a1_0 = some r) :
    VCall Try.prog 53 [dM a0, .ptr [i64 a1_0]] [.sc (.bool r)] := by
  unfold i_checkMatrices_c1 at h
  refine VCall.enter Try.call53 Try.func53 rfl 8 Try.ntmps53 (by simp) [.tmp 3] rfl ?_
  show VW _ _ _ (mk [(0, .val (dM a0)), (1, .val (.ptr [i64 a1_0]))]) _
  -- region 0
  refine VW.ws tau_ok Sound.none [some 3] [(0, .val (dM a0)), (1, .val (.ptr [i64 a1_0]))] rfl ?_ ?_
  · simp <;> simp [ieq, ilt, ile]
  -- region 1
  obtain ⟨v1, hv1, h⟩ := bind_some h
  refine VW.ws tau_ok (Sound.none.add 6 (i_field_isMatrix_ok hv1) rfl) [some 4, some 5, some 6, some 7, some 3] [(3, .val (.bool (!v1)))] rfl ?_ ?_
  · simp <;> simp [ieq, ilt, ile]
  cases h
  refine VW.ret ?_
  simp [Post, PostM, PostC, PostC2, Nx, Bk]

theorem g_slices_IndexFunc_LLLI_LLI_of_i_checkMatrices_c1_ok {a0 : List (List (List Int))} {a1_0_0 : Int} {r : Int} (h : g_slices_IndexFunc_LLLI_LLI_of_i_checkMatrices_c1 a0 a1_0_0 = some r) :
    VCall Try.prog 57 [dC a0, .fn 53 [.ptr [i64 a1_0_0]]] [.sc (i64 r)] := by
  unfold g_slices_IndexFunc_LLLI_LLI_of_i_checkMatrices_c1 at h
  refine VCall.enter Try.call57 Try.func57 rfl 19 Try.ntmps57 (by simp) [.tmp 4] rfl ?_
  show VW _ _ _ (mk [(0, .val (dC a0)), (1, .val (.fn 53 [.ptr [i64 a1_0_0]]))]) _
  -- region 0
  refine VW.ws tau_ok Sound.none [some 4] [(0, .val (dC a0)), (1, .val (.fn 53 [.ptr [i64 a1_0_0]]))] rfl ?_ ?_
  · simp <;> simp [ieq, ilt, ile]
  refine VW.sqc fun K1 hK1 hCK1 => ?_
  -- region 1
  refine VW.ws tau_ok Sound.none [some 6, some 7, some 8] [(0, .val (dC a0)), (1, .val (.fn 53 [.ptr [i64 a1_0_0]])), (7, .val (i64 (a0.length : Int))), (8, .val (i64 0))] rfl ?_ ?_
  · simp <;> simp [ieq, ilt, ile]
  obtain ⟨x2, hx2, h⟩ := bind_some h
  refine VW.tlO (fun y4 => []) x2 (hCK1) ?_ ?_
  · clear hx2
    rintro y4 rfl
    dsimp only at h
    refine hK1 _ ?_
    -- region 7
    refine VW.ws tau_ok Sound.none [some 4] [(4, .val (i64 (-1)))] rfl ?_ ?_
    · simp <;> simp [ieq, ilt, ile]
    cases h
    refine VW.ret ?_
    simp [Post, PostM, PostC, PostC2, Nx, Bk]
  refine VW.block ?_
  refine VW.loopF (g_slices_IndexFunc_LLLI_LLI_of_i_checkMatrices_c1_L0 a0 a1_0_0) (fun s2 => [(0, .val (dC a0)), (1, .val (.fn 53 [.ptr [i64 a1_0_0]])), (7, .val (i64 (a0.length : Int))), (8, .val (i64 s2))]) hx2 (Fits.of rfl) ?_
  clear hx2
  intro s2 ox2 hx2o hx2b
  unfold g_slices_IndexFunc_LLLI_LLI_of_i_checkMatrices_c1_L0 at hx2o
  -- region 2
  refine VW.ws tau_ok Sound.none [some 9] [(0, .val (dC a0)), (1, .val (.fn 53 [.ptr [i64 a1_0_0]])), (7, .val (i64 (a0.length : Int))), (8, .val (i64 s2)), (9, .val (.bool (ilt s2 (a0.length : Int))))] rfl ?_ ?_
  · simp <;> simp [ieq, ilt, ile]
  refine VW.sqc fun K5 hK5 hCK5 => ?_
  refine VW.cond rfl (fun hb6 => ?_) (fun hb6 => ?_)
  rotate_left
  ·
    replace hb6 : ¬ (s2 < (a0.length : Int)) := by simpa [ieq, ilt, ile] using hb6
    rw [if_neg hb6] at hx2o
    refine VW.exit ?_
    cases hx2o
    have hq := hx2b _ rfl
    subst hq
    exact ⟨_, rfl, Fits.of rfl⟩
  replace hb6 : s2 < (a0.length : Int) := by simpa [ieq, ilt, ile] using hb6
  rw [if_pos hb6] at hx2o
  refine VW.skip ?_
  refine hK5 _ ?_
  refine VW.sqc fun K7 hK7 hCK7 => ?_
  refine VW.block ?_
  -- region 3
  refine VW.ws tau_ok Sound.none [some 10, some 5] [(0, .val (dC a0)), (1, .val (.fn 53 [.ptr [i64 a1_0_0]])), (5, .val (i64 s2)), (7, .val (i64 (a0.length : Int))), (8, .val (i64 s2))] rfl ?_ ?_
  · simp <;> simp [ieq, ilt, ile]
  -- region 4
  obtain ⟨v8, hv8, hx2o⟩ := bind_some hx2o
  obtain ⟨hv8a, hv8b, hv8c, hv8d⟩ := idx_some hv8
  obtain ⟨v9, hv9, hx2o⟩ := bind_some hx2o
  refine VW.ws tau_ok (Sound.none.add 16 (i_checkMatrices_c1_ok hv9) rfl) [some 11, some 12, some 13, some 14, some 15, some 16] [(0, .val (dC a0)), (1, .val (.fn 53 [.ptr [i64 a1_0_0]])), (5, .val (i64 s2)), (7, .val (i64 (a0.length : Int))), (8, .val (i64 s2)), (16, .val (.bool v9))] rfl ?_ ?_
  · simp [hv8a, hv8b, hv8c, hv8d] <;> simp [ieq, ilt, ile]
  refine VW.cond rfl (fun hb10 => ?_) (fun hb10 => ?_)
  rotate_left
  ·
    replace hb10 : ¬ (v9 = true) := by simpa [ieq, ilt, ile] using hb10
    rw [if_neg hb10] at hx2o
    refine VW.skip ?_
    refine hK7 _ ?_
    -- region 6
    refine VW.wr tau_ok Sound.none [some 18, some 8] [(0, .val (dC a0)), (1, .val (.fn 53 [.ptr [i64 a1_0_0]])), (7, .val (i64 (a0.length : Int))), (8, .val (i64 (w64 (s2 + 1))))] rfl ?_ ?_
    · simp <;> simp [ieq, ilt, ile]
    cases hx2o
    exact ⟨_, rfl, Fits.of rfl⟩
  replace hb10 : v9 = true := by simpa [ieq, ilt, ile] using hb10
  rw [if_pos hb10] at hx2o
  -- region 5
  refine VW.ws tau_ok Sound.none [some 17, some 4] [(4, .val (i64 s2))] rfl ?_ ?_
  · simp <;> simp [ieq, ilt, ile]
  cases hx2o
  have hq := hx2b _ rfl
  subst hq
  dsimp only at h
  cases h
  refine VW.ret ?_
  simp [Post, PostM, PostC, PostC2, Nx, Bk]

theorem g_slices_ContainsFunc_LLLI_LLI_of_i_checkMatrices_c1_ok {a0 : List (List (List Int))} {a1_0_0 : Int} {r : Bool} (h : g_slices_ContainsFunc_LLLI_LLI_of_i_checkMatrices_c1 a0 a1_0_0 = some r) :
    VCall Try.prog 52 [dC a0, .fn 53 [.ptr [i64 a1_0_0]]] [.sc (.bool r)] := by
  unfold g_slices_ContainsFunc_LLLI_LLI_of_i_checkMatrices_c1 at h
  refine VCall.enter Try.call52 Try.func52 rfl 9 Try.ntmps52 (by simp) [.tmp 4] rfl ?_
  show VW _ _ _ (mk [(0, .val (dC a0)), (1, .val (.fn 53 [.ptr [i64 a1_0_0]]))]) _
  -- region 0
  refine VW.ws tau_ok Sound.none [some 4] [(0, .val (dC a0)), (1, .val (.fn 53 [.ptr [i64 a1_0_0]]))] rfl ?_ ?_
  · simp <;> simp [ieq, ilt, ile]
  -- region 1
  obtain ⟨v1, hv1, h⟩ := bind_some h
  refine VW.ws tau_ok (Sound.none.add 7 (g_slices_IndexFunc_LLLI_LLI_of_i_checkMatrices_c1_ok hv1) rfl) [some 5, some 6, some 7, some 8, some 4] [(4, .val (.bool (ile 0 v1)))] rfl ?_ ?_
  · simp <;> simp [ieq, ilt, ile]
  cases h
  refine VW.ret ?_
  simp [Post, PostM, PostC, PostC2, Nx, Bk]

theorem i_checkMatrices_ok {a0 : Int} {a1 : List (List (List Int))} {r : Int} (h : i_checkMatrices a0 a1 = some r) :
    VCall Try.prog 38 [i64 a0, dC a1] [.sc (i64 r)] := by
  unfold i_checkMatrices at h
  refine VCall.enter Try.call38 Try.func38 rfl 13 Try.ntmps38 (by simp) [.tmp 4] rfl ?_
  show VW _ _ _ (mk [(0, .val (i64 a0)), (1, .val (dC a1))]) _
  -- region 0
  refine VW.ws tau_ok Sound.none [some 2, some 4] [(1, .val (dC a1)), (2, .val (.ptr [i64 a0]))] rfl ?_ ?_
  · simp <;> simp [ieq, ilt, ile]
  refine VW.sqc fun K1 hK1 hCK1 => ?_
  -- region 1
  obtain ⟨x5, hx5, h⟩ := bind_some h
  refine VW.cut [(12, .val (.bool x5))] ?_ fun hy => ?_
  rotate_left
  · clear h
    obtain ⟨v2, hv2, hx5⟩ := bind_some hx5
    by_cases hp3 : v2 = false
    · rw [if_pos hp3] at hx5
      have hp3b : v2 = false := by simpa [ieq, ilt, ile] using hp3
      have hp3s := hp3b
      try simp at hp3s
      cases hx5
      refine VW.ws tau_ok (Sound.none.add 6 (i_IsPrime_ok hv2) rfl) [some 5, some 6, some 7, some 8, some 9, some 10, some 11, some 12] _ rfl ?_ hy
      simp [hp3b, hp3s] <;> simp [ieq, ilt, ile]
    · rw [if_neg hp3] at hx5
      have hp3b : v2 = true := by simpa [ieq, ilt, ile] using hp3
      have hp3s := hp3b
      try simp at hp3s
      obtain ⟨v4, hv4, hx5⟩ := bind_some hx5
      cases hx5
      refine VW.ws tau_ok ((Sound.none.add 6 (i_IsPrime_ok hv2) rfl).add 11 (g_slices_ContainsFunc_LLLI_LLI_of_i_checkMatrices_c1_ok hv4) rfl) [some 5, some 6, some 7, some 8, some 9, some 10, some 11, some 12] _ rfl ?_ hy
      simp [hp3b, hp3s] <;> simp [ieq, ilt, ile]
  refine VW.cond rfl (fun hb6 => ?_) (fun hb6 => ?_)
  ·
    replace hb6 : x5 = true := by simpa [ieq, ilt, ile] using hb6
    rw [if_pos hb6] at h
    -- region 2
    refine VW.ws tau_ok Sound.none [some 4] [(4, .val (i64 1))] rfl ?_ ?_
    · simp <;> simp [ieq, ilt, ile]
    cases h
    refine VW.ret ?_
    simp [Post, PostM, PostC, PostC2, Nx, Bk]
  replace hb6 : ¬ (x5 = true) := by simpa [ieq, ilt, ile] using hb6
  rw [if_neg hb6] at h
  refine VW.skip ?_
  refine hK1 _ ?_
  -- region 3
  refine VW.ws tau_ok Sound.none [some 4] [(4, .val (i64 0))] rfl ?_ ?_
  · simp <;> simp [ieq, ilt, ile]
  cases h
  refine VW.ret ?_
  simp [Post, PostM, PostC, PostC2, Nx, Bk]
end Go.Vam
