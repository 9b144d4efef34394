import Derived.Test.YtijmfifejmgeaaaR9T
import Derived.Test.YtijmfifejmgeaaaFmG0
namespace Go.Vam
open Go Go.RowKit Go.Proofs
set_option maxRecDepth 100000
set_option linter.unusedSimpArgs false
set_option linter.unusedVariables false

theorem l_szInt64S_ok {a0 : List Int} {a1 : Int} {r : Int} (h : l_szInt64S a0 a1 = some r) :
    VCall Try.prog 74 [dI a0, i64 a1] [.sc (i64 r)] := by
  unfold l_szInt64S at h
  refine VCall.enter Try.call74 Try.func74 rfl 12 Try.ntmps74 (by simp) [.tmp 4] rfl ?_
  show VW _ _ _ (mk [(0, .val (dI a0)), (1, .val (i64 a1))]) _
  -- region 0
  refine VW.ws tau_ok Sound.none [some 4] [(0, .val (dI a0)), (1, .val (i64 a1))] rfl ?_ ?_
  · simp <;> simp [ieq, ilt, ile]
  -- region 1
  refine VW.ws tau_ok Sound.none [some 5, some 6, some 7, some 8, some 1] [(1, .val (i64 (w64 (a1 - (a0.length : Int)))))] rfl ?_ ?_
  · simp <;> simp [ieq, ilt, ile]
  refine VW.sqc fun K1 hK1 hCK1 => ?_
  -- region 2
  refine VW.ws tau_ok Sound.none [some 9, some 10] [(1, .val (i64 (w64 (a1 - (a0.length : Int))))), (10, .val (.bool (ilt (w64 (a1 - (a0.length : Int))) 0)))] rfl ?_ ?_
  · simp <;> simp [ieq, ilt, ile]
  refine VW.cond rfl (fun hb2 => ?_) (fun hb2 => ?_)
  ·
    replace hb2 : (w64 (a1 - (a0.length : Int))) < 0 := by simpa [ieq, ilt, ile] using hb2
    rw [if_pos hb2] at h
    -- region 3
    refine VW.ws tau_ok Sound.none [some 4] [(4, .val (i64 (-1)))] rfl ?_ ?_
    · simp <;> simp [ieq, ilt, ile]
    cases h
    refine VW.ret ?_
    simp [Post, PostM, PostC, PostC2, Nx, Bk]
  replace hb2 : ¬ ((w64 (a1 - (a0.length : Int))) < 0) := by simpa [ieq, ilt, ile] using hb2
  rw [if_neg hb2] at h
  refine VW.skip ?_
  refine hK1 _ ?_
  -- region 4
  refine VW.ws tau_ok Sound.none [some 11, some 4] [(4, .val (i64 (w64 (a1 - (a0.length : Int)))))] rfl ?_ ?_
  · simp <;> simp [ieq, ilt, ile]
  cases h
  refine VW.ret ?_
  simp [Post, PostM, PostC, PostC2, Nx, Bk]

theorem l_szDoubling_ok {a0_0 : Int} {a0_1 : List Int} {a1 : Int} {r : Int} (h : l_szDoubling a0_0 a0_1 a1 = some r) :
    VCall Try.prog 45 [.agg [i64 a0_0, dI a0_1], i64 a1] [.sc (i64 r)] := by
  unfold l_szDoubling at h
  refine VCall.enter Try.call45 Try.func45 rfl 12 Try.ntmps45 (by simp) [.tmp 4] rfl ?_
  show VW _ _ _ (mk [(0, .val (.agg [i64 a0_0, dI a0_1])), (1, .val (i64 a1))]) _
  -- region 0
  refine VW.ws tau_ok Sound.none [some 2, some 4] [(1, .val (i64 a1)), (2, .val (.ptr [i64 a0_0, dI a0_1]))] rfl ?_ ?_
  · simp <;> simp [ieq, ilt, ile]
  -- region 1
  obtain ⟨v1, hv1, h⟩ := bind_some h
  refine VW.ws tau_ok (Sound.none.add 8 (l_szInt64S_ok hv1) rfl) [some 5, some 6, some 7, some 8, some 1] [(1, .val (i64 v1))] rfl ?_ ?_
  · simp <;> simp [ieq, ilt, ile]
  refine VW.sqc fun K2 hK2 hCK2 => ?_
  -- region 2
  refine VW.ws tau_ok Sound.none [some 9, some 10] [(1, .val (i64 v1)), (10, .val (.bool (ilt v1 0)))] rfl ?_ ?_
  · simp <;> simp [ieq, ilt, ile]
  refine VW.cond rfl (fun hb3 => ?_) (fun hb3 => ?_)
  ·
    replace hb3 : v1 < 0 := by simpa [ieq, ilt, ile] using hb3
    rw [if_pos hb3] at h
    -- region 3
    refine VW.ws tau_ok Sound.none [some 4] [(4, .val (i64 (-1)))] rfl ?_ ?_
    · simp <;> simp [ieq, ilt, ile]
    cases h
    refine VW.ret ?_
    simp [Post, PostM, PostC, PostC2, Nx, Bk]
  replace hb3 : ¬ (v1 < 0) := by simpa [ieq, ilt, ile] using hb3
  rw [if_neg hb3] at h
  refine VW.skip ?_
  refine hK2 _ ?_
  -- region 4
  refine VW.ws tau_ok Sound.none [some 11, some 4] [(4, .val (i64 v1))] rfl ?_ ?_
  · simp <;> simp [ieq, ilt, ile]
  cases h
  refine VW.ret ?_
  simp [Post, PostM, PostC, PostC2, Nx, Bk]

theorem l_toInt64S_ok {a0 : List Int} {r : List Int} (h : l_toInt64S a0 = some r) :
    VCall Try.prog 14 [dI a0] [.own true (dI r)] := by
  unfold l_toInt64S at h
  refine VCall.enter Try.call14 Try.func14 rfl 22 Try.ntmps14 (by simp) [.tmp 2] rfl ?_
  show VW _ _ _ (mk [(0, .val (dI a0))]) _
  -- region 0
  refine VW.ws tau_ok Sound.none [some 2] [(0, .val (dI a0))] rfl ?_ ?_
  · simp <;> simp [ieq, ilt, ile]
  -- region 1
  obtain ⟨hc1, h⟩ := chk_some h
  have hc1s := hc1
  try simp at hc1s
  refine VW.ws tau_ok Sound.none [some 5, some 6, some 7, some 3] [(0, .val (dI a0)), (3, .ref 3 [] true (dI (List.replicate (a0.length : Int).toNat 0)))] rfl ?_ ?_
  · simp [hc1, hc1s] <;> simp [ieq, ilt, ile]
  refine VW.sqc fun K2 hK2 hCK2 => ?_
  -- region 2
  refine VW.ws tau_ok Sound.none [some 4] [(0, .val (dI a0)), (3, .ref 3 [] true (dI (List.replicate (a0.length : Int).toNat 0))), (4, .val (i64 0))] rfl ?_ ?_
  · simp <;> simp [ieq, ilt, ile]
  obtain ⟨x3, hx3, h⟩ := bind_some h
  refine VW.tlE [(3, .ref 3 [] true (dI x3))] (hCK2) ?_ ?_
  · clear hx3
    refine hK2 _ ?_
    -- region 6
    refine VW.ws tau_ok Sound.none [some 21, some 2] [(2, .ref 2 [] true (dI x3))] rfl ?_ ?_
    · simp <;> simp [ieq, ilt, ile]
    cases h
    refine VW.ret ?_
    simp [Post, PostM, PostC, PostC2, Nx, Bk]
  refine VW.block ?_
  refine VW.loopF (l_toInt64S_L0 a0) (fun s3 => [(0, .val (dI a0)), (3, .ref 3 [] true (dI s3.1)), (4, .val (i64 s3.2))]) hx3 (Fits.of rfl) ?_
  clear hx3
  intro s3 ox3 hx3o hx3b
  unfold l_toInt64S_L0 at hx3o
  refine VW.sqc fun K5 hK5 hCK5 => ?_
  -- region 3
  refine VW.ws tau_ok Sound.none [some 8, some 9, some 10, some 11] [(0, .val (dI a0)), (3, .ref 3 [] true (dI s3.1)), (4, .val (i64 s3.2)), (11, .val (.bool (ilt s3.2 (a0.length : Int))))] rfl ?_ ?_
  · simp <;> simp [ieq, ilt, ile]
  refine VW.cond rfl (fun hb6 => ?_) (fun hb6 => ?_)
  rotate_left
  ·
    replace hb6 : ¬ (s3.2 < (a0.length : Int)) := by simpa [ieq, ilt, ile] using hb6
    rw [if_neg hb6] at hx3o
    refine VW.exit ?_
    cases hx3o
    have hq := hx3b _ rfl
    subst hq
    exact Fits.of rfl
  replace hb6 : s3.2 < (a0.length : Int) := by simpa [ieq, ilt, ile] using hb6
  rw [if_pos hb6] at hx3o
  refine VW.skip ?_
  refine hK5 _ ?_
  refine VW.sqc fun K7 hK7 hCK7 => ?_
  refine VW.block ?_
  -- region 5
  obtain ⟨v8, hv8, hx3o⟩ := bind_some hx3o
  obtain ⟨hv8a, hv8b, hv8c, hv8d⟩ := idx_some hv8
  obtain ⟨v9, hv9, hx3o⟩ := bind_some hx3o
  obtain ⟨hv9a, hv9b, hv9c, hv9d⟩ := idx_some hv9
  refine VW.wr tau_ok Sound.none [some 14, some 15, some 16, some 17, some 18, some 19, some 20, none] [(0, .val (dI a0)), (3, .ref 3 [] true (dI (s3.1.set s3.2.toNat v8))), (4, .val (i64 s3.2))] rfl ?_ ?_
  · simp [hv8a, hv8b, hv8c, hv8d, hv9a, hv9b, hv9c, hv9d] <;> simp [ieq, ilt, ile]
  refine hK7 _ ?_
  -- region 4
  refine VW.wr tau_ok Sound.none [some 12, some 13, some 4] [(0, .val (dI a0)), (3, .ref 3 [] true (dI (s3.1.set s3.2.toNat v8))), (4, .val (i64 (w64 (s3.2 + 1))))] rfl ?_ ?_
  · simp <;> simp [ieq, ilt, ile]
  cases hx3o
  exact ⟨_, rfl, Fits.of rfl⟩

theorem l_toDoubling_ok {a0_0 : Int} {a0_1 : List Int} {r : Int × (List Int)} (h : l_toDoubling a0_0 a0_1 = some r) :
    VCall Try.prog 47 [.agg [i64 a0_0, dI a0_1]] [.own true (.agg [i64 r.1, dI r.2])] := by
  unfold l_toDoubling at h
  refine VCall.enterC Try.call47 Try.func47 rfl 12 Try.ntmps47 (by simp) (tau_ok 39) 2 rfl ?_
  show VW _ _ _ (mk [(0, .val (.agg [i64 a0_0, dI a0_1]))]) _
  -- region 0
  refine VW.ws tau_ok Sound.none [some 1, some 2] [(1, .val (.ptr [i64 a0_0, dI a0_1])), (2, .ref 2 [] true (.ptr [i64 0, dI []]))] rfl ?_ ?_
  · simp <;> simp [ieq, ilt, ile]
  -- region 1
  refine VW.ws tau_ok Sound.none [some 3] [(1, .val (.ptr [i64 a0_0, dI a0_1])), (2, .ref 2 [] true (.ptr [i64 0, dI []])), (3, .ref 3 [] true (.ptr [i64 0, dI []]))] rfl ?_ ?_
  · simp <;> simp [ieq, ilt, ile]
  -- region 2
  refine VW.ws tau_ok Sound.none [some 4, some 5, some 6, none] [(1, .val (.ptr [i64 a0_0, dI a0_1])), (2, .ref 2 [] true (.ptr [i64 0, dI []])), (3, .ref 3 [] true (.ptr [i64 a0_0, dI []]))] rfl ?_ ?_
  · simp <;> simp [ieq, ilt, ile]
  -- region 3
  obtain ⟨v1, hv1, h⟩ := bind_some h
  refine VW.ws tau_ok (Sound.none.add 9 (l_toInt64S_ok hv1) rfl) [some 7, some 8, some 9, some 10, none] [(2, .ref 2 [] true (.ptr [i64 0, dI []])), (3, .ref 3 [] true (.ptr [i64 a0_0, dI v1]))] rfl ?_ ?_
  · simp <;> simp [ieq, ilt, ile]
  -- region 4
  refine VW.ws tau_ok Sound.none [some 11, none] [(2, .ref 2 [] true (.ptr [i64 a0_0, dI v1]))] rfl ?_ ?_
  · simp <;> simp [ieq, ilt, ile]
  cases h
  refine VW.ret ?_
  simp [Post, PostM, PostC, PostC2, Nx, Bk]

theorem s_l01Prime_ok {a0 : Int} {r : Bool} (h : s_l01Prime a0 = some r) :
    VCall Try.prog 169 [i64 a0] [.sc (.bool r)] := by
  unfold s_l01Prime at h
  refine VCall.enter Try.call169 Try.func169 rfl 21 Try.ntmps169 (by simp) [.tmp 2] rfl ?_
  show VW _ _ _ (mk [(0, .val (i64 a0))]) _
  -- region 0
  refine VW.ws tau_ok Sound.none [some 2] [(0, .val (i64 a0))] rfl ?_ ?_
  · simp <;> simp [ieq, ilt, ile]
  -- region 1
  obtain ⟨x5, hx5, h⟩ := bind_some h
  refine VW.cut [(2, .val (.bool x5))] ?_ fun hy => ?_
  rotate_left
  · clear h
    by_cases hp1 : a0 = 3
    · rw [if_pos hp1] at hx5
      have hp1b : ieq a0 3 = true := by simpa [ieq, ilt, ile] using hp1
      have hp1s := hp1b
      try simp at hp1s
      cases hx5
      refine VW.ws tau_ok Sound.none [some 3, some 4, some 5, some 6, some 7, some 8, some 9, some 10, some 11, some 12, some 13, some 14, some 15, some 16, some 17, some 18, some 19, some 20, some 2] _ rfl ?_ hy
      simp [hp1b, hp1s] <;> simp [ieq, ilt, ile]
    · rw [if_neg hp1] at hx5
      have hp1b : ieq a0 3 = false := by simpa [ieq, ilt, ile] using hp1
      have hp1s := hp1b
      try simp at hp1s
      by_cases hp2 : a0 = 5
      · rw [if_pos hp2] at hx5
        have hp2b : ieq a0 5 = true := by simpa [ieq, ilt, ile] using hp2
        have hp2s := hp2b
        try simp at hp2s
        cases hx5
        refine VW.ws tau_ok Sound.none [some 3, some 4, some 5, some 6, some 7, some 8, some 9, some 10, some 11, some 12, some 13, some 14, some 15, some 16, some 17, some 18, some 19, some 20, some 2] _ rfl ?_ hy
        simp [hp1b, hp1s, hp2b, hp2s] <;> simp [ieq, ilt, ile]
      · rw [if_neg hp2] at hx5
        have hp2b : ieq a0 5 = false := by simpa [ieq, ilt, ile] using hp2
        have hp2s := hp2b
        try simp at hp2s
        by_cases hp3 : a0 = 7
        · rw [if_pos hp3] at hx5
          have hp3b : ieq a0 7 = true := by simpa [ieq, ilt, ile] using hp3
          have hp3s := hp3b
          try simp at hp3s
          cases hx5
          refine VW.ws tau_ok Sound.none [some 3, some 4, some 5, some 6, some 7, some 8, some 9, some 10, some 11, some 12, some 13, some 14, some 15, some 16, some 17, some 18, some 19, some 20, some 2] _ rfl ?_ hy
          simp [hp1b, hp1s, hp2b, hp2s, hp3b, hp3s] <;> simp [ieq, ilt, ile]
        · rw [if_neg hp3] at hx5
          have hp3b : ieq a0 7 = false := by simpa [ieq, ilt, ile] using hp3
          have hp3s := hp3b
          try simp at hp3s
          by_cases hp4 : a0 = 11
          · rw [if_pos hp4] at hx5
            have hp4b : ieq a0 11 = true := by simpa [ieq, ilt, ile] using hp4
            have hp4s := hp4b
            try simp at hp4s
            cases hx5
            refine VW.ws tau_ok Sound.none [some 3, some 4, some 5, some 6, some 7, some 8, some 9, some 10, some 11, some 12, some 13, some 14, some 15, some 16, some 17, some 18, some 19, some 20, some 2] _ rfl ?_ hy
            simp [hp1b, hp1s, hp2b, hp2s, hp3b, hp3s, hp4b, hp4s] <;> simp [ieq, ilt, ile]
          · rw [if_neg hp4] at hx5
            have hp4b : ieq a0 11 = false := by simpa [ieq, ilt, ile] using hp4
            have hp4s := hp4b
            try simp at hp4s
            cases hx5
            refine VW.ws tau_ok Sound.none [some 3, some 4, some 5, some 6, some 7, some 8, some 9, some 10, some 11, some 12, some 13, some 14, some 15, some 16, some 17, some 18, some 19, some 20, some 2] _ rfl ?_ hy
            simp [hp1b, hp1s, hp2b, hp2s, hp3b, hp3s, hp4b, hp4s] <;> simp [ieq, ilt, ile]
  cases h
  refine VW.ret ?_
  simp [Post, PostM, PostC, PostC2, Nx, Bk]

theorem s_l01In_ok {a0 : Int} {a1 : Int} {a2 : Int} {r : Bool} (h : s_l01In a0 a1 a2 = some r) :
    VCall Try.prog 76 [i64 a0, i64 a1, i64 a2] [.sc (.bool r)] := by
  unfold s_l01In at h
  refine VCall.enter Try.call76 Try.func76 rfl 15 Try.ntmps76 (by simp) [.tmp 6] rfl ?_
  show VW _ _ _ (mk [(0, .val (i64 a0)), (1, .val (i64 a1)), (2, .val (i64 a2))]) _
  -- region 0
  refine VW.ws tau_ok Sound.none [some 6] [(0, .val (i64 a0)), (1, .val (i64 a1)), (2, .val (i64 a2))] rfl ?_ ?_
  · simp <;> simp [ieq, ilt, ile]
  -- region 1
  obtain ⟨x2, hx2, h⟩ := bind_some h
  refine VW.cut [(6, .val (.bool x2))] ?_ fun hy => ?_
  rotate_left
  · clear h
    by_cases hp1 : a1 ≤ a0
    · rw [if_pos hp1] at hx2
      have hp1b : ile a1 a0 = true := by simpa [ieq, ilt, ile] using hp1
      have hp1s := hp1b
      try simp at hp1s
      cases hx2
      refine VW.ws tau_ok Sound.none [some 7, some 8, some 9, some 10, some 11, some 12, some 13, some 14, some 6] _ rfl ?_ hy
      simp [hp1b, hp1s] <;> simp [ieq, ilt, ile]
    · rw [if_neg hp1] at hx2
      have hp1b : ile a1 a0 = false := by simpa [ieq, ilt, ile] using hp1
      have hp1s := hp1b
      try simp at hp1s
      cases hx2
      refine VW.ws tau_ok Sound.none [some 7, some 8, some 9, some 10, some 11, some 12, some 13, some 14, some 6] _ rfl ?_ hy
      simp [hp1b, hp1s] <;> simp [ieq, ilt, ile]
  cases h
  refine VW.ret ?_
  simp [Post, PostM, PostC, PostC2, Nx, Bk]

theorem s_l11Is_ok {a0_0 : Int} {a0_1 : List Int} {r : Bool} (h : s_l11Is a0_0 a0_1 = some r) :
    VCall Try.prog 93 [.agg [i64 a0_0, dI a0_1]] [.sc (.bool r)] := by
  unfold s_l11Is at h
  refine VCall.enter Try.call93 Try.func93 rfl 31 Try.ntmps93 (by simp) [.tmp 2] rfl ?_
  show VW _ _ _ (mk [(0, .val (.agg [i64 a0_0, dI a0_1]))]) _
  -- region 0
  refine VW.ws tau_ok Sound.none [some 1, some 2] [(1, .val (.ptr [i64 a0_0, dI a0_1]))] rfl ?_ ?_
  · simp <;> simp [ieq, ilt, ile]
  refine VW.sqc fun K1 hK1 hCK1 => ?_
  -- region 1
  obtain ⟨x4, hx4, h⟩ := bind_some h
  refine VW.cut [(1, .val (.ptr [i64 a0_0, dI a0_1])), (13, .val (.bool x4))] ?_ fun hy => ?_
  rotate_left
  · clear h
    obtain ⟨v2, hv2, hx4⟩ := bind_some hx4
    by_cases hp3 : v2 = false
    · rw [if_pos hp3] at hx4
      have hp3b : v2 = false := by simpa [ieq, ilt, ile] using hp3
      have hp3s := hp3b
      try simp at hp3s
      cases hx4
      refine VW.ws tau_ok (Sound.none.add 6 (s_l01Prime_ok hv2) rfl) [some 4, some 5, some 6, some 7, some 8, some 9, some 10, some 11, some 12, some 13] _ rfl ?_ hy
      simp [hp3b, hp3s] <;> simp [ieq, ilt, ile]
    · rw [if_neg hp3] at hx4
      have hp3b : v2 = true := by simpa [ieq, ilt, ile] using hp3
      have hp3s := hp3b
      try simp at hp3s
      cases hx4
      refine VW.ws tau_ok (Sound.none.add 6 (s_l01Prime_ok hv2) rfl) [some 4, some 5, some 6, some 7, some 8, some 9, some 10, some 11, some 12, some 13] _ rfl ?_ hy
      simp [hp3b, hp3s] <;> simp [ieq, ilt, ile]
  refine VW.cond rfl (fun hb5 => ?_) (fun hb5 => ?_)
  ·
    replace hb5 : x4 = true := by simpa [ieq, ilt, ile] using hb5
    rw [if_pos hb5] at h
    -- region 2
    refine VW.ws tau_ok Sound.none [some 2] [(2, .val (.bool false))] rfl ?_ ?_
    · simp <;> simp [ieq, ilt, ile]
    cases h
    refine VW.ret ?_
    simp [Post, PostM, PostC, PostC2, Nx, Bk]
  replace hb5 : ¬ (x4 = true) := by simpa [ieq, ilt, ile] using hb5
  rw [if_neg hb5] at h
  refine VW.skip ?_
  refine hK1 _ ?_
  refine VW.sqc fun K6 hK6 hCK6 => ?_
  -- region 3
  refine VW.ws tau_ok Sound.none [some 3] [(1, .val (.ptr [i64 a0_0, dI a0_1])), (3, .val (i64 0))] rfl ?_ ?_
  · simp <;> simp [ieq, ilt, ile]
  obtain ⟨x7, hx7, h⟩ := bind_some h
  refine VW.tlO (fun y9 => []) x7 (hCK6) ?_ ?_
  · clear hx7
    rintro y9 rfl
    dsimp only at h
    refine hK6 _ ?_
    -- region 8
    refine VW.ws tau_ok Sound.none [some 2] [(2, .val (.bool true))] rfl ?_ ?_
    · simp <;> simp [ieq, ilt, ile]
    cases h
    refine VW.ret ?_
    simp [Post, PostM, PostC, PostC2, Nx, Bk]
  refine VW.block ?_
  refine VW.loopF (s_l11Is_L0 a0_0 a0_1) (fun s7 => [(1, .val (.ptr [i64 a0_0, dI a0_1])), (3, .val (i64 s7))]) hx7 (Fits.of rfl) ?_
  clear hx7
  intro s7 ox7 hx7o hx7b
  unfold s_l11Is_L0 at hx7o
  refine VW.sqc fun K10 hK10 hCK10 => ?_
  -- region 4
  refine VW.ws tau_ok Sound.none [some 14, some 15, some 16, some 17, some 18] [(1, .val (.ptr [i64 a0_0, dI a0_1])), (3, .val (i64 s7)), (18, .val (.bool (ilt s7 (a0_1.length : Int))))] rfl ?_ ?_
  · simp <;> simp [ieq, ilt, ile]
  refine VW.cond rfl (fun hb11 => ?_) (fun hb11 => ?_)
  rotate_left
  ·
    replace hb11 : ¬ (s7 < (a0_1.length : Int)) := by simpa [ieq, ilt, ile] using hb11
    rw [if_neg hb11] at hx7o
    refine VW.exit ?_
    cases hx7o
    have hq := hx7b _ rfl
    subst hq
    exact ⟨_, rfl, Fits.of rfl⟩
  replace hb11 : s7 < (a0_1.length : Int) := by simpa [ieq, ilt, ile] using hb11
  rw [if_pos hb11] at hx7o
  refine VW.skip ?_
  refine hK10 _ ?_
  refine VW.sqc fun K12 hK12 hCK12 => ?_
  refine VW.block ?_
  -- region 6
  obtain ⟨v13, hv13, hx7o⟩ := bind_some hx7o
  obtain ⟨hv13a, hv13b, hv13c, hv13d⟩ := idx_some hv13
  obtain ⟨v14, hv14, hx7o⟩ := bind_some hx7o
  refine VW.wds tau_ok (Sound.none.add 29 (s_l01In_ok hv14) rfl) try_mixed [some 21, some 22, some 23, some 24, some 25, some 26, some 27, some 28, some 29, some 30] [(1, .val (.ptr [i64 a0_0, dI a0_1])), (3, .val (i64 s7)), (30, .val (.bool (!v14)))] 10 rfl (by kernel_rfl) (by rfl) ?_ ?_
  · simp [hv13a, hv13b, hv13c, hv13d] <;> simp [ieq, ilt, ile]
  refine VW.cond rfl (fun hb15 => ?_) (fun hb15 => ?_)
  rotate_left
  ·
    replace hb15 : ¬ (v14 = false) := by simpa [ieq, ilt, ile] using hb15
    rw [if_neg hb15] at hx7o
    refine VW.skip ?_
    refine hK12 _ ?_
    -- region 5
    refine VW.wr tau_ok Sound.none [some 19, some 20, some 3] [(1, .val (.ptr [i64 a0_0, dI a0_1])), (3, .val (i64 (w64 (s7 + 1))))] rfl ?_ ?_
    · simp <;> simp [ieq, ilt, ile]
    cases hx7o
    exact ⟨_, rfl, Fits.of rfl⟩
  replace hb15 : v14 = false := by simpa [ieq, ilt, ile] using hb15
  rw [if_pos hb15] at hx7o
  -- region 7
  refine VW.ws tau_ok Sound.none [some 2] [(2, .val (.bool false))] rfl ?_ ?_
  · simp <;> simp [ieq, ilt, ile]
  cases hx7o
  have hq := hx7b _ rfl
  subst hq
  dsimp only at h
  cases h
  refine VW.ret ?_
  simp [Post, PostM, PostC, PostC2, Nx, Bk]

theorem s_l14Code_ok {a0_0 : Int} {a0_1 : List Int} {r : Int} (h : s_l14Code a0_0 a0_1 = some r) :
    VCall Try.prog 111 [.agg [i64 a0_0, dI a0_1]] [.sc (i64 r)] := by
  unfold s_l14Code at h
  refine VCall.enter Try.call111 Try.func111 rfl 12 Try.ntmps111 (by simp) [.tmp 2] rfl ?_
  show VW _ _ _ (mk [(0, .val (.agg [i64 a0_0, dI a0_1]))]) _
  -- region 0
  refine VW.ws tau_ok Sound.none [some 1, some 2] [(1, .val (.ptr [i64 a0_0, dI a0_1]))] rfl ?_ ?_
  · simp <;> simp [ieq, ilt, ile]
  refine VW.sqc fun K1 hK1 hCK1 => ?_
  refine VW.block ?_
  -- region 1
  obtain ⟨v2, hv2, h⟩ := bind_some h
  refine VW.ws tau_ok (Sound.none.add 5 (s_l11Is_ok hv2) rfl) [some 4, some 5, some 6, some 3] [(1, .val (.ptr [i64 a0_0, dI a0_1])), (3, .val (.bool (!v2)))] rfl ?_ ?_
  · simp <;> simp [ieq, ilt, ile]
  refine VW.cond rfl (fun hb3 => ?_) (fun hb3 => ?_)
  ·
    replace hb3 : v2 = false := by simpa [ieq, ilt, ile] using hb3
    rw [if_pos hb3] at h
    -- region 2
    refine VW.ws tau_ok Sound.none [some 2] [(2, .val (i64 1))] rfl ?_ ?_
    · simp <;> simp [ieq, ilt, ile]
    cases h
    refine VW.ret ?_
    simp [Post, PostM, PostC, PostC2, Nx, Bk]
  replace hb3 : ¬ (v2 = false) := by simpa [ieq, ilt, ile] using hb3
  rw [if_neg hb3] at h
  -- region 3
  refine VW.ws tau_ok Sound.none [some 8, some 9, some 10, some 11, some 7] [(7, .val (.bool (ilt 3 (a0_1.length : Int))))] rfl ?_ ?_
  · simp <;> simp [ieq, ilt, ile]
  refine VW.cond rfl (fun hb4 => ?_) (fun hb4 => ?_)
  ·
    replace hb4 : 3 < (a0_1.length : Int) := by simpa [ieq, ilt, ile] using hb4
    rw [if_pos hb4] at h
    -- region 4
    refine VW.ws tau_ok Sound.none [some 2] [(2, .val (i64 3))] rfl ?_ ?_
    · simp <;> simp [ieq, ilt, ile]
    cases h
    refine VW.ret ?_
    simp [Post, PostM, PostC, PostC2, Nx, Bk]
  replace hb4 : ¬ (3 < (a0_1.length : Int)) := by simpa [ieq, ilt, ile] using hb4
  rw [if_neg hb4] at h
  refine VW.skip ?_
  refine hK1 _ ?_
  -- region 5
  refine VW.ws tau_ok Sound.none [some 2] [(2, .val (i64 0))] rfl ?_ ?_
  · simp <;> simp [ieq, ilt, ile]
  cases h
  refine VW.ret ?_
  simp [Post, PostM, PostC, PostC2, Nx, Bk]

theorem s_l11Size_ok {a0_0 : Int} {a0_1 : List Int} {r : Int} (h : s_l11Size a0_0 a0_1 = some r) :
    VCall Try.prog 95 [.agg [i64 a0_0, dI a0_1]] [.sc (i64 r)] := by
  unfold s_l11Size at h
  refine VCall.enter Try.call95 Try.func95 rfl 8 Try.ntmps95 (by simp) [.tmp 2] rfl ?_
  show VW _ _ _ (mk [(0, .val (.agg [i64 a0_0, dI a0_1]))]) _
  -- region 0
  refine VW.ws tau_ok Sound.none [some 1, some 2] [(1, .val (.ptr [i64 a0_0, dI a0_1]))] rfl ?_ ?_
  · simp <;> simp [ieq, ilt, ile]
  -- region 1
  obtain ⟨hc1, h⟩ := chk_some h
  have hc1s := hc1
  try simp at hc1s
  refine VW.ws tau_ok Sound.none [some 3, some 4, some 5, some 6, some 7, some 2] [(2, .val (i64 (shl .i64 1 (IntKind.u64.wrap ((a0_1.length : Int))))))] rfl ?_ ?_
  · simp [hc1, hc1s] <;> simp [ieq, ilt, ile]
  cases h
  refine VW.ret ?_
  simp [Post, PostM, PostC, PostC2, Nx, Bk]

theorem s_l11One_ok {a0_0 : Int} {a0_1 : List Int} {a1 : Int} {r : List Int} (h : s_l11One a0_0 a0_1 a1 = some r) :
    VCall Try.prog 171 [.agg [i64 a0_0, dI a0_1], i64 a1] [.own true (dI r)] := by
  unfold s_l11One at h
  refine VCall.enter Try.call171 Try.func171 rfl 13 Try.ntmps171 (by simp) [.tmp 4] rfl ?_
  show VW _ _ _ (mk [(0, .val (.agg [i64 a0_0, dI a0_1])), (1, .val (i64 a1))]) _
  -- region 0
  refine VW.ws tau_ok Sound.none [some 2, some 4] [(1, .val (i64 a1)), (2, .val (.ptr [i64 a0_0, dI a0_1]))] rfl ?_ ?_
  · simp <;> simp [ieq, ilt, ile]
  -- region 1
  obtain ⟨v1, hv1, h⟩ := bind_some h
  obtain ⟨hc2, h⟩ := chk_some h
  have hc2s := hc2
  try simp at hc2s
  refine VW.ws tau_ok (Sound.none.add 7 (s_l11Size_ok hv1) rfl) [some 6, some 7, some 8, some 5] [(1, .val (i64 a1)), (5, .ref 5 [] true (dI (List.replicate v1.toNat 0)))] rfl ?_ ?_
  · simp [hc2, hc2s] <;> simp [ieq, ilt, ile]
  obtain ⟨l3, hl3, h⟩ := bind_some h
  rw [Option.some.inj hl3]
  -- region 2
  obtain ⟨v4, hv4, h⟩ := bind_some h
  obtain ⟨hv4a, hv4b, hv4c, hv4d⟩ := idx_some hv4
  refine VW.ws tau_ok Sound.none [some 9, some 10, some 11, none] [(5, .ref 5 [] true (dI (l3.set a1.toNat 1)))] rfl ?_ ?_
  · simp [hv4a, hv4b, hv4c, hv4d] <;> simp [ieq, ilt, ile]
  -- region 3
  refine VW.ws tau_ok Sound.none [some 12, some 4] [(4, .ref 4 [] true (dI (l3.set a1.toNat 1)))] rfl ?_ ?_
  · simp <;> simp [ieq, ilt, ile]
  cases h
  refine VW.ret ?_
  simp [Post, PostM, PostC, PostC2, Nx, Bk]

theorem s_l01Mod_ok {a0 : Int} {a1 : Int} {r : Int} (h : s_l01Mod a0 a1 = some r) :
    VCall Try.prog 190 [i64 a0, i64 a1] [.sc (i64 r)] := by
  unfold s_l01Mod at h
  refine VCall.enter Try.call190 Try.func190 rfl 12 Try.ntmps190 (by simp) [.tmp 4] rfl ?_
  show VW _ _ _ (mk [(0, .val (i64 a0)), (1, .val (i64 a1))]) _
  -- region 0
  refine VW.ws tau_ok Sound.none [some 4] [(0, .val (i64 a0)), (1, .val (i64 a1))] rfl ?_ ?_
  · simp <;> simp [ieq, ilt, ile]
  -- region 1
  obtain ⟨hc1, h⟩ := chk_some h
  have hc1s := hc1
  try simp at hc1s
  obtain ⟨hc2, h⟩ := chk_some h
  have hc2s := hc2
  try simp at hc2s
  refine VW.ws tau_ok Sound.none [some 5, some 6, some 7, some 8, some 9, some 10, some 11, some 4] [(4, .val (i64 ((w64 ((a1.tmod a0) + a0)).tmod a0)))] rfl ?_ ?_
  · simp [hc1, hc1s, hc2, hc2s] <;> simp [ieq, ilt, ile]
  cases h
  refine VW.ret ?_
  simp [Post, PostM, PostC, PostC2, Nx, Bk]

theorem s_l11Scale_ok {a0 : Int} {a1 : Int} {a2 : List Int} {r : List Int} (h : s_l11Scale a0 a1 a2 = some r) :
    VCall Try.prog 223 [i64 a0, i64 a1, dI a2] [.own true (dI r)] := by
  unfold s_l11Scale at h
  refine VCall.enter Try.call223 Try.func223 rfl 28 Try.ntmps223 (by simp) [.tmp 6] rfl ?_
  show VW _ _ _ (mk [(0, .val (i64 a0)), (1, .val (i64 a1)), (2, .val (dI a2))]) _
  -- region 0
  refine VW.ws tau_ok Sound.none [some 6] [(0, .val (i64 a0)), (1, .val (i64 a1)), (2, .val (dI a2))] rfl ?_ ?_
  · simp <;> simp [ieq, ilt, ile]
  -- region 1
  refine VW.ws tau_ok Sound.none [some 9, some 7] [(0, .val (i64 a0)), (1, .val (i64 a1)), (2, .val (dI a2)), (7, .ref 7 [] true (dI []))] rfl ?_ ?_
  · simp <;> simp [ieq, ilt, ile]
  refine VW.sqc fun K1 hK1 hCK1 => ?_
  -- region 2
  refine VW.ws tau_ok Sound.none [some 8] [(0, .val (i64 a0)), (1, .val (i64 a1)), (2, .val (dI a2)), (7, .ref 7 [] true (dI [])), (8, .val (i64 0))] rfl ?_ ?_
  · simp <;> simp [ieq, ilt, ile]
  obtain ⟨x2, hx2, h⟩ := bind_some h
  refine VW.tlE [(7, .ref 7 [] true (dI x2))] (hCK1) ?_ ?_
  · clear hx2
    refine hK1 _ ?_
    -- region 6
    refine VW.ws tau_ok Sound.none [some 27, some 6] [(6, .ref 6 [] true (dI x2))] rfl ?_ ?_
    · simp <;> simp [ieq, ilt, ile]
    cases h
    refine VW.ret ?_
    simp [Post, PostM, PostC, PostC2, Nx, Bk]
  refine VW.block ?_
  refine VW.loopF (s_l11Scale_L0 a0 a1 a2) (fun s2 => [(0, .val (i64 a0)), (1, .val (i64 a1)), (2, .val (dI a2)), (7, .ref 7 [] true (dI s2.1)), (8, .val (i64 s2.2))]) hx2 (Fits.of rfl) ?_
  clear hx2
  intro s2 ox2 hx2o hx2b
  unfold s_l11Scale_L0 at hx2o
  refine VW.sqc fun K4 hK4 hCK4 => ?_
  -- region 3
  refine VW.ws tau_ok Sound.none [some 10, some 11, some 12, some 13] [(0, .val (i64 a0)), (1, .val (i64 a1)), (2, .val (dI a2)), (7, .ref 7 [] true (dI s2.1)), (8, .val (i64 s2.2)), (13, .val (.bool (ilt s2.2 (a2.length : Int))))] rfl ?_ ?_
  · simp <;> simp [ieq, ilt, ile]
  refine VW.cond rfl (fun hb5 => ?_) (fun hb5 => ?_)
  rotate_left
  ·
    replace hb5 : ¬ (s2.2 < (a2.length : Int)) := by simpa [ieq, ilt, ile] using hb5
    rw [if_neg hb5] at hx2o
    refine VW.exit ?_
    cases hx2o
    have hq := hx2b _ rfl
    subst hq
    exact Fits.of rfl
  replace hb5 : s2.2 < (a2.length : Int) := by simpa [ieq, ilt, ile] using hb5
  rw [if_pos hb5] at hx2o
  refine VW.skip ?_
  refine hK4 _ ?_
  refine VW.sqc fun K6 hK6 hCK6 => ?_
  refine VW.block ?_
  -- region 5
  obtain ⟨v7, hv7, hx2o⟩ := bind_some hx2o
  obtain ⟨hv7a, hv7b, hv7c, hv7d⟩ := idx_some hv7
  obtain ⟨v8, hv8, hx2o⟩ := bind_some hx2o
  obtain ⟨hc9, hx2o⟩ := chk_some hx2o
  have hc9s := hc9
  try simp at hc9s
  refine VW.wr tau_ok (Sound.none.add 24 (s_l01Mod_ok hv8) rfl) [some 16, some 17, some 18, some 19, some 20, some 21, some 22, some 23, some 24, some 25, some 26, some 7] [(0, .val (i64 a0)), (1, .val (i64 a1)), (2, .val (dI a2)), (7, .ref 7 [] true (dI (s2.1 ++ [v8]))), (8, .val (i64 s2.2))] rfl ?_ ?_
  · simp [hv7a, hv7b, hv7c, hv7d, hc9, hc9s] <;> simp [ieq, ilt, ile]
  refine hK6 _ ?_
  -- region 4
  refine VW.wr tau_ok Sound.none [some 14, some 15, some 8] [(0, .val (i64 a0)), (1, .val (i64 a1)), (2, .val (dI a2)), (7, .ref 7 [] true (dI (s2.1 ++ [v8]))), (8, .val (i64 (w64 (s2.2 + 1))))] rfl ?_ ?_
  · simp <;> simp [ieq, ilt, ile]
  cases hx2o
  exact ⟨_, rfl, Fits.of rfl⟩

theorem s_l11Star_ok {a0 : Int} {a1 : List Int} {r : List Int} (h : s_l11Star a0 a1 = some r) :
    VCall Try.prog 247 [i64 a0, dI a1] [.own true (dI r)] := by
  unfold s_l11Star at h
  refine VCall.enter Try.call247 Try.func247 rfl 17 Try.ntmps247 (by simp) [.tmp 4] rfl ?_
  show VW _ _ _ (mk [(0, .val (i64 a0)), (1, .val (dI a1))]) _
  -- region 0
  refine VW.ws tau_ok Sound.none [some 4] [(0, .val (i64 a0)), (1, .val (dI a1))] rfl ?_ ?_
  · simp <;> simp [ieq, ilt, ile]
  -- region 1
  obtain ⟨v1, hv1, h⟩ := bind_some h
  refine VW.ws tau_ok (Sound.none.add 10 (s_l11Scale_ok hv1) rfl) [some 6, some 7, some 8, some 9, some 10, some 5] [(1, .val (dI a1)), (5, .ref 5 [] true (dI v1))] rfl ?_ ?_
  · simp <;> simp [ieq, ilt, ile]
  -- region 2
  obtain ⟨v2, hv2, h⟩ := bind_some h
  obtain ⟨hv2a, hv2b, hv2c, hv2d⟩ := idx_some hv2
  replace hv2b : 0 < a1.length := hv2b
  replace hv2c : a1[0]? = some v2 := hv2c
  replace hv2d : ∀ h, a1[0]'h = v2 := hv2d
  obtain ⟨v3, hv3, h⟩ := bind_some h
  obtain ⟨hv3a, hv3b, hv3c, hv3d⟩ := idx_some hv3
  replace hv3b : 0 < v1.length := hv3b
  replace hv3c : v1[0]? = some v3 := hv3c
  replace hv3d : ∀ h, v1[0]'h = v3 := hv3d
  refine VW.ws tau_ok Sound.none [some 11, some 12, some 13, some 14, some 15, none] [(5, .ref 5 [] true (dI (v1.set 0 v2)))] rfl ?_ ?_
  · simp [hv2a, hv2b, hv2c, hv2d, hv3a, hv3b, hv3c, hv3d] <;> simp [ieq, ilt, ile]
  -- region 3
  refine VW.ws tau_ok Sound.none [some 16, some 4] [(4, .ref 4 [] true (dI (v1.set 0 v2)))] rfl ?_ ?_
  · simp <;> simp [ieq, ilt, ile]
  cases h
  refine VW.ret ?_
  simp [Post, PostM, PostC, PostC2, Nx, Bk]

theorem s_l11Add_ok {a0 : Int} {a1 : List Int} {a2 : List Int} {r : List Int} (h : s_l11Add a0 a1 a2 = some r) :
    VCall Try.prog 246 [i64 a0, dI a1, dI a2] [.own true (dI r)] := by
  unfold s_l11Add at h
  refine VCall.enter Try.call246 Try.func246 rfl 31 Try.ntmps246 (by simp) [.tmp 6] rfl ?_
  show VW _ _ _ (mk [(0, .val (i64 a0)), (1, .val (dI a1)), (2, .val (dI a2))]) _
  -- region 0
  refine VW.ws tau_ok Sound.none [some 6] [(0, .val (i64 a0)), (1, .val (dI a1)), (2, .val (dI a2))] rfl ?_ ?_
  · simp <;> simp [ieq, ilt, ile]
  -- region 1
  refine VW.ws tau_ok Sound.none [some 9, some 7] [(0, .val (i64 a0)), (1, .val (dI a1)), (2, .val (dI a2)), (7, .ref 7 [] true (dI []))] rfl ?_ ?_
  · simp <;> simp [ieq, ilt, ile]
  refine VW.sqc fun K1 hK1 hCK1 => ?_
  -- region 2
  refine VW.ws tau_ok Sound.none [some 8] [(0, .val (i64 a0)), (1, .val (dI a1)), (2, .val (dI a2)), (7, .ref 7 [] true (dI [])), (8, .val (i64 0))] rfl ?_ ?_
  · simp <;> simp [ieq, ilt, ile]
  obtain ⟨x2, hx2, h⟩ := bind_some h
  refine VW.tlE [(7, .ref 7 [] true (dI x2))] (hCK1) ?_ ?_
  · clear hx2
    refine hK1 _ ?_
    -- region 6
    refine VW.ws tau_ok Sound.none [some 30, some 6] [(6, .ref 6 [] true (dI x2))] rfl ?_ ?_
    · simp <;> simp [ieq, ilt, ile]
    cases h
    refine VW.ret ?_
    simp [Post, PostM, PostC, PostC2, Nx, Bk]
  refine VW.block ?_
  refine VW.loopF (s_l11Add_L0 a0 a1 a2) (fun s2 => [(0, .val (i64 a0)), (1, .val (dI a1)), (2, .val (dI a2)), (7, .ref 7 [] true (dI s2.1)), (8, .val (i64 s2.2))]) hx2 (Fits.of rfl) ?_
  clear hx2
  intro s2 ox2 hx2o hx2b
  unfold s_l11Add_L0 at hx2o
  refine VW.sqc fun K4 hK4 hCK4 => ?_
  -- region 3
  refine VW.ws tau_ok Sound.none [some 10, some 11, some 12, some 13] [(0, .val (i64 a0)), (1, .val (dI a1)), (2, .val (dI a2)), (7, .ref 7 [] true (dI s2.1)), (8, .val (i64 s2.2)), (13, .val (.bool (ilt s2.2 (a1.length : Int))))] rfl ?_ ?_
  · simp <;> simp [ieq, ilt, ile]
  refine VW.cond rfl (fun hb5 => ?_) (fun hb5 => ?_)
  rotate_left
  ·
    replace hb5 : ¬ (s2.2 < (a1.length : Int)) := by simpa [ieq, ilt, ile] using hb5
    rw [if_neg hb5] at hx2o
    refine VW.exit ?_
    cases hx2o
    have hq := hx2b _ rfl
    subst hq
    exact Fits.of rfl
  replace hb5 : s2.2 < (a1.length : Int) := by simpa [ieq, ilt, ile] using hb5
  rw [if_pos hb5] at hx2o
  refine VW.skip ?_
  refine hK4 _ ?_
  refine VW.sqc fun K6 hK6 hCK6 => ?_
  refine VW.block ?_
  -- region 5
  obtain ⟨v7, hv7, hx2o⟩ := bind_some hx2o
  obtain ⟨hv7a, hv7b, hv7c, hv7d⟩ := idx_some hv7
  obtain ⟨v8, hv8, hx2o⟩ := bind_some hx2o
  obtain ⟨hv8a, hv8b, hv8c, hv8d⟩ := idx_some hv8
  obtain ⟨v9, hv9, hx2o⟩ := bind_some hx2o
  obtain ⟨hc10, hx2o⟩ := chk_some hx2o
  have hc10s := hc10
  try simp at hc10s
  refine VW.wdr tau_ok (Sound.none.add 27 (s_l01Mod_ok hv9) rfl) try_mixed [some 16, some 17, some 18, some 19, some 20, some 21, some 22, some 23, some 24, some 25, some 26, some 27, some 28, some 29, some 7] [(0, .val (i64 a0)), (1, .val (dI a1)), (2, .val (dI a2)), (7, .ref 7 [] true (dI (s2.1 ++ [v9]))), (8, .val (i64 s2.2))] 13 rfl (by kernel_rfl) (by rfl) ?_ ?_
  · simp [hv7a, hv7b, hv7c, hv7d, hv8a, hv8b, hv8c, hv8d, hc10, hc10s] <;> simp [ieq, ilt, ile]
  refine hK6 _ ?_
  -- region 4
  refine VW.wr tau_ok Sound.none [some 14, some 15, some 8] [(0, .val (i64 a0)), (1, .val (dI a1)), (2, .val (dI a2)), (7, .ref 7 [] true (dI (s2.1 ++ [v9]))), (8, .val (i64 (w64 (s2.2 + 1))))] rfl ?_ ?_
  · simp <;> simp [ieq, ilt, ile]
  cases hx2o
  exact ⟨_, rfl, Fits.of rfl⟩

theorem s_l11Mul_b_ok {self : Int → (List Int) → (List Int) → (List Int) → Option (List Int)} (hself : ∀ {a0 a1 a2 a3} {r : List Int}, self a0 a1 a2 a3 = some r → VCall Try.prog 221 [i64 a0, dI a1, dI a2, dI a3] [.own true (dI r)]) {a0 : Int} {a1 : List Int} {a2 : List Int} {a3 : List Int} {r : List Int} (h : s_l11Mul_b self a0 a1 a2 a3 = some r) :
    VCall Try.prog 221 [i64 a0, dI a1, dI a2, dI a3] [.own true (dI r)] := by
  unfold s_l11Mul_b at h
  refine VCall.enter Try.call221 Try.func221 rfl 91 Try.ntmps221 (by simp) [.tmp 8] rfl ?_
  show VW _ _ _ (mk [(0, .val (i64 a0)), (1, .val (dI a1)), (2, .val (dI a2)), (3, .val (dI a3))]) _
  -- region 0
  refine VW.ws tau_ok Sound.none [some 8] [(0, .val (i64 a0)), (1, .val (dI a1)), (2, .val (dI a2)), (3, .val (dI a3))] rfl ?_ ?_
  · simp <;> simp [ieq, ilt, ile]
  refine VW.sqc fun K1 hK1 hCK1 => ?_
  -- region 1
  refine VW.ws tau_ok Sound.none [some 19, some 20, some 21] [(0, .val (i64 a0)), (1, .val (dI a1)), (2, .val (dI a2)), (3, .val (dI a3)), (21, .val (.bool (ieq (a1.length : Int) 0)))] rfl ?_ ?_
  · simp <;> simp [ieq, ilt, ile]
  refine VW.cond rfl (fun hb2 => ?_) (fun hb2 => ?_)
  ·
    replace hb2 : (a1.length : Int) = 0 := by simpa [ieq, ilt, ile] using hb2
    rw [if_pos hb2] at h
    -- region 2
    obtain ⟨v3, hv3, h⟩ := bind_some h
    obtain ⟨hv3a, hv3b, hv3c, hv3d⟩ := idx_some hv3
    replace hv3b : 0 < a2.length := hv3b
    replace hv3c : a2[0]? = some v3 := hv3c
    replace hv3d : ∀ h, a2[0]'h = v3 := hv3d
    obtain ⟨v4, hv4, h⟩ := bind_some h
    obtain ⟨hv4a, hv4b, hv4c, hv4d⟩ := idx_some hv4
    replace hv4b : 0 < a3.length := hv4b
    replace hv4c : a3[0]? = some v4 := hv4c
    replace hv4d : ∀ h, a3[0]'h = v4 := hv4d
    obtain ⟨v5, hv5, h⟩ := bind_some h
    refine VW.wds tau_ok (Sound.none.add 30 (s_l01Mod_ok hv5) rfl) try_mixed [some 22, some 23, some 24, some 25, some 26, some 27, some 28, some 29, some 30, some 31, some 8] [(8, .ref 8 [] true (dI [v5]))] 10 rfl (by kernel_rfl) (by rfl) ?_ ?_
    · simp [hv3a, hv3b, hv3c, hv3d, hv4a, hv4b, hv4c, hv4d] <;> simp [ieq, ilt, ile]
    cases h
    refine VW.ret ?_
    simp [Post, PostM, PostC, PostC2, Nx, Bk]
  replace hb2 : ¬ ((a1.length : Int) = 0) := by simpa [ieq, ilt, ile] using hb2
  rw [if_neg hb2] at h
  refine VW.skip ?_
  refine hK1 _ ?_
  -- region 3
  refine VW.ws tau_ok Sound.none [some 32, some 33, some 34, some 9] [(0, .val (i64 a0)), (1, .val (dI a1)), (2, .val (dI a2)), (3, .val (dI a3)), (9, .val (i64 (w64 ((a1.length : Int) - 1))))] rfl ?_ ?_
  · simp <;> simp [ieq, ilt, ile]
  -- region 4
  obtain ⟨hc6, h⟩ := chk_some h
  have hc6s := hc6
  try simp at hc6s
  obtain ⟨v7, hv7, h⟩ := bind_some h
  obtain ⟨hv7a, hv7b, hv7c, hv7d⟩ := idx_some hv7
  refine VW.wds tau_ok Sound.none try_mixed [some 35, some 36, some 37, some 38, some 39, some 40, some 41, some 42, some 43, some 44, some 10, some 11, some 12] [(0, .val (i64 a0)), (2, .val (dI a2)), (3, .val (dI a3)), (10, .val (i64 (w64 ((a2.length : Int).tdiv 2)))), (11, .val (dI (a1.take (w64 ((a1.length : Int) - 1)).toNat))), (12, .val (i64 v7))] 13 rfl (by kernel_rfl) (by rfl) ?_ ?_
  · simp [hc6, hc6s, hv7a, hv7b, hv7c, hv7d] <;> simp [ieq, ilt, ile]
  -- region 5
  obtain ⟨hc8, h⟩ := chk_some h
  have hc8s := hc8
  try simp at hc8s
  obtain ⟨hc9, h⟩ := chk_some h
  have hc9s := hc9
  try simp at hc9s
  obtain ⟨hc10, h⟩ := chk_some h
  have hc10s := hc10
  try simp at hc10s
  obtain ⟨hc11, h⟩ := chk_some h
  have hc11s := hc11
  try simp at hc11s
  refine VW.wds tau_ok Sound.none try_mixed [some 45, some 46, some 47, some 48, some 49, some 50, some 51, some 52, some 53, some 54, some 55, some 56, some 13, some 14, some 15, some 16] [(0, .val (i64 a0)), (11, .val (dI (a1.take (w64 ((a1.length : Int) - 1)).toNat))), (12, .val (i64 v7)), (13, .val (dI (a2.take (w64 ((a2.length : Int).tdiv 2)).toNat))), (14, .val (dI (a2.drop (w64 ((a2.length : Int).tdiv 2)).toNat))), (15, .val (dI (a3.take (w64 ((a2.length : Int).tdiv 2)).toNat))), (16, .val (dI (a3.drop (w64 ((a2.length : Int).tdiv 2)).toNat)))] 16 rfl (by kernel_rfl) (by rfl) ?_ ?_
  · simp [hc8, hc8s, hc9, hc9s, hc10, hc10s, hc11, hc11s] <;> simp [ieq, ilt, ile]
  -- region 6
  obtain ⟨v12, hv12, h⟩ := bind_some h
  obtain ⟨v13, hv13, h⟩ := bind_some h
  obtain ⟨v14, hv14, h⟩ := bind_some h
  obtain ⟨v15, hv15, h⟩ := bind_some h
  obtain ⟨v16, hv16, h⟩ := bind_some h
  refine VW.ws tau_ok (((((Sound.none.add 62 (hself hv12) rfl).add 69 (s_l11Star_ok hv13) rfl).add 71 (hself hv14) rfl).add 72 (s_l11Scale_ok hv15) rfl).add 73 (s_l11Add_ok hv16) rfl) [some 57, some 58, some 59, some 60, some 61, some 62, some 63, some 64, some 65, some 66, some 67, some 68, some 69, some 70, some 71, some 72, some 73, some 17] [(0, .val (i64 a0)), (11, .val (dI (a1.take (w64 ((a1.length : Int) - 1)).toNat))), (13, .val (dI (a2.take (w64 ((a2.length : Int).tdiv 2)).toNat))), (14, .val (dI (a2.drop (w64 ((a2.length : Int).tdiv 2)).toNat))), (15, .val (dI (a3.take (w64 ((a2.length : Int).tdiv 2)).toNat))), (16, .val (dI (a3.drop (w64 ((a2.length : Int).tdiv 2)).toNat))), (17, .ref 17 [] true (dI v16))] rfl ?_ ?_
  · simp <;> simp [ieq, ilt, ile]
  -- region 7
  obtain ⟨v17, hv17, h⟩ := bind_some h
  obtain ⟨v18, hv18, h⟩ := bind_some h
  obtain ⟨v19, hv19, h⟩ := bind_some h
  obtain ⟨v20, hv20, h⟩ := bind_some h
  refine VW.ws tau_ok ((((Sound.none.add 79 (hself hv17) rfl).add 85 (s_l11Star_ok hv18) rfl).add 86 (hself hv19) rfl).add 87 (s_l11Add_ok hv20) rfl) [some 74, some 75, some 76, some 77, some 78, some 79, some 80, some 81, some 82, some 83, some 84, some 85, some 86, some 87, some 18] [(17, .ref 17 [] true (dI v16)), (18, .ref 18 [] true (dI v20))] rfl ?_ ?_
  · simp <;> simp [ieq, ilt, ile]
  -- region 8
  obtain ⟨hc21, h⟩ := chk_some h
  have hc21s := hc21
  try simp at hc21s
  refine VW.ws tau_ok Sound.none [some 88, some 89, some 90, some 8] [(8, .ref 8 [] true (dI (v16 ++ v20)))] rfl ?_ ?_
  · simp [hc21, hc21s] <;> simp [ieq, ilt, ile]
  cases h
  refine VW.ret ?_
  simp [Post, PostM, PostC, PostC2, Nx, Bk]
theorem s_l11Mul_ok : ∀ {n : Nat} {a0 : Int} {a1 : List Int} {a2 : List Int} {a3 : List Int} {r : List Int} (_ : s_l11Mul n a0 a1 a2 a3 = some r),
    VCall Try.prog 221 [i64 a0, dI a1, dI a2, dI a3] [.own true (dI r)]
  | 0, _, _, _, _, _, h => by cases h
  | n + 1, _, _, _, _, _, h => s_l11Mul_b_ok (fun h => s_l11Mul_ok (n := n) h) h

theorem s_l11Times_ok {a0_0 : Int} {a0_1 : List Int} {a1 : List Int} {a2 : List Int} {r : List Int} (h : s_l11Times a0_0 a0_1 a1 a2 = some r) :
    VCall Try.prog 170 [.agg [i64 a0_0, dI a0_1], dI a1, dI a2] [.own true (dI r)] := by
  unfold s_l11Times at h
  refine VCall.enter Try.call170 Try.func170 rfl 14 Try.ntmps170 (by simp) [.tmp 6] rfl ?_
  show VW _ _ _ (mk [(0, .val (.agg [i64 a0_0, dI a0_1])), (1, .val (dI a1)), (2, .val (dI a2))]) _
  -- region 0
  refine VW.ws tau_ok Sound.none [some 3, some 6] [(1, .val (dI a1)), (2, .val (dI a2)), (3, .val (.ptr [i64 a0_0, dI a0_1]))] rfl ?_ ?_
  · simp <;> simp [ieq, ilt, ile]
  -- region 1
  obtain ⟨v1, hv1, h⟩ := bind_some h
  refine VW.ws tau_ok (Sound.none.add 13 (s_l11Mul_ok (n := BIG) hv1) rfl) [some 7, some 8, some 9, some 10, some 11, some 12, some 13, some 6] [(6, .ref 6 [] true (dI v1))] rfl ?_ ?_
  · simp <;> simp [ieq, ilt, ile]
  cases h
  refine VW.ret ?_
  simp [Post, PostM, PostC, PostC2, Nx, Bk]

theorem s_l11Basis_ok {a0_0 : Int} {a0_1 : List Int} {r : List (List Int)} (h : s_l11Basis a0_0 a0_1 = some r) :
    VCall Try.prog 94 [.agg [i64 a0_0, dI a0_1]] [.own true (dM r)] := by
  unfold s_l11Basis at h
  refine VCall.enter Try.call94 Try.func94 rfl 42 Try.ntmps94 (by simp) [.tmp 2] rfl ?_
  show VW _ _ _ (mk [(0, .val (.agg [i64 a0_0, dI a0_1]))]) _
  -- region 0
  refine VW.ws tau_ok Sound.none [some 1, some 2] [(1, .val (.ptr [i64 a0_0, dI a0_1]))] rfl ?_ ?_
  · simp <;> simp [ieq, ilt, ile]
  -- region 1
  refine VW.ws tau_ok Sound.none [some 7, some 3] [(1, .val (.ptr [i64 a0_0, dI a0_1])), (3, .ref 3 [] true (dM []))] rfl ?_ ?_
  · simp <;> simp [ieq, ilt, ile]
  refine VW.sqc fun K1 hK1 hCK1 => ?_
  -- region 2
  refine VW.ws tau_ok Sound.none [some 4] [(1, .val (.ptr [i64 a0_0, dI a0_1])), (3, .ref 3 [] true (dM [])), (4, .val (i64 0))] rfl ?_ ?_
  · simp <;> simp [ieq, ilt, ile]
  obtain ⟨x2, hx2, h⟩ := bind_some h
  refine VW.tlE [(3, .ref 3 [] true (dM x2))] (hCK1) ?_ ?_
  · clear hx2
    refine hK1 _ ?_
    -- region 11
    refine VW.ws tau_ok Sound.none [some 41, some 2] [(2, .ref 2 [] true (dM x2))] rfl ?_ ?_
    · simp <;> simp [ieq, ilt, ile]
    cases h
    refine VW.ret ?_
    simp [Post, PostM, PostC, PostC2, Nx, Bk]
  refine VW.block ?_
  refine VW.loopF (s_l11Basis_L0 a0_0 a0_1) (fun s2 => [(1, .val (.ptr [i64 a0_0, dI a0_1])), (3, .ref 3 [] true (dM s2.1)), (4, .val (i64 s2.2))]) hx2 (Fits.of rfl) ?_
  clear hx2
  intro s2 ox2 hx2o hx2b
  unfold s_l11Basis_L0 at hx2o
  refine VW.sqc fun K4 hK4 hCK4 => ?_
  -- region 3
  obtain ⟨v5, hv5, hx2o⟩ := bind_some hx2o
  refine VW.ws tau_ok (Sound.none.add 10 (s_l11Size_ok hv5) rfl) [some 8, some 9, some 10, some 11] [(1, .val (.ptr [i64 a0_0, dI a0_1])), (3, .ref 3 [] true (dM s2.1)), (4, .val (i64 s2.2)), (11, .val (.bool (ilt s2.2 v5)))] rfl ?_ ?_
  · simp <;> simp [ieq, ilt, ile]
  refine VW.cond rfl (fun hb6 => ?_) (fun hb6 => ?_)
  rotate_left
  ·
    replace hb6 : ¬ (s2.2 < v5) := by simpa [ieq, ilt, ile] using hb6
    rw [if_neg hb6] at hx2o
    refine VW.exit ?_
    cases hx2o
    have hq := hx2b _ rfl
    subst hq
    exact Fits.of rfl
  replace hb6 : s2.2 < v5 := by simpa [ieq, ilt, ile] using hb6
  rw [if_pos hb6] at hx2o
  refine VW.skip ?_
  refine hK4 _ ?_
  refine VW.sqc fun K7 hK7 hCK7 => ?_
  refine VW.block ?_
  -- region 5
  refine VW.ws tau_ok Sound.none [some 14, some 5] [(1, .val (.ptr [i64 a0_0, dI a0_1])), (3, .ref 3 [] true (dM s2.1)), (4, .val (i64 s2.2)), (5, .ref 5 [] true (dI []))] rfl ?_ ?_
  · simp <;> simp [ieq, ilt, ile]
  refine VW.sqc fun K8 hK8 hCK8 => ?_
  -- region 6
  refine VW.ws tau_ok Sound.none [some 6] [(1, .val (.ptr [i64 a0_0, dI a0_1])), (3, .ref 3 [] true (dM s2.1)), (4, .val (i64 s2.2)), (5, .ref 5 [] true (dI [])), (6, .val (i64 0))] rfl ?_ ?_
  · simp <;> simp [ieq, ilt, ile]
  obtain ⟨x9, hx9, hx2o⟩ := bind_some hx2o
  refine VW.tlE [(1, .val (.ptr [i64 a0_0, dI a0_1])), (3, .ref 3 [] true (dM s2.1)), (4, .val (i64 s2.2)), (5, .ref 5 [] true (dI x9))] (hCK8) ?_ ?_
  · clear hx9
    refine hK8 _ ?_
    -- region 10
    obtain ⟨hc20, hx2o⟩ := chk_some hx2o
    have hc20s := hc20
    try simp at hc20s
    refine VW.wr tau_ok Sound.none [some 37, some 38, some 39, some 40, some 3] [(1, .val (.ptr [i64 a0_0, dI a0_1])), (3, .ref 3 [] true (dM (s2.1 ++ [x9]))), (4, .val (i64 s2.2))] rfl ?_ ?_
    · simp [hc20, hc20s] <;> simp [ieq, ilt, ile]
    refine hK7 _ ?_
    -- region 4
    refine VW.wr tau_ok Sound.none [some 12, some 13, some 4] [(1, .val (.ptr [i64 a0_0, dI a0_1])), (3, .ref 3 [] true (dM (s2.1 ++ [x9]))), (4, .val (i64 (w64 (s2.2 + 1))))] rfl ?_ ?_
    · simp <;> simp [ieq, ilt, ile]
    cases hx2o
    exact ⟨_, rfl, Fits.of rfl⟩
  refine VW.block ?_
  refine VW.loopF (s_l11Basis_L1 a0_0 a0_1 s2) (fun s9 => [(1, .val (.ptr [i64 a0_0, dI a0_1])), (3, .ref 3 [] true (dM s2.1)), (4, .val (i64 s2.2)), (5, .ref 5 [] true (dI s9.1)), (6, .val (i64 s9.2))]) hx9 (Fits.of rfl) ?_
  clear hx9
  intro s9 ox9 hx9o hx9b
  unfold s_l11Basis_L1 at hx9o
  refine VW.sqc fun K11 hK11 hCK11 => ?_
  -- region 7
  obtain ⟨v12, hv12, hx9o⟩ := bind_some hx9o
  refine VW.ws tau_ok (Sound.none.add 17 (s_l11Size_ok hv12) rfl) [some 15, some 16, some 17, some 18] [(1, .val (.ptr [i64 a0_0, dI a0_1])), (3, .ref 3 [] true (dM s2.1)), (4, .val (i64 s2.2)), (5, .ref 5 [] true (dI s9.1)), (6, .val (i64 s9.2)), (18, .val (.bool (ilt s9.2 v12)))] rfl ?_ ?_
  · simp <;> simp [ieq, ilt, ile]
  refine VW.cond rfl (fun hb13 => ?_) (fun hb13 => ?_)
  rotate_left
  ·
    replace hb13 : ¬ (s9.2 < v12) := by simpa [ieq, ilt, ile] using hb13
    rw [if_neg hb13] at hx9o
    refine VW.exit ?_
    cases hx9o
    have hq := hx9b _ rfl
    subst hq
    exact Fits.of rfl
  replace hb13 : s9.2 < v12 := by simpa [ieq, ilt, ile] using hb13
  rw [if_pos hb13] at hx9o
  refine VW.skip ?_
  refine hK11 _ ?_
  refine VW.sqc fun K14 hK14 hCK14 => ?_
  refine VW.block ?_
  -- region 9
  obtain ⟨v15, hv15, hx9o⟩ := bind_some hx9o
  obtain ⟨v16, hv16, hx9o⟩ := bind_some hx9o
  obtain ⟨v17, hv17, hx9o⟩ := bind_some hx9o
  obtain ⟨v18, hv18, hx9o⟩ := bind_some hx9o
  obtain ⟨hv18a, hv18b, hv18c, hv18d⟩ := idx_some hv18
  obtain ⟨hc19, hx9o⟩ := chk_some hx9o
  have hc19s := hc19
  try simp at hc19s
  refine VW.wdr tau_ok (((Sound.none.add 25 (s_l11One_ok hv15) rfl).add 28 (s_l11One_ok hv16) rfl).add 29 (s_l11Times_ok hv17) rfl) try_mixed [some 21, some 22, some 23, some 24, some 25, some 26, some 27, some 28, some 29, some 30, some 31, some 32, some 33, some 34, some 35, some 36, some 5] [(1, .val (.ptr [i64 a0_0, dI a0_1])), (3, .ref 3 [] true (dM s2.1)), (4, .val (i64 s2.2)), (5, .ref 5 [] true (dI (s9.1 ++ [v18]))), (6, .val (i64 s9.2))] 15 rfl (by kernel_rfl) (by rfl) ?_ ?_
  · simp [hv18a, hv18b, hv18c, hv18d, hc19, hc19s] <;> simp [ieq, ilt, ile]
  refine hK14 _ ?_
  -- region 8
  refine VW.wr tau_ok Sound.none [some 19, some 20, some 6] [(1, .val (.ptr [i64 a0_0, dI a0_1])), (3, .ref 3 [] true (dM s2.1)), (4, .val (i64 s2.2)), (5, .ref 5 [] true (dI (s9.1 ++ [v18]))), (6, .val (i64 (w64 (s9.2 + 1))))] rfl ?_ ?_
  · simp <;> simp [ieq, ilt, ile]
  cases hx9o
  exact ⟨_, rfl, Fits.of rfl⟩

theorem s_l11Diagonal_ok {a0_0 : Int} {a0_1 : List Int} {r : List Int} (h : s_l11Diagonal a0_0 a0_1 = some r) :
    VCall Try.prog 177 [.agg [i64 a0_0, dI a0_1]] [.own true (dI r)] := by
  unfold s_l11Diagonal at h
  refine VCall.enter Try.call177 Try.func177 rfl 28 Try.ntmps177 (by simp) [.tmp 2] rfl ?_
  show VW _ _ _ (mk [(0, .val (.agg [i64 a0_0, dI a0_1]))]) _
  -- region 0
  refine VW.ws tau_ok Sound.none [some 1, some 2] [(1, .val (.ptr [i64 a0_0, dI a0_1]))] rfl ?_ ?_
  · simp <;> simp [ieq, ilt, ile]
  -- region 1
  refine VW.ws tau_ok Sound.none [some 5, some 3] [(1, .val (.ptr [i64 a0_0, dI a0_1])), (3, .ref 3 [] true (dI [1]))] rfl ?_ ?_
  · simp <;> simp [ieq, ilt, ile]
  refine VW.sqc fun K1 hK1 hCK1 => ?_
  -- region 2
  refine VW.ws tau_ok Sound.none [some 4] [(1, .val (.ptr [i64 a0_0, dI a0_1])), (3, .ref 3 [] true (dI [1])), (4, .val (i64 0))] rfl ?_ ?_
  · simp <;> simp [ieq, ilt, ile]
  obtain ⟨x2, hx2, h⟩ := bind_some h
  refine VW.tlE [(3, .ref 3 [] true (dI x2))] (hCK1) ?_ ?_
  · clear hx2
    refine hK1 _ ?_
    -- region 6
    refine VW.ws tau_ok Sound.none [some 27, some 2] [(2, .ref 2 [] true (dI x2))] rfl ?_ ?_
    · simp <;> simp [ieq, ilt, ile]
    cases h
    refine VW.ret ?_
    simp [Post, PostM, PostC, PostC2, Nx, Bk]
  refine VW.block ?_
  refine VW.loopF (s_l11Diagonal_L0 a0_0 a0_1) (fun s2 => [(1, .val (.ptr [i64 a0_0, dI a0_1])), (3, .ref 3 [] true (dI s2.1)), (4, .val (i64 s2.2))]) hx2 (Fits.of rfl) ?_
  clear hx2
  intro s2 ox2 hx2o hx2b
  unfold s_l11Diagonal_L0 at hx2o
  refine VW.sqc fun K4 hK4 hCK4 => ?_
  -- region 3
  refine VW.ws tau_ok Sound.none [some 6, some 7, some 8, some 9, some 10] [(1, .val (.ptr [i64 a0_0, dI a0_1])), (3, .ref 3 [] true (dI s2.1)), (4, .val (i64 s2.2)), (10, .val (.bool (ilt s2.2 (a0_1.length : Int))))] rfl ?_ ?_
  · simp <;> simp [ieq, ilt, ile]
  refine VW.cond rfl (fun hb5 => ?_) (fun hb5 => ?_)
  rotate_left
  ·
    replace hb5 : ¬ (s2.2 < (a0_1.length : Int)) := by simpa [ieq, ilt, ile] using hb5
    rw [if_neg hb5] at hx2o
    refine VW.exit ?_
    cases hx2o
    have hq := hx2b _ rfl
    subst hq
    exact Fits.of rfl
  replace hb5 : s2.2 < (a0_1.length : Int) := by simpa [ieq, ilt, ile] using hb5
  rw [if_pos hb5] at hx2o
  refine VW.skip ?_
  refine hK4 _ ?_
  refine VW.sqc fun K6 hK6 hCK6 => ?_
  refine VW.block ?_
  -- region 5
  obtain ⟨v7, hv7, hx2o⟩ := bind_some hx2o
  obtain ⟨hv7a, hv7b, hv7c, hv7d⟩ := idx_some hv7
  obtain ⟨v8, hv8, hx2o⟩ := bind_some hx2o
  obtain ⟨hc9, hx2o⟩ := chk_some hx2o
  have hc9s := hc9
  try simp at hc9s
  refine VW.wdr tau_ok (Sound.none.add 25 (s_l11Scale_ok hv8) rfl) try_mixed [some 13, some 14, some 15, some 16, some 17, some 18, some 19, some 20, some 21, some 22, some 23, some 24, some 25, some 26, some 3] [(1, .val (.ptr [i64 a0_0, dI a0_1])), (3, .ref 3 [] true (dI (s2.1 ++ v8))), (4, .val (i64 s2.2))] 13 rfl (by kernel_rfl) (by rfl) ?_ ?_
  · simp [hv7a, hv7b, hv7c, hv7d, hc9, hc9s] <;> simp [ieq, ilt, ile]
  refine hK6 _ ?_
  -- region 4
  refine VW.wr tau_ok Sound.none [some 11, some 12, some 4] [(1, .val (.ptr [i64 a0_0, dI a0_1])), (3, .ref 3 [] true (dI (s2.1 ++ v8))), (4, .val (i64 (w64 (s2.2 + 1))))] rfl ?_ ?_
  · simp <;> simp [ieq, ilt, ile]
  cases hx2o
  exact ⟨_, rfl, Fits.of rfl⟩

theorem s_l15Form_ok {a0_0 : Int} {a0_1 : List Int} {a1 : List (List Int)} {a2 : Int} {a3 : Int} {a4 : Int} {r : Int} (h : s_l15Form a0_0 a0_1 a1 a2 a3 a4 = some r) :
    VCall Try.prog 178 [.agg [i64 a0_0, dI a0_1], dM a1, i64 a2, i64 a3, i64 a4] [.sc (i64 r)] := by
  unfold s_l15Form at h
  refine VCall.enter Try.call178 Try.func178 rfl 35 Try.ntmps178 (by simp) [.tmp 10] rfl ?_
  show VW _ _ _ (mk [(0, .val (.agg [i64 a0_0, dI a0_1])), (1, .val (dM a1)), (2, .val (i64 a2)), (3, .val (i64 a3)), (4, .val (i64 a4))]) _
  -- region 0
  refine VW.ws tau_ok Sound.none [some 5, some 10] [(1, .val (dM a1)), (2, .val (i64 a2)), (3, .val (i64 a3)), (4, .val (i64 a4)), (5, .val (.ptr [i64 a0_0, dI a0_1]))] rfl ?_ ?_
  · simp <;> simp [ieq, ilt, ile]
  refine VW.sqc fun K1 hK1 hCK1 => ?_
  -- region 1
  refine VW.ws tau_ok Sound.none [some 11, some 12, some 13, some 14, some 15] [(1, .val (dM a1)), (2, .val (i64 a2)), (3, .val (i64 a3)), (4, .val (i64 a4)), (5, .val (.ptr [i64 a0_0, dI a0_1])), (15, .val (.bool (!(ieq (bxor .i64 a2 a3) a4))))] rfl ?_ ?_
  · simp <;> simp [ieq, ilt, ile]
  refine VW.cond rfl (fun hb2 => ?_) (fun hb2 => ?_)
  ·
    replace hb2 : ¬ (bxor .i64 a2 a3) = a4 := by simpa [ieq, ilt, ile] using hb2
    rw [if_pos hb2] at h
    -- region 2
    refine VW.ws tau_ok Sound.none [some 10] [(10, .val (i64 0))] rfl ?_ ?_
    · simp <;> simp [ieq, ilt, ile]
    cases h
    refine VW.ret ?_
    simp [Post, PostM, PostC, PostC2, Nx, Bk]
  replace hb2 : ¬ (¬ (bxor .i64 a2 a3) = a4) := by simpa [ieq, ilt, ile] using hb2
  rw [if_neg hb2] at h
  refine VW.skip ?_
  refine hK1 _ ?_
  -- region 3
  obtain ⟨v3, hv3, h⟩ := bind_some h
  obtain ⟨hv3a, hv3b, hv3c, hv3d⟩ := idx_some hv3
  obtain ⟨v4, hv4, h⟩ := bind_some h
  obtain ⟨hv4a, hv4b, hv4c, hv4d⟩ := idx_some hv4
  obtain ⟨v5, hv5, h⟩ := bind_some h
  obtain ⟨hv5a, hv5b, hv5c, hv5d⟩ := idx_some hv5
  obtain ⟨v6, hv6, h⟩ := bind_some h
  obtain ⟨hv6a, hv6b, hv6c, hv6d⟩ := idx_some hv6
  obtain ⟨v7, hv7, h⟩ := bind_some h
  refine VW.wds tau_ok (Sound.none.add 34 (s_l01Mod_ok hv7) rfl) try_mixed [some 16, some 17, some 18, some 19, some 20, some 21, some 22, some 23, some 24, some 25, some 26, some 27, some 28, some 29, some 30, some 31, some 32, some 33, some 34, some 10] [(10, .val (i64 v7))] 20 rfl (by kernel_rfl) (by rfl) ?_ ?_
  · simp [hv3a, hv3b, hv3c, hv3d, hv4a, hv4b, hv4c, hv4d, hv5a, hv5b, hv5c, hv5d, hv6a, hv6b, hv6c, hv6d] <;> simp [ieq, ilt, ile]
  cases h
  refine VW.ret ?_
  simp [Post, PostM, PostC, PostC2, Nx, Bk]

theorem s_l01Own_ok {a0 : List Int} {r : List Int} (h : s_l01Own a0 = some r) :
    VCall Try.prog 205 [dI a0] [.own true (dI r)] := by
  unfold s_l01Own at h
  refine VCall.enter Try.call205 Try.func205 rfl 6 Try.ntmps205 (by simp) [.tmp 2] rfl ?_
  show VW _ _ _ (mk [(0, .val (dI a0))]) _
  -- region 0
  refine VW.ws tau_ok Sound.none [some 2] [(0, .val (dI a0))] rfl ?_ ?_
  · simp <;> simp [ieq, ilt, ile]
  -- region 1
  obtain ⟨hc1, h⟩ := chk_some h
  have hc1s := hc1
  try simp at hc1s
  refine VW.ws tau_ok Sound.none [some 3, some 4, some 5, some 2] [(2, .ref 2 [] true (dI (([] : List Int) ++ a0)))] rfl ?_ ?_
  · simp [hc1, hc1s] <;> simp [ieq, ilt, ile]
  cases h
  refine VW.ret ?_
  simp [Post, PostM, PostC, PostC2, Nx, Bk]

theorem s_l12First_ok {a0 : List Int} {r : Int} (h : s_l12First a0 = some r) :
    VCall Try.prog 192 [dI a0] [.sc (i64 r)] := by
  unfold s_l12First at h
  refine VCall.enter Try.call192 Try.func192 rfl 18 Try.ntmps192 (by simp) [.tmp 2] rfl ?_
  show VW _ _ _ (mk [(0, .val (dI a0))]) _
  -- region 0
  refine VW.ws tau_ok Sound.none [some 2] [(0, .val (dI a0))] rfl ?_ ?_
  · simp <;> simp [ieq, ilt, ile]
  -- region 1
  refine VW.ws tau_ok Sound.none [some 3] [(0, .val (dI a0)), (3, .val (i64 0))] rfl ?_ ?_
  · simp <;> simp [ieq, ilt, ile]
  refine VW.sqc fun K1 hK1 hCK1 => ?_
  obtain ⟨x2, hx2, h⟩ := bind_some h
  refine VW.tlE [(3, .val (i64 x2))] (hCK1) ?_ ?_
  · clear hx2
    refine hK1 _ ?_
    -- region 4
    refine VW.ws tau_ok Sound.none [some 17, some 2] [(2, .val (i64 x2))] rfl ?_ ?_
    · simp <;> simp [ieq, ilt, ile]
    cases h
    refine VW.ret ?_
    simp [Post, PostM, PostC, PostC2, Nx, Bk]
  refine VW.block ?_
  refine VW.loopF (s_l12First_L0 a0) (fun s2 => [(0, .val (dI a0)), (3, .val (i64 s2))]) hx2 (Fits.of rfl) ?_
  clear hx2
  intro s2 ox2 hx2o hx2b
  unfold s_l12First_L0 at hx2o
  refine VW.sqc fun K4 hK4 hCK4 => ?_
  -- region 2
  obtain ⟨x7, hx7, hx2o⟩ := bind_some hx2o
  refine VW.cut [(0, .val (dI a0)), (3, .val (i64 s2)), (14, .val (.bool x7))] ?_ fun hy => ?_
  rotate_left
  · clear hx2o
    by_cases hp5 : s2 < (a0.length : Int)
    · rw [if_pos hp5] at hx7
      have hp5b : ilt s2 (a0.length : Int) = true := by simpa [ieq, ilt, ile] using hp5
      have hp5s := hp5b
      try simp at hp5s
      obtain ⟨v6, hv6, hx7⟩ := bind_some hx7
      obtain ⟨hv6a, hv6b, hv6c, hv6d⟩ := idx_some hv6
      cases hx7
      refine VW.ws tau_ok Sound.none [some 4, some 5, some 6, some 7, some 8, some 9, some 10, some 11, some 12, some 13, some 14] _ rfl ?_ hy
      simp [hp5b, hp5s, hv6a, hv6b, hv6c, hv6d] <;> simp [ieq, ilt, ile]
    · rw [if_neg hp5] at hx7
      have hp5b : ilt s2 (a0.length : Int) = false := by simpa [ieq, ilt, ile] using hp5
      have hp5s := hp5b
      try simp at hp5s
      cases hx7
      refine VW.ws tau_ok Sound.none [some 4, some 5, some 6, some 7, some 8, some 9, some 10, some 11, some 12, some 13, some 14] _ rfl ?_ hy
      simp [hp5b, hp5s] <;> simp [ieq, ilt, ile]
  refine VW.cond rfl (fun hb8 => ?_) (fun hb8 => ?_)
  rotate_left
  ·
    replace hb8 : ¬ (x7 = true) := by simpa [ieq, ilt, ile] using hb8
    rw [if_neg hb8] at hx2o
    refine VW.exit ?_
    cases hx2o
    have hq := hx2b _ rfl
    subst hq
    exact Fits.of rfl
  replace hb8 : x7 = true := by simpa [ieq, ilt, ile] using hb8
  rw [if_pos hb8] at hx2o
  refine VW.skip ?_
  refine hK4 _ ?_
  refine VW.block ?_
  -- region 3
  refine VW.wr tau_ok Sound.none [some 15, some 16, some 3] [(0, .val (dI a0)), (3, .val (i64 (w64 (s2 + 1))))] rfl ?_ ?_
  · simp <;> simp [ieq, ilt, ile]
  cases hx2o
  exact ⟨_, rfl, Fits.of rfl⟩

theorem s_l11Minus_ok {a0 : Int} {a1 : List Int} {a2 : List Int} {r : List Int} (h : s_l11Minus a0 a1 a2 = some r) :
    VCall Try.prog 251 [i64 a0, dI a1, dI a2] [.own true (dI r)] := by
  unfold s_l11Minus at h
  refine VCall.enter Try.call251 Try.func251 rfl 15 Try.ntmps251 (by simp) [.tmp 6] rfl ?_
  show VW _ _ _ (mk [(0, .val (i64 a0)), (1, .val (dI a1)), (2, .val (dI a2))]) _
  -- region 0
  refine VW.ws tau_ok Sound.none [some 6] [(0, .val (i64 a0)), (1, .val (dI a1)), (2, .val (dI a2))] rfl ?_ ?_
  · simp <;> simp [ieq, ilt, ile]
  -- region 1
  obtain ⟨v1, hv1, h⟩ := bind_some h
  obtain ⟨v2, hv2, h⟩ := bind_some h
  refine VW.ws tau_ok ((Sound.none.add 13 (s_l11Scale_ok hv1) rfl).add 14 (s_l11Add_ok hv2) rfl) [some 7, some 8, some 9, some 10, some 11, some 12, some 13, some 14, some 6] [(6, .ref 6 [] true (dI v2))] rfl ?_ ?_
  · simp <;> simp [ieq, ilt, ile]
  cases h
  refine VW.ret ?_
  simp [Post, PostM, PostC, PostC2, Nx, Bk]

theorem s_l12Rest_ok {a0 : Int} {a1 : List (List Int)} {a2 : List Int} {r : List Int} (h : s_l12Rest a0 a1 a2 = some r) :
    VCall Try.prog 249 [i64 a0, dM a1, dI a2] [.own true (dI r)] := by
  unfold s_l12Rest at h
  refine VCall.enter Try.call249 Try.func249 rfl 39 Try.ntmps249 (by simp) [.tmp 6] rfl ?_
  show VW _ _ _ (mk [(0, .val (i64 a0)), (1, .val (dM a1)), (2, .val (dI a2))]) _
  -- region 0
  refine VW.ws tau_ok Sound.none [some 6] [(0, .val (i64 a0)), (1, .val (dM a1)), (2, .val (dI a2))] rfl ?_ ?_
  · simp <;> simp [ieq, ilt, ile]
  -- region 1
  obtain ⟨v1, hv1, h⟩ := bind_some h
  refine VW.ws tau_ok (Sound.none.add 11 (s_l01Own_ok hv1) rfl) [some 10, some 11, some 7] [(0, .val (i64 a0)), (1, .val (dM a1)), (7, .ref 7 [] true (dI v1))] rfl ?_ ?_
  · simp <;> simp [ieq, ilt, ile]
  refine VW.sqc fun K2 hK2 hCK2 => ?_
  -- region 2
  refine VW.ws tau_ok Sound.none [some 8] [(0, .val (i64 a0)), (1, .val (dM a1)), (7, .ref 7 [] true (dI v1)), (8, .val (i64 0))] rfl ?_ ?_
  · simp <;> simp [ieq, ilt, ile]
  obtain ⟨x3, hx3, h⟩ := bind_some h
  refine VW.tlE [(7, .ref 7 [] true (dI x3))] (hCK2) ?_ ?_
  · clear hx3
    refine hK2 _ ?_
    -- region 8
    refine VW.ws tau_ok Sound.none [some 38, some 6] [(6, .ref 6 [] true (dI x3))] rfl ?_ ?_
    · simp <;> simp [ieq, ilt, ile]
    cases h
    refine VW.ret ?_
    simp [Post, PostM, PostC, PostC2, Nx, Bk]
  refine VW.block ?_
  refine VW.loopF (s_l12Rest_L0 a0 a1) (fun s3 => [(0, .val (i64 a0)), (1, .val (dM a1)), (7, .ref 7 [] true (dI s3.1)), (8, .val (i64 s3.2))]) hx3 (Fits.of rfl) ?_
  clear hx3
  intro s3 ox3 hx3o hx3b
  unfold s_l12Rest_L0 at hx3o
  refine VW.sqc fun K5 hK5 hCK5 => ?_
  -- region 3
  refine VW.ws tau_ok Sound.none [some 12, some 13, some 14, some 15] [(0, .val (i64 a0)), (1, .val (dM a1)), (7, .ref 7 [] true (dI s3.1)), (8, .val (i64 s3.2)), (15, .val (.bool (ilt s3.2 (a1.length : Int))))] rfl ?_ ?_
  · simp <;> simp [ieq, ilt, ile]
  refine VW.cond rfl (fun hb6 => ?_) (fun hb6 => ?_)
  rotate_left
  ·
    replace hb6 : ¬ (s3.2 < (a1.length : Int)) := by simpa [ieq, ilt, ile] using hb6
    rw [if_neg hb6] at hx3o
    refine VW.exit ?_
    cases hx3o
    have hq := hx3b _ rfl
    subst hq
    exact Fits.of rfl
  replace hb6 : s3.2 < (a1.length : Int) := by simpa [ieq, ilt, ile] using hb6
  rw [if_pos hb6] at hx3o
  refine VW.skip ?_
  refine hK5 _ ?_
  obtain ⟨x7, hx7, hx3o⟩ := bind_some hx3o
  refine VW.sqE [(0, .val (i64 a0)), (1, .val (dM a1)), (7, .ref 7 [] true (dI x7)), (8, .val (i64 s3.2))] ?_ ?_
  · clear hx7
    -- region 4
    refine VW.wr tau_ok Sound.none [some 16, some 17, some 8] [(0, .val (i64 a0)), (1, .val (dM a1)), (7, .ref 7 [] true (dI x7)), (8, .val (i64 (w64 (s3.2 + 1))))] rfl ?_ ?_
    · simp <;> simp [ieq, ilt, ile]
    cases hx3o
    exact ⟨_, rfl, Fits.of rfl⟩
  refine VW.block ?_
  -- region 5
  obtain ⟨v9, hv9, hx7⟩ := bind_some hx7
  obtain ⟨hv9a, hv9b, hv9c, hv9d⟩ := idx_some hv9
  obtain ⟨v10, hv10, hx7⟩ := bind_some hx7
  obtain ⟨v11, hv11, hx7⟩ := bind_some hx7
  obtain ⟨hv11a, hv11b, hv11c, hv11d⟩ := idx_some hv11
  refine VW.ws tau_ok (Sound.none.add 23 (s_l12First_ok hv10) rfl) [some 18, some 19, some 20, some 21, some 22, some 23, some 24, some 25, some 9] [(0, .val (i64 a0)), (1, .val (dM a1)), (7, .ref 7 [] true (dI s3.1)), (8, .val (i64 s3.2)), (9, .val (i64 v11))] rfl ?_ ?_
  · simp [hv9a, hv9b, hv9c, hv9d, hv11a, hv11b, hv11c, hv11d] <;> simp [ieq, ilt, ile]
  -- region 6
  refine VW.ws tau_ok Sound.none [some 26, some 27] [(0, .val (i64 a0)), (1, .val (dM a1)), (7, .ref 7 [] true (dI s3.1)), (8, .val (i64 s3.2)), (9, .val (i64 v11)), (27, .val (.bool (!(ieq v11 0))))] rfl ?_ ?_
  · simp <;> simp [ieq, ilt, ile]
  refine VW.cond rfl (fun hb12 => ?_) (fun hb12 => ?_)
  rotate_left
  ·
    replace hb12 : ¬ (¬ v11 = 0) := by simpa [ieq, ilt, ile] using hb12
    rw [if_neg hb12] at hx7
    refine VW.skip ?_
    cases hx7
    exact Fits.of rfl
  replace hb12 : ¬ v11 = 0 := by simpa [ieq, ilt, ile] using hb12
  rw [if_pos hb12] at hx7
  -- region 7
  obtain ⟨v13, hv13, hx7⟩ := bind_some hx7
  obtain ⟨v14, hv14, hx7⟩ := bind_some hx7
  refine VW.wr tau_ok ((Sound.none.add 36 (s_l11Scale_ok hv13) rfl).add 37 (s_l11Minus_ok hv14) rfl) [some 28, some 29, some 30, some 31, some 32, some 33, some 34, some 35, some 36, some 37, some 7] [(0, .val (i64 a0)), (1, .val (dM a1)), (7, .ref 7 [] true (dI v14)), (8, .val (i64 s3.2))] rfl ?_ ?_
  · simp [hv9a, hv9b, hv9c, hv9d] <;> simp [ieq, ilt, ile]
  cases hx7
  exact Fits.of rfl

theorem s_l01Inv_ok {a0 : Int} {a1 : Int} {r : Int} (h : s_l01Inv a0 a1 = some r) :
    VCall Try.prog 250 [i64 a0, i64 a1] [.sc (i64 r)] := by
  unfold s_l01Inv at h
  refine VCall.enter Try.call250 Try.func250 rfl 15 Try.ntmps250 (by simp) [.tmp 4] rfl ?_
  show VW _ _ _ (mk [(0, .val (i64 a0)), (1, .val (i64 a1))]) _
  -- region 0
  refine VW.ws tau_ok Sound.none [some 4] [(0, .val (i64 a0)), (1, .val (i64 a1))] rfl ?_ ?_
  · simp <;> simp [ieq, ilt, ile]
  -- region 1
  refine VW.ws tau_ok Sound.none [some 5] [(0, .val (i64 a0)), (1, .val (i64 a1)), (5, .val (i64 1))] rfl ?_ ?_
  · simp <;> simp [ieq, ilt, ile]
  refine VW.sqc fun K1 hK1 hCK1 => ?_
  obtain ⟨x2, hx2, h⟩ := bind_some h
  refine VW.tlE [(5, .val (i64 x2))] (hCK1) ?_ ?_
  · clear hx2
    refine hK1 _ ?_
    -- region 4
    refine VW.ws tau_ok Sound.none [some 14, some 4] [(4, .val (i64 x2))] rfl ?_ ?_
    · simp <;> simp [ieq, ilt, ile]
    cases h
    refine VW.ret ?_
    simp [Post, PostM, PostC, PostC2, Nx, Bk]
  refine VW.block ?_
  refine VW.loopF (s_l01Inv_L0 a0 a1) (fun s2 => [(0, .val (i64 a0)), (1, .val (i64 a1)), (5, .val (i64 s2))]) hx2 (Fits.of rfl) ?_
  clear hx2
  intro s2 ox2 hx2o hx2b
  unfold s_l01Inv_L0 at hx2o
  refine VW.sqc fun K4 hK4 hCK4 => ?_
  -- region 2
  obtain ⟨hc5, hx2o⟩ := chk_some hx2o
  have hc5s := hc5
  try simp at hc5s
  refine VW.ws tau_ok Sound.none [some 6, some 7, some 8, some 9, some 10, some 11] [(0, .val (i64 a0)), (1, .val (i64 a1)), (5, .val (i64 s2)), (11, .val (.bool (!(ieq ((w64 (a1 * s2)).tmod a0) 1))))] rfl ?_ ?_
  · simp [hc5, hc5s] <;> simp [ieq, ilt, ile]
  refine VW.cond rfl (fun hb6 => ?_) (fun hb6 => ?_)
  rotate_left
  ·
    replace hb6 : ¬ (¬ ((w64 (a1 * s2)).tmod a0) = 1) := by simpa [ieq, ilt, ile] using hb6
    rw [if_neg hb6] at hx2o
    refine VW.exit ?_
    cases hx2o
    have hq := hx2b _ rfl
    subst hq
    exact Fits.of rfl
  replace hb6 : ¬ ((w64 (a1 * s2)).tmod a0) = 1 := by simpa [ieq, ilt, ile] using hb6
  rw [if_pos hb6] at hx2o
  refine VW.skip ?_
  refine hK4 _ ?_
  refine VW.block ?_
  -- region 3
  refine VW.wr tau_ok Sound.none [some 12, some 13, some 5] [(0, .val (i64 a0)), (1, .val (i64 a1)), (5, .val (i64 (w64 (s2 + 1))))] rfl ?_ ?_
  · simp <;> simp [ieq, ilt, ile]
  cases hx2o
  exact ⟨_, rfl, Fits.of rfl⟩

theorem s_l12Put_ok {a0 : Int} {a1 : List (List Int)} {a2 : List Int} {r : List (List Int)} (h : s_l12Put a0 a1 a2 = some r) :
    VCall Try.prog 228 [i64 a0, dM a1, dI a2] [.shr (dM r)] := by
  unfold s_l12Put at h
  refine VCall.enter Try.call228 Try.func228 rfl 80 Try.ntmps228 (by simp) [.tmp 6] rfl ?_
  show VW _ _ _ (mk [(0, .val (i64 a0)), (1, .val (dM a1)), (2, .val (dI a2))]) _
  -- region 0
  refine VW.ws tau_ok Sound.none [some 6] [(0, .val (i64 a0)), (1, .val (dM a1)), (2, .val (dI a2))] rfl ?_ ?_
  · simp <;> simp [ieq, ilt, ile]
  -- region 1
  obtain ⟨v1, hv1, h⟩ := bind_some h
  refine VW.ws tau_ok (Sound.none.add 15 (s_l12Rest_ok hv1) rfl) [some 12, some 13, some 14, some 15, some 7] [(0, .val (i64 a0)), (1, .val (dM a1)), (7, .ref 7 [] true (dI v1))] rfl ?_ ?_
  · simp <;> simp [ieq, ilt, ile]
  -- region 2
  obtain ⟨v2, hv2, h⟩ := bind_some h
  refine VW.ws tau_ok (Sound.none.add 17 (s_l12First_ok hv2) rfl) [some 16, some 17, some 8] [(0, .val (i64 a0)), (1, .val (dM a1)), (7, .ref 7 [] true (dI v1)), (8, .val (i64 v2))] rfl ?_ ?_
  · simp <;> simp [ieq, ilt, ile]
  refine VW.sqc fun K3 hK3 hCK3 => ?_
  -- region 3
  refine VW.ws tau_ok Sound.none [some 18, some 19, some 20, some 21] [(0, .val (i64 a0)), (1, .val (dM a1)), (7, .ref 7 [] true (dI v1)), (8, .val (i64 v2)), (21, .val (.bool (ieq v2 (v1.length : Int))))] rfl ?_ ?_
  · simp <;> simp [ieq, ilt, ile]
  refine VW.cond rfl (fun hb4 => ?_) (fun hb4 => ?_)
  ·
    replace hb4 : v2 = (v1.length : Int) := by simpa [ieq, ilt, ile] using hb4
    rw [if_pos hb4] at h
    -- region 4
    refine VW.ws tau_ok Sound.none [some 22, some 6] [(6, .val (dM a1))] rfl ?_ ?_
    · simp <;> simp [ieq, ilt, ile]
    cases h
    refine VW.ret ?_
    simp [Post, PostM, PostC, PostC2, Nx, Bk]
  replace hb4 : ¬ (v2 = (v1.length : Int)) := by simpa [ieq, ilt, ile] using hb4
  rw [if_neg hb4] at h
  refine VW.skip ?_
  refine hK3 _ ?_
  -- region 5
  obtain ⟨v5, hv5, h⟩ := bind_some h
  obtain ⟨hv5a, hv5b, hv5c, hv5d⟩ := idx_some hv5
  obtain ⟨v6, hv6, h⟩ := bind_some h
  obtain ⟨v7, hv7, h⟩ := bind_some h
  refine VW.ws tau_ok ((Sound.none.add 29 (s_l01Inv_ok hv6) rfl).add 31 (s_l11Scale_ok hv7) rfl) [some 23, some 24, some 25, some 26, some 27, some 28, some 29, some 30, some 31, some 7] [(0, .val (i64 a0)), (1, .val (dM a1)), (7, .ref 7 [] true (dI v7)), (8, .val (i64 v2))] rfl ?_ ?_
  · simp [hv5a, hv5b, hv5c, hv5d] <;> simp [ieq, ilt, ile]
  -- region 6
  refine VW.ws tau_ok Sound.none [some 32, some 9, some 10] [(0, .val (i64 a0)), (1, .val (dM a1)), (7, .ref 7 [] true (dI v7)), (8, .val (i64 v2)), (9, .ref 9 [] true (dM [])), (10, .val (.bool false))] rfl ?_ ?_
  · simp <;> simp [ieq, ilt, ile]
  refine VW.sqc fun K8 hK8 hCK8 => ?_
  -- region 7
  refine VW.ws tau_ok Sound.none [some 11] [(0, .val (i64 a0)), (1, .val (dM a1)), (7, .ref 7 [] true (dI v7)), (8, .val (i64 v2)), (9, .ref 9 [] true (dM [])), (10, .val (.bool false)), (11, .val (i64 0))] rfl ?_ ?_
  · simp <;> simp [ieq, ilt, ile]
  obtain ⟨x9, hx9, h⟩ := bind_some h
  refine VW.tlE [(7, .val (dI v7)), (9, .ref 9 [] false (dM x9.1)), (10, .val (.bool x9.2))] (hCK8) ?_ ?_
  · clear hx9
    refine hK8 _ ?_
    refine VW.sqc fun K28 hK28 hCK28 => ?_
    -- region 14
    refine VW.ws tau_ok Sound.none [some 73, some 74] [(7, .val (dI v7)), (9, .ref 9 [] false (dM x9.1)), (74, .val (.bool (!x9.2)))] rfl ?_ ?_
    · simp <;> simp [ieq, ilt, ile]
    obtain ⟨x29, hx29, h⟩ := bind_some h
    refine VW.tlE [(9, .ref 9 [] false (dM x29))] (hCK28) ?_ ?_
    · clear hx29
      refine hK28 _ ?_
      -- region 16
      refine VW.ws tau_ok Sound.none [some 79, some 6] [(6, .ref 6 [] false (dM x29))] rfl ?_ ?_
      · simp <;> simp [ieq, ilt, ile]
      have hr0 := Option.some.inj h
      subst hr0
      refine VW.fits (fl' := [(6, .val (dM x29))]) (Fits.freeze (s := 6) rfl (by simp) (Fits.of rfl)) ?_
      refine VW.ret ?_
      simp [Post, PostM, PostC, PostC2, Nx, Bk]
    refine VW.cond rfl (fun hb31 => ?_) (fun hb31 => ?_)
    rotate_left
    ·
      replace hb31 : ¬ (x9.2 = false) := by simpa [ieq, ilt, ile] using hb31
      rw [if_neg hb31] at hx29
      refine VW.skip ?_
      cases hx29
      exact Fits.of rfl
    replace hb31 : x9.2 = false := by simpa [ieq, ilt, ile] using hb31
    rw [if_pos hb31] at hx29
    -- region 15
    obtain ⟨hc32, hx29⟩ := chk_some hx29
    have hc32s := hc32
    try simp at hc32s
    refine VW.wr tau_ok Sound.none [some 75, some 76, some 77, some 78, some 9] [(9, .ref 9 [] false (dM (x9.1 ++ [v7])))] rfl ?_ ?_
    · simp [hc32, hc32s] <;> simp [ieq, ilt, ile]
    cases hx29
    exact Fits.of rfl
  refine VW.block ?_
  refine VW.loopF (s_l12Put_L0 a0 a1 v2 v7) (fun s9 => [(0, .val (i64 a0)), (1, .val (dM a1)), (7, .val (dI v7)), (8, .val (i64 v2)), (9, .ref 9 [] false (dM s9.1)), (10, .val (.bool s9.2.1)), (11, .val (i64 s9.2.2))]) hx9 (Fits.freeze (s := 7) rfl (by simp) (Fits.weak (s := 9) rfl (by simp) (Fits.of rfl))) ?_
  clear hx9
  intro s9 ox9 hx9o hx9b
  unfold s_l12Put_L0 at hx9o
  refine VW.sqc fun K11 hK11 hCK11 => ?_
  -- region 8
  refine VW.ws tau_ok Sound.none [some 33, some 34, some 35, some 36] [(0, .val (i64 a0)), (1, .val (dM a1)), (7, .val (dI v7)), (8, .val (i64 v2)), (9, .ref 9 [] false (dM s9.1)), (10, .val (.bool s9.2.1)), (11, .val (i64 s9.2.2)), (36, .val (.bool (ilt s9.2.2 (a1.length : Int))))] rfl ?_ ?_
  · simp <;> simp [ieq, ilt, ile]
  refine VW.cond rfl (fun hb12 => ?_) (fun hb12 => ?_)
  rotate_left
  ·
    replace hb12 : ¬ (s9.2.2 < (a1.length : Int)) := by simpa [ieq, ilt, ile] using hb12
    rw [if_neg hb12] at hx9o
    refine VW.exit ?_
    cases hx9o
    have hq := hx9b _ rfl
    subst hq
    exact Fits.of rfl
  replace hb12 : s9.2.2 < (a1.length : Int) := by simpa [ieq, ilt, ile] using hb12
  rw [if_pos hb12] at hx9o
  refine VW.skip ?_
  refine hK11 _ ?_
  refine VW.sqc fun K13 hK13 hCK13 => ?_
  refine VW.block ?_
  refine VW.sqc fun K14 hK14 hCK14 => ?_
  -- region 10
  obtain ⟨x18, hx18, hx9o⟩ := bind_some hx9o
  refine VW.cut [(0, .val (i64 a0)), (1, .val (dM a1)), (7, .val (dI v7)), (8, .val (i64 v2)), (9, .ref 9 [] false (dM s9.1)), (10, .val (.bool s9.2.1)), (11, .val (i64 s9.2.2)), (49, .val (.bool x18))] ?_ fun hy => ?_
  rotate_left
  · clear hx9o
    by_cases hp15 : s9.2.1 = false
    · rw [if_pos hp15] at hx18
      have hp15b : s9.2.1 = false := by simpa [ieq, ilt, ile] using hp15
      have hp15s := hp15b
      try simp at hp15s
      obtain ⟨v16, hv16, hx18⟩ := bind_some hx18
      obtain ⟨hv16a, hv16b, hv16c, hv16d⟩ := idx_some hv16
      obtain ⟨v17, hv17, hx18⟩ := bind_some hx18
      cases hx18
      refine VW.ws tau_ok (Sound.none.add 46 (s_l12First_ok hv17) rfl) [some 39, some 40, some 41, some 42, some 43, some 44, some 45, some 46, some 47, some 48, some 49] _ rfl ?_ hy
      simp [hp15b, hp15s, hv16a, hv16b, hv16c, hv16d] <;> simp [ieq, ilt, ile]
    · rw [if_neg hp15] at hx18
      have hp15b : s9.2.1 = true := by simpa [ieq, ilt, ile] using hp15
      have hp15s := hp15b
      try simp at hp15s
      cases hx18
      refine VW.ws tau_ok Sound.none [some 39, some 40, some 41, some 42, some 43, some 44, some 45, some 46, some 47, some 48, some 49] _ rfl ?_ hy
      simp [hp15b, hp15s] <;> simp [ieq, ilt, ile]
  obtain ⟨x19, hx19, hx9o⟩ := bind_some hx9o
  refine VW.tlE [(0, .val (i64 a0)), (1, .val (dM a1)), (7, .val (dI v7)), (8, .val (i64 v2)), (9, .ref 9 [] false (dM x19.1)), (10, .val (.bool x19.2)), (11, .val (i64 s9.2.2))] (hCK14) ?_ ?_
  · clear hx19
    refine hK14 _ ?_
    -- region 13
    obtain ⟨v23, hv23, hx9o⟩ := bind_some hx9o
    obtain ⟨hv23a, hv23b, hv23c, hv23d⟩ := idx_some hv23
    obtain ⟨v24, hv24, hx9o⟩ := bind_some hx9o
    obtain ⟨hv24a, hv24b, hv24c, hv24d⟩ := idx_some hv24
    obtain ⟨v25, hv25, hx9o⟩ := bind_some hx9o
    obtain ⟨v26, hv26, hx9o⟩ := bind_some hx9o
    obtain ⟨hc27, hx9o⟩ := chk_some hx9o
    have hc27s := hc27
    try simp at hc27s
    refine VW.wdr tau_ok ((Sound.none.add 69 (s_l11Scale_ok hv25) rfl).add 70 (s_l11Minus_ok hv26) rfl) try_mixed [some 54, some 55, some 56, some 57, some 58, some 59, some 60, some 61, some 62, some 63, some 64, some 65, some 66, some 67, some 68, some 69, some 70, some 71, some 72, some 9] [(0, .val (i64 a0)), (1, .val (dM a1)), (7, .val (dI v7)), (8, .val (i64 v2)), (9, .ref 9 [] false (dM (x19.1 ++ [v26]))), (10, .val (.bool x19.2)), (11, .val (i64 s9.2.2))] 17 rfl (by kernel_rfl) (by rfl) ?_ ?_
    · simp [hv23a, hv23b, hv23c, hv23d, hv24a, hv24b, hv24c, hv24d, hc27, hc27s] <;> simp [ieq, ilt, ile]
    refine hK13 _ ?_
    -- region 9
    refine VW.wr tau_ok Sound.none [some 37, some 38, some 11] [(0, .val (i64 a0)), (1, .val (dM a1)), (7, .val (dI v7)), (8, .val (i64 v2)), (9, .ref 9 [] false (dM (x19.1 ++ [v26]))), (10, .val (.bool x19.2)), (11, .val (i64 (w64 (s9.2.2 + 1))))] rfl ?_ ?_
    · simp <;> simp [ieq, ilt, ile]
    cases hx9o
    exact ⟨_, rfl, Fits.of rfl⟩
  refine VW.cond rfl (fun hb21 => ?_) (fun hb21 => ?_)
  rotate_left
  ·
    replace hb21 : ¬ (x18 = true) := by simpa [ieq, ilt, ile] using hb21
    rw [if_neg hb21] at hx19
    refine VW.skip ?_
    cases hx19
    exact Fits.of rfl
  replace hb21 : x18 = true := by simpa [ieq, ilt, ile] using hb21
  rw [if_pos hb21] at hx19
  -- region 11
  obtain ⟨hc22, hx19⟩ := chk_some hx19
  have hc22s := hc22
  try simp at hc22s
  refine VW.ws tau_ok Sound.none [some 50, some 51, some 52, some 53, some 9] [(0, .val (i64 a0)), (1, .val (dM a1)), (7, .val (dI v7)), (8, .val (i64 v2)), (9, .ref 9 [] false (dM (s9.1 ++ [v7]))), (11, .val (i64 s9.2.2))] rfl ?_ ?_
  · simp [hc22, hc22s] <;> simp [ieq, ilt, ile]
  -- region 12
  refine VW.wr tau_ok Sound.none [some 10] [(0, .val (i64 a0)), (1, .val (dM a1)), (7, .val (dI v7)), (8, .val (i64 v2)), (9, .ref 9 [] false (dM (s9.1 ++ [v7]))), (10, .val (.bool true)), (11, .val (i64 s9.2.2))] rfl ?_ ?_
  · simp <;> simp [ieq, ilt, ile]
  cases hx19
  exact Fits.of rfl

theorem s_l12Reduced_ok {a0 : Int} {a1 : List (List Int)} {r : List (List Int)} (h : s_l12Reduced a0 a1 = some r) :
    VCall Try.prog 191 [i64 a0, dM a1] [.shr (dM r)] := by
  unfold s_l12Reduced at h
  refine VCall.enter Try.call191 Try.func191 rfl 22 Try.ntmps191 (by simp) [.tmp 4] rfl ?_
  show VW _ _ _ (mk [(0, .val (i64 a0)), (1, .val (dM a1))]) _
  -- region 0
  refine VW.ws tau_ok Sound.none [some 4] [(0, .val (i64 a0)), (1, .val (dM a1))] rfl ?_ ?_
  · simp <;> simp [ieq, ilt, ile]
  -- region 1
  refine VW.ws tau_ok Sound.none [some 7, some 5] [(0, .val (i64 a0)), (1, .val (dM a1)), (5, .ref 5 [] true (dM []))] rfl ?_ ?_
  · simp <;> simp [ieq, ilt, ile]
  refine VW.sqc fun K1 hK1 hCK1 => ?_
  -- region 2
  refine VW.ws tau_ok Sound.none [some 6] [(0, .val (i64 a0)), (1, .val (dM a1)), (5, .ref 5 [] true (dM [])), (6, .val (i64 0))] rfl ?_ ?_
  · simp <;> simp [ieq, ilt, ile]
  obtain ⟨x2, hx2, h⟩ := bind_some h
  refine VW.tlE [(5, .val (dM x2))] (hCK1) ?_ ?_
  · clear hx2
    refine hK1 _ ?_
    -- region 6
    refine VW.ws tau_ok Sound.none [some 21, some 4] [(4, .val (dM x2))] rfl ?_ ?_
    · simp <;> simp [ieq, ilt, ile]
    cases h
    refine VW.ret ?_
    simp [Post, PostM, PostC, PostC2, Nx, Bk]
  refine VW.block ?_
  refine VW.loopF (s_l12Reduced_L0 a0 a1) (fun s2 => [(0, .val (i64 a0)), (1, .val (dM a1)), (5, .val (dM s2.1)), (6, .val (i64 s2.2))]) hx2 (Fits.freeze (s := 5) rfl (by simp) (Fits.of rfl)) ?_
  clear hx2
  intro s2 ox2 hx2o hx2b
  unfold s_l12Reduced_L0 at hx2o
  refine VW.sqc fun K4 hK4 hCK4 => ?_
  -- region 3
  refine VW.ws tau_ok Sound.none [some 8, some 9, some 10, some 11] [(0, .val (i64 a0)), (1, .val (dM a1)), (5, .val (dM s2.1)), (6, .val (i64 s2.2)), (11, .val (.bool (ilt s2.2 (a1.length : Int))))] rfl ?_ ?_
  · simp <;> simp [ieq, ilt, ile]
  refine VW.cond rfl (fun hb5 => ?_) (fun hb5 => ?_)
  rotate_left
  ·
    replace hb5 : ¬ (s2.2 < (a1.length : Int)) := by simpa [ieq, ilt, ile] using hb5
    rw [if_neg hb5] at hx2o
    refine VW.exit ?_
    cases hx2o
    have hq := hx2b _ rfl
    subst hq
    exact Fits.of rfl
  replace hb5 : s2.2 < (a1.length : Int) := by simpa [ieq, ilt, ile] using hb5
  rw [if_pos hb5] at hx2o
  refine VW.skip ?_
  refine hK4 _ ?_
  refine VW.sqc fun K6 hK6 hCK6 => ?_
  refine VW.block ?_
  -- region 5
  obtain ⟨v7, hv7, hx2o⟩ := bind_some hx2o
  obtain ⟨hv7a, hv7b, hv7c, hv7d⟩ := idx_some hv7
  obtain ⟨v8, hv8, hx2o⟩ := bind_some hx2o
  refine VW.wr tau_ok (Sound.none.add 20 (s_l12Put_ok hv8) rfl) [some 14, some 15, some 16, some 17, some 18, some 19, some 20, some 5] [(0, .val (i64 a0)), (1, .val (dM a1)), (5, .val (dM v8)), (6, .val (i64 s2.2))] rfl ?_ ?_
  · simp [hv7a, hv7b, hv7c, hv7d] <;> simp [ieq, ilt, ile]
  refine hK6 _ ?_
  -- region 4
  refine VW.wr tau_ok Sound.none [some 12, some 13, some 6] [(0, .val (i64 a0)), (1, .val (dM a1)), (5, .val (dM v8)), (6, .val (i64 (w64 (s2.2 + 1))))] rfl ?_ ?_
  · simp <;> simp [ieq, ilt, ile]
  cases hx2o
  exact ⟨_, rfl, Fits.of rfl⟩

theorem s_l01Index_ok {a0 : List Int} {a1 : Int} {r : Int} (h : s_l01Index a0 a1 = some r) :
    VCall Try.prog 229 [dI a0, i64 a1] [.sc (i64 r)] := by
  unfold s_l01Index at h
  refine VCall.enter Try.call229 Try.func229 rfl 19 Try.ntmps229 (by simp) [.tmp 4] rfl ?_
  show VW _ _ _ (mk [(0, .val (dI a0)), (1, .val (i64 a1))]) _
  -- region 0
  refine VW.ws tau_ok Sound.none [some 4] [(0, .val (dI a0)), (1, .val (i64 a1))] rfl ?_ ?_
  · simp <;> simp [ieq, ilt, ile]
  refine VW.sqc fun K1 hK1 hCK1 => ?_
  -- region 1
  refine VW.ws tau_ok Sound.none [some 5] [(0, .val (dI a0)), (1, .val (i64 a1)), (5, .val (i64 0))] rfl ?_ ?_
  · simp <;> simp [ieq, ilt, ile]
  obtain ⟨x2, hx2, h⟩ := bind_some h
  refine VW.tlO (fun y4 => []) x2 (hCK1) ?_ ?_
  · clear hx2
    rintro y4 rfl
    dsimp only at h
    refine hK1 _ ?_
    -- region 6
    refine VW.ws tau_ok Sound.none [some 4] [(4, .val (i64 (-1)))] rfl ?_ ?_
    · simp <;> simp [ieq, ilt, ile]
    cases h
    refine VW.ret ?_
    simp [Post, PostM, PostC, PostC2, Nx, Bk]
  refine VW.block ?_
  refine VW.loopF (s_l01Index_L0 a0 a1) (fun s2 => [(0, .val (dI a0)), (1, .val (i64 a1)), (5, .val (i64 s2))]) hx2 (Fits.of rfl) ?_
  clear hx2
  intro s2 ox2 hx2o hx2b
  unfold s_l01Index_L0 at hx2o
  refine VW.sqc fun K5 hK5 hCK5 => ?_
  -- region 2
  refine VW.ws tau_ok Sound.none [some 6, some 7, some 8, some 9] [(0, .val (dI a0)), (1, .val (i64 a1)), (5, .val (i64 s2)), (9, .val (.bool (ilt s2 (a0.length : Int))))] rfl ?_ ?_
  · simp <;> simp [ieq, ilt, ile]
  refine VW.cond rfl (fun hb6 => ?_) (fun hb6 => ?_)
  rotate_left
  ·
    replace hb6 : ¬ (s2 < (a0.length : Int)) := by simpa [ieq, ilt, ile] using hb6
    rw [if_neg hb6] at hx2o
    refine VW.exit ?_
    cases hx2o
    have hq := hx2b _ rfl
    subst hq
    exact ⟨_, rfl, Fits.of rfl⟩
  replace hb6 : s2 < (a0.length : Int) := by simpa [ieq, ilt, ile] using hb6
  rw [if_pos hb6] at hx2o
  refine VW.skip ?_
  refine hK5 _ ?_
  refine VW.sqc fun K7 hK7 hCK7 => ?_
  refine VW.block ?_
  -- region 4
  obtain ⟨v8, hv8, hx2o⟩ := bind_some hx2o
  obtain ⟨hv8a, hv8b, hv8c, hv8d⟩ := idx_some hv8
  refine VW.ws tau_ok Sound.none [some 12, some 13, some 14, some 15, some 16, some 17] [(0, .val (dI a0)), (1, .val (i64 a1)), (5, .val (i64 s2)), (17, .val (.bool (ieq v8 a1)))] rfl ?_ ?_
  · simp [hv8a, hv8b, hv8c, hv8d] <;> simp [ieq, ilt, ile]
  refine VW.cond rfl (fun hb9 => ?_) (fun hb9 => ?_)
  rotate_left
  ·
    replace hb9 : ¬ (v8 = a1) := by simpa [ieq, ilt, ile] using hb9
    rw [if_neg hb9] at hx2o
    refine VW.skip ?_
    refine hK7 _ ?_
    -- region 3
    refine VW.wr tau_ok Sound.none [some 10, some 11, some 5] [(0, .val (dI a0)), (1, .val (i64 a1)), (5, .val (i64 (w64 (s2 + 1))))] rfl ?_ ?_
    · simp <;> simp [ieq, ilt, ile]
    cases hx2o
    exact ⟨_, rfl, Fits.of rfl⟩
  replace hb9 : v8 = a1 := by simpa [ieq, ilt, ile] using hb9
  rw [if_pos hb9] at hx2o
  -- region 5
  refine VW.ws tau_ok Sound.none [some 18, some 4] [(4, .val (i64 s2))] rfl ?_ ?_
  · simp <;> simp [ieq, ilt, ile]
  cases hx2o
  have hq := hx2b _ rfl
  subst hq
  dsimp only at h
  cases h
  refine VW.ret ?_
  simp [Post, PostM, PostC, PostC2, Nx, Bk]

theorem s_l01Has_ok {a0 : List Int} {a1 : Int} {r : Bool} (h : s_l01Has a0 a1 = some r) :
    VCall Try.prog 193 [dI a0, i64 a1] [.sc (.bool r)] := by
  unfold s_l01Has at h
  refine VCall.enter Try.call193 Try.func193 rfl 9 Try.ntmps193 (by simp) [.tmp 4] rfl ?_
  show VW _ _ _ (mk [(0, .val (dI a0)), (1, .val (i64 a1))]) _
  -- region 0
  refine VW.ws tau_ok Sound.none [some 4] [(0, .val (dI a0)), (1, .val (i64 a1))] rfl ?_ ?_
  · simp <;> simp [ieq, ilt, ile]
  -- region 1
  obtain ⟨v1, hv1, h⟩ := bind_some h
  refine VW.ws tau_ok (Sound.none.add 7 (s_l01Index_ok hv1) rfl) [some 5, some 6, some 7, some 8, some 4] [(4, .val (.bool (ile 0 v1)))] rfl ?_ ?_
  · simp <;> simp [ieq, ilt, ile]
  cases h
  refine VW.ret ?_
  simp [Post, PostM, PostC, PostC2, Nx, Bk]

theorem s_l12Kernel_ok {a0 : Int} {a1 : Int} {a2 : List (List Int)} {r : List (List Int)} (h : s_l12Kernel a0 a1 a2 = some r) :
    VCall Try.prog 122 [i64 a0, i64 a1, dM a2] [.shr (dM r)] := by
  unfold s_l12Kernel at h
  refine VCall.enter Try.call122 Try.func122 rfl 75 Try.ntmps122 (by simp) [.tmp 6] rfl ?_
  show VW _ _ _ (mk [(0, .val (i64 a0)), (1, .val (i64 a1)), (2, .val (dM a2))]) _
  -- region 0
  refine VW.ws tau_ok Sound.none [some 6] [(0, .val (i64 a0)), (1, .val (i64 a1)), (2, .val (dM a2))] rfl ?_ ?_
  · simp <;> simp [ieq, ilt, ile]
  -- region 1
  obtain ⟨v1, hv1, h⟩ := bind_some h
  refine VW.ws tau_ok (Sound.none.add 16 (s_l12Reduced_ok hv1) rfl) [some 14, some 15, some 16, some 17, some 7, some 8] [(0, .val (i64 a0)), (1, .val (i64 a1)), (7, .val (dM v1)), (8, .ref 8 [] true (dM []))] rfl ?_ ?_
  · simp <;> simp [ieq, ilt, ile]
  -- region 2
  refine VW.ws tau_ok Sound.none [some 18, some 9] [(0, .val (i64 a0)), (1, .val (i64 a1)), (7, .val (dM v1)), (8, .ref 8 [] true (dM [])), (9, .ref 9 [] true (dI []))] rfl ?_ ?_
  · simp <;> simp [ieq, ilt, ile]
  refine VW.sqc fun K2 hK2 hCK2 => ?_
  -- region 3
  refine VW.ws tau_ok Sound.none [some 10] [(0, .val (i64 a0)), (1, .val (i64 a1)), (7, .val (dM v1)), (8, .ref 8 [] true (dM [])), (9, .ref 9 [] true (dI [])), (10, .val (i64 0))] rfl ?_ ?_
  · simp <;> simp [ieq, ilt, ile]
  obtain ⟨x3, hx3, h⟩ := bind_some h
  refine VW.tlE [(0, .val (i64 a0)), (1, .val (i64 a1)), (7, .val (dM v1)), (8, .ref 8 [] true (dM [])), (9, .ref 9 [] true (dI x3))] (hCK2) ?_ ?_
  · clear hx3
    refine hK2 _ ?_
    refine VW.sqc fun K11 hK11 hCK11 => ?_
    -- region 7
    refine VW.ws tau_ok Sound.none [some 11] [(0, .val (i64 a0)), (1, .val (i64 a1)), (7, .val (dM v1)), (8, .ref 8 [] true (dM [])), (9, .ref 9 [] true (dI x3)), (11, .val (i64 0))] rfl ?_ ?_
    · simp <;> simp [ieq, ilt, ile]
    obtain ⟨x12, hx12, h⟩ := bind_some h
    refine VW.tlE [(0, .val (i64 a0)), (8, .ref 8 [] true (dM x12))] (hCK11) ?_ ?_
    · clear hx12
      refine hK11 _ ?_
      -- region 18
      obtain ⟨v37, hv37, h⟩ := bind_some h
      refine VW.ws tau_ok (Sound.none.add 74 (s_l12Reduced_ok hv37) rfl) [some 72, some 73, some 74, some 6] [(6, .val (dM v37))] rfl ?_ ?_
      · simp <;> simp [ieq, ilt, ile]
      cases h
      refine VW.ret ?_
      simp [Post, PostM, PostC, PostC2, Nx, Bk]
    refine VW.block ?_
    refine VW.loopF (s_l12Kernel_L1 a0 a1 v1 x3) (fun s12 => [(0, .val (i64 a0)), (1, .val (i64 a1)), (7, .val (dM v1)), (8, .ref 8 [] true (dM s12.1)), (9, .ref 9 [] true (dI x3)), (11, .val (i64 s12.2))]) hx12 (Fits.of rfl) ?_
    clear hx12
    intro s12 ox12 hx12o hx12b
    unfold s_l12Kernel_L1 at hx12o
    refine VW.sqc fun K14 hK14 hCK14 => ?_
    -- region 8
    refine VW.ws tau_ok Sound.none [some 33, some 34, some 35] [(0, .val (i64 a0)), (1, .val (i64 a1)), (7, .val (dM v1)), (8, .ref 8 [] true (dM s12.1)), (9, .ref 9 [] true (dI x3)), (11, .val (i64 s12.2)), (35, .val (.bool (ilt s12.2 a1)))] rfl ?_ ?_
    · simp <;> simp [ieq, ilt, ile]
    refine VW.cond rfl (fun hb15 => ?_) (fun hb15 => ?_)
    rotate_left
    ·
      replace hb15 : ¬ (s12.2 < a1) := by simpa [ieq, ilt, ile] using hb15
      rw [if_neg hb15] at hx12o
      refine VW.exit ?_
      cases hx12o
      have hq := hx12b _ rfl
      subst hq
      exact Fits.of rfl
    replace hb15 : s12.2 < a1 := by simpa [ieq, ilt, ile] using hb15
    rw [if_pos hb15] at hx12o
    refine VW.skip ?_
    refine hK14 _ ?_
    refine VW.sqc fun K16 hK16 hCK16 => ?_
    obtain ⟨x17, hx17, hx12o⟩ := bind_some hx12o
    refine VW.tlE [(0, .val (i64 a0)), (1, .val (i64 a1)), (7, .val (dM v1)), (8, .ref 8 [] true (dM x17)), (9, .ref 9 [] true (dI x3)), (11, .val (i64 s12.2))] (hCK16) ?_ ?_
    · clear hx17
      refine hK16 _ ?_
      -- region 9
      refine VW.wr tau_ok Sound.none [some 36, some 37, some 11] [(0, .val (i64 a0)), (1, .val (i64 a1)), (7, .val (dM v1)), (8, .ref 8 [] true (dM x17)), (9, .ref 9 [] true (dI x3)), (11, .val (i64 (w64 (s12.2 + 1))))] rfl ?_ ?_
      · simp <;> simp [ieq, ilt, ile]
      cases hx12o
      exact ⟨_, rfl, Fits.of rfl⟩
    refine VW.block ?_
    refine VW.sqc fun K19 hK19 hCK19 => ?_
    -- region 10
    obtain ⟨v20, hv20, hx17⟩ := bind_some hx17
    refine VW.ws tau_ok (Sound.none.add 40 (s_l01Has_ok hv20) rfl) [some 38, some 39, some 40] [(0, .val (i64 a0)), (1, .val (i64 a1)), (7, .val (dM v1)), (8, .ref 8 [] true (dM s12.1)), (9, .ref 9 [] true (dI x3)), (11, .val (i64 s12.2)), (40, .val (.bool v20))] rfl ?_ ?_
    · simp <;> simp [ieq, ilt, ile]
    refine VW.cond rfl (fun hb21 => ?_) (fun hb21 => ?_)
    ·
      replace hb21 : v20 = true := by simpa [ieq, ilt, ile] using hb21
      rw [if_pos hb21] at hx17
      refine VW.exit ?_
      cases hx17
      exact Fits.of rfl
    replace hb21 : ¬ (v20 = true) := by simpa [ieq, ilt, ile] using hb21
    rw [if_neg hb21] at hx17
    refine VW.skip ?_
    refine hK19 _ ?_
    -- region 11
    obtain ⟨hc22, hx17⟩ := chk_some hx17
    have hc22s := hc22
    try simp at hc22s
    refine VW.ws tau_ok Sound.none [some 41, some 42, some 12] [(0, .val (i64 a0)), (1, .val (i64 a1)), (7, .val (dM v1)), (8, .ref 8 [] true (dM s12.1)), (9, .ref 9 [] true (dI x3)), (11, .val (i64 s12.2)), (12, .ref 12 [] true (dI (List.replicate a1.toNat 0)))] rfl ?_ ?_
    · simp [hc22, hc22s] <;> simp [ieq, ilt, ile]
    obtain ⟨l23, hl23, hx17⟩ := bind_some hx17
    rw [Option.some.inj hl23]
    -- region 12
    obtain ⟨v24, hv24, hx17⟩ := bind_some hx17
    obtain ⟨hv24a, hv24b, hv24c, hv24d⟩ := idx_some hv24
    refine VW.ws tau_ok Sound.none [some 43, some 44, some 45, none] [(0, .val (i64 a0)), (1, .val (i64 a1)), (7, .val (dM v1)), (8, .ref 8 [] true (dM s12.1)), (9, .ref 9 [] true (dI x3)), (11, .val (i64 s12.2)), (12, .ref 12 [] true (dI (l23.set s12.2.toNat 1)))] rfl ?_ ?_
    · simp [hv24a, hv24b, hv24c, hv24d] <;> simp [ieq, ilt, ile]
    refine VW.sqc fun K25 hK25 hCK25 => ?_
    -- region 13
    refine VW.ws tau_ok Sound.none [some 13] [(0, .val (i64 a0)), (1, .val (i64 a1)), (7, .val (dM v1)), (8, .ref 8 [] true (dM s12.1)), (9, .ref 9 [] true (dI x3)), (11, .val (i64 s12.2)), (12, .ref 12 [] true (dI (l23.set s12.2.toNat 1))), (13, .val (i64 0))] rfl ?_ ?_
    · simp <;> simp [ieq, ilt, ile]
    obtain ⟨x26, hx26, hx17⟩ := bind_some hx17
    refine VW.tlE [(0, .val (i64 a0)), (1, .val (i64 a1)), (7, .val (dM v1)), (8, .ref 8 [] true (dM s12.1)), (9, .ref 9 [] true (dI x3)), (11, .val (i64 s12.2)), (12, .ref 12 [] true (dI x26))] (hCK25) ?_ ?_
    · clear hx26
      refine hK25 _ ?_
      -- region 17
      obtain ⟨hc36, hx17⟩ := chk_some hx17
      have hc36s := hc36
      try simp at hc36s
      refine VW.wr tau_ok Sound.none [some 68, some 69, some 70, some 71, some 8] [(0, .val (i64 a0)), (1, .val (i64 a1)), (7, .val (dM v1)), (8, .ref 8 [] true (dM (s12.1 ++ [x26]))), (9, .ref 9 [] true (dI x3)), (11, .val (i64 s12.2))] rfl ?_ ?_
      · simp [hc36, hc36s] <;> simp [ieq, ilt, ile]
      cases hx17
      exact Fits.of rfl
    refine VW.block ?_
    refine VW.loopF (s_l12Kernel_L2 a0 v1 x3 s12) (fun s26 => [(0, .val (i64 a0)), (1, .val (i64 a1)), (7, .val (dM v1)), (8, .ref 8 [] true (dM s12.1)), (9, .ref 9 [] true (dI x3)), (11, .val (i64 s12.2)), (12, .ref 12 [] true (dI s26.1)), (13, .val (i64 s26.2))]) hx26 (Fits.of rfl) ?_
    clear hx26
    intro s26 ox26 hx26o hx26b
    unfold s_l12Kernel_L2 at hx26o
    refine VW.sqc fun K28 hK28 hCK28 => ?_
    -- region 14
    refine VW.ws tau_ok Sound.none [some 46, some 47, some 48, some 49] [(0, .val (i64 a0)), (1, .val (i64 a1)), (7, .val (dM v1)), (8, .ref 8 [] true (dM s12.1)), (9, .ref 9 [] true (dI x3)), (11, .val (i64 s12.2)), (12, .ref 12 [] true (dI s26.1)), (13, .val (i64 s26.2)), (49, .val (.bool (ilt s26.2 (v1.length : Int))))] rfl ?_ ?_
    · simp <;> simp [ieq, ilt, ile]
    refine VW.cond rfl (fun hb29 => ?_) (fun hb29 => ?_)
    rotate_left
    ·
      replace hb29 : ¬ (s26.2 < (v1.length : Int)) := by simpa [ieq, ilt, ile] using hb29
      rw [if_neg hb29] at hx26o
      refine VW.exit ?_
      cases hx26o
      have hq := hx26b _ rfl
      subst hq
      exact Fits.of rfl
    replace hb29 : s26.2 < (v1.length : Int) := by simpa [ieq, ilt, ile] using hb29
    rw [if_pos hb29] at hx26o
    refine VW.skip ?_
    refine hK28 _ ?_
    refine VW.sqc fun K30 hK30 hCK30 => ?_
    refine VW.block ?_
    -- region 16
    obtain ⟨v31, hv31, hx26o⟩ := bind_some hx26o
    obtain ⟨hv31a, hv31b, hv31c, hv31d⟩ := idx_some hv31
    obtain ⟨v32, hv32, hx26o⟩ := bind_some hx26o
    obtain ⟨hv32a, hv32b, hv32c, hv32d⟩ := idx_some hv32
    obtain ⟨v33, hv33, hx26o⟩ := bind_some hx26o
    obtain ⟨hv33a, hv33b, hv33c, hv33d⟩ := idx_some hv33
    obtain ⟨v34, hv34, hx26o⟩ := bind_some hx26o
    obtain ⟨v35, hv35, hx26o⟩ := bind_some hx26o
    obtain ⟨hv35a, hv35b, hv35c, hv35d⟩ := idx_some hv35
    refine VW.wdr tau_ok (Sound.none.add 66 (s_l01Mod_ok hv34) rfl) try_mixed [some 52, some 53, some 54, some 55, some 56, some 57, some 58, some 59, some 60, some 61, some 62, some 63, some 64, some 65, some 66, some 67, none] [(0, .val (i64 a0)), (1, .val (i64 a1)), (7, .val (dM v1)), (8, .ref 8 [] true (dM s12.1)), (9, .ref 9 [] true (dI x3)), (11, .val (i64 s12.2)), (12, .ref 12 [] true (dI (s26.1.set v31.toNat v34))), (13, .val (i64 s26.2))] 16 rfl (by kernel_rfl) (by rfl) ?_ ?_
    · simp [hv31a, hv31b, hv31c, hv31d, hv32a, hv32b, hv32c, hv32d, hv33a, hv33b, hv33c, hv33d, hv35a, hv35b, hv35c, hv35d] <;> simp [ieq, ilt, ile]
    refine hK30 _ ?_
    -- region 15
    refine VW.wr tau_ok Sound.none [some 50, some 51, some 13] [(0, .val (i64 a0)), (1, .val (i64 a1)), (7, .val (dM v1)), (8, .ref 8 [] true (dM s12.1)), (9, .ref 9 [] true (dI x3)), (11, .val (i64 s12.2)), (12, .ref 12 [] true (dI (s26.1.set v31.toNat v34))), (13, .val (i64 (w64 (s26.2 + 1))))] rfl ?_ ?_
    · simp <;> simp [ieq, ilt, ile]
    cases hx26o
    exact ⟨_, rfl, Fits.of rfl⟩
  refine VW.block ?_
  refine VW.loopF (s_l12Kernel_L0 v1) (fun s3 => [(0, .val (i64 a0)), (1, .val (i64 a1)), (7, .val (dM v1)), (8, .ref 8 [] true (dM [])), (9, .ref 9 [] true (dI s3.1)), (10, .val (i64 s3.2))]) hx3 (Fits.of rfl) ?_
  clear hx3
  intro s3 ox3 hx3o hx3b
  unfold s_l12Kernel_L0 at hx3o
  refine VW.sqc fun K5 hK5 hCK5 => ?_
  -- region 4
  refine VW.ws tau_ok Sound.none [some 19, some 20, some 21, some 22] [(0, .val (i64 a0)), (1, .val (i64 a1)), (7, .val (dM v1)), (8, .ref 8 [] true (dM [])), (9, .ref 9 [] true (dI s3.1)), (10, .val (i64 s3.2)), (22, .val (.bool (ilt s3.2 (v1.length : Int))))] rfl ?_ ?_
  · simp <;> simp [ieq, ilt, ile]
  refine VW.cond rfl (fun hb6 => ?_) (fun hb6 => ?_)
  rotate_left
  ·
    replace hb6 : ¬ (s3.2 < (v1.length : Int)) := by simpa [ieq, ilt, ile] using hb6
    rw [if_neg hb6] at hx3o
    refine VW.exit ?_
    cases hx3o
    have hq := hx3b _ rfl
    subst hq
    exact Fits.of rfl
  replace hb6 : s3.2 < (v1.length : Int) := by simpa [ieq, ilt, ile] using hb6
  rw [if_pos hb6] at hx3o
  refine VW.skip ?_
  refine hK5 _ ?_
  refine VW.sqc fun K7 hK7 hCK7 => ?_
  refine VW.block ?_
  -- region 6
  obtain ⟨v8, hv8, hx3o⟩ := bind_some hx3o
  obtain ⟨hv8a, hv8b, hv8c, hv8d⟩ := idx_some hv8
  obtain ⟨v9, hv9, hx3o⟩ := bind_some hx3o
  obtain ⟨hc10, hx3o⟩ := chk_some hx3o
  have hc10s := hc10
  try simp at hc10s
  refine VW.wr tau_ok (Sound.none.add 30 (s_l12First_ok hv9) rfl) [some 25, some 26, some 27, some 28, some 29, some 30, some 31, some 32, some 9] [(0, .val (i64 a0)), (1, .val (i64 a1)), (7, .val (dM v1)), (8, .ref 8 [] true (dM [])), (9, .ref 9 [] true (dI (s3.1 ++ [v9]))), (10, .val (i64 s3.2))] rfl ?_ ?_
  · simp [hv8a, hv8b, hv8c, hv8d, hc10, hc10s] <;> simp [ieq, ilt, ile]
  refine hK7 _ ?_
  -- region 5
  refine VW.wr tau_ok Sound.none [some 23, some 24, some 10] [(0, .val (i64 a0)), (1, .val (i64 a1)), (7, .val (dM v1)), (8, .ref 8 [] true (dM [])), (9, .ref 9 [] true (dI (s3.1 ++ [v9]))), (10, .val (i64 (w64 (s3.2 + 1))))] rfl ?_ ?_
  · simp <;> simp [ieq, ilt, ile]
  cases hx3o
  exact ⟨_, rfl, Fits.of rfl⟩

theorem s_l15Basis_ok {a0_0 : Int} {a0_1 : List Int} {r : List (List Int)} (h : s_l15Basis a0_0 a0_1 = some r) :
    VCall Try.prog 112 [.agg [i64 a0_0, dI a0_1]] [.shr (dM r)] := by
  unfold s_l15Basis at h
  refine VCall.enter Try.call112 Try.func112 rfl 163 Try.ntmps112 (by simp) [.tmp 2] rfl ?_
  show VW _ _ _ (mk [(0, .val (.agg [i64 a0_0, dI a0_1]))]) _
  -- region 0
  refine VW.ws tau_ok Sound.none [some 1, some 2] [(1, .val (.ptr [i64 a0_0, dI a0_1]))] rfl ?_ ?_
  · simp <;> simp [ieq, ilt, ile]
  -- region 1
  obtain ⟨v1, hv1, h⟩ := bind_some h
  obtain ⟨v2, hv2, h⟩ := bind_some h
  obtain ⟨v3, hv3, h⟩ := bind_some h
  refine VW.wds tau_ok (((Sound.none.add 16 (s_l11Basis_ok hv1) rfl).add 18 (s_l11Size_ok hv2) rfl).add 20 (s_l11Diagonal_ok hv3) rfl) try_mixed [some 15, some 16, some 17, some 18, some 19, some 20, some 3, some 4, some 5] [(1, .val (.ptr [i64 a0_0, dI a0_1])), (3, .ref 3 [] true (dM v1)), (4, .val (i64 v2)), (5, .ref 5 [] true (dI v3))] 6 rfl (by kernel_rfl) (by rfl) ?_ ?_
  · simp <;> simp [ieq, ilt, ile]
  -- region 2
  refine VW.ws tau_ok Sound.none [some 21, some 6] [(1, .val (.ptr [i64 a0_0, dI a0_1])), (3, .ref 3 [] true (dM v1)), (4, .val (i64 v2)), (5, .ref 5 [] true (dI v3)), (6, .ref 6 [] true (dM []))] rfl ?_ ?_
  · simp <;> simp [ieq, ilt, ile]
  refine VW.sqc fun K4 hK4 hCK4 => ?_
  -- region 3
  refine VW.ws tau_ok Sound.none [some 7] [(1, .val (.ptr [i64 a0_0, dI a0_1])), (3, .ref 3 [] true (dM v1)), (4, .val (i64 v2)), (5, .ref 5 [] true (dI v3)), (6, .ref 6 [] true (dM [])), (7, .val (i64 0))] rfl ?_ ?_
  · simp <;> simp [ieq, ilt, ile]
  obtain ⟨x5, hx5, h⟩ := bind_some h
  refine VW.tlE [(1, .val (.ptr [i64 a0_0, dI a0_1])), (3, .ref 3 [] true (dM v1)), (4, .val (i64 v2)), (6, .ref 6 [] true (dM x5))] (hCK4) ?_ ?_
  · clear hx5
    refine hK4 _ ?_
    refine VW.sqc fun K28 hK28 hCK28 => ?_
    -- region 16
    refine VW.ws tau_ok Sound.none [some 11] [(1, .val (.ptr [i64 a0_0, dI a0_1])), (3, .ref 3 [] true (dM v1)), (4, .val (i64 v2)), (6, .ref 6 [] true (dM x5)), (11, .val (i64 0))] rfl ?_ ?_
    · simp <;> simp [ieq, ilt, ile]
    obtain ⟨x29, hx29, h⟩ := bind_some h
    refine VW.tlE [(1, .val (.ptr [i64 a0_0, dI a0_1])), (4, .val (i64 v2)), (6, .ref 6 [] true (dM x29))] (hCK28) ?_ ?_
    · clear hx29
      refine hK28 _ ?_
      -- region 30
      obtain ⟨v55, hv55, h⟩ := bind_some h
      refine VW.ws tau_ok (Sound.none.add 162 (s_l12Kernel_ok hv55) rfl) [some 155, some 156, some 157, some 158, some 159, some 160, some 161, some 162, some 2] [(2, .val (dM v55))] rfl ?_ ?_
      · simp <;> simp [ieq, ilt, ile]
      cases h
      refine VW.ret ?_
      simp [Post, PostM, PostC, PostC2, Nx, Bk]
    refine VW.block ?_
    refine VW.loopF (s_l15Basis_L3 a0_0 a0_1 v1 v2) (fun s29 => [(1, .val (.ptr [i64 a0_0, dI a0_1])), (3, .ref 3 [] true (dM v1)), (4, .val (i64 v2)), (6, .ref 6 [] true (dM s29.1)), (11, .val (i64 s29.2))]) hx29 (Fits.of rfl) ?_
    clear hx29
    intro s29 ox29 hx29o hx29b
    unfold s_l15Basis_L3 at hx29o
    refine VW.sqc fun K31 hK31 hCK31 => ?_
    -- region 17
    refine VW.ws tau_ok Sound.none [some 75, some 76, some 77] [(1, .val (.ptr [i64 a0_0, dI a0_1])), (3, .ref 3 [] true (dM v1)), (4, .val (i64 v2)), (6, .ref 6 [] true (dM s29.1)), (11, .val (i64 s29.2)), (77, .val (.bool (ilt s29.2 v2)))] rfl ?_ ?_
    · simp <;> simp [ieq, ilt, ile]
    refine VW.cond rfl (fun hb32 => ?_) (fun hb32 => ?_)
    rotate_left
    ·
      replace hb32 : ¬ (s29.2 < v2) := by simpa [ieq, ilt, ile] using hb32
      rw [if_neg hb32] at hx29o
      refine VW.exit ?_
      cases hx29o
      have hq := hx29b _ rfl
      subst hq
      exact Fits.of rfl
    replace hb32 : s29.2 < v2 := by simpa [ieq, ilt, ile] using hb32
    rw [if_pos hb32] at hx29o
    refine VW.skip ?_
    refine hK31 _ ?_
    refine VW.sqc fun K33 hK33 hCK33 => ?_
    refine VW.block ?_
    -- region 19
    refine VW.ws tau_ok Sound.none [some 12] [(1, .val (.ptr [i64 a0_0, dI a0_1])), (3, .ref 3 [] true (dM v1)), (4, .val (i64 v2)), (6, .ref 6 [] true (dM s29.1)), (11, .val (i64 s29.2)), (12, .val (i64 0))] rfl ?_ ?_
    · simp <;> simp [ieq, ilt, ile]
    obtain ⟨x34, hx34, hx29o⟩ := bind_some hx29o
    refine VW.tlE [(1, .val (.ptr [i64 a0_0, dI a0_1])), (3, .ref 3 [] true (dM v1)), (4, .val (i64 v2)), (6, .ref 6 [] true (dM x34)), (11, .val (i64 s29.2))] (hCK33) ?_ ?_
    · clear hx34
      refine hK33 _ ?_
      -- region 18
      refine VW.wr tau_ok Sound.none [some 78, some 79, some 11] [(1, .val (.ptr [i64 a0_0, dI a0_1])), (3, .ref 3 [] true (dM v1)), (4, .val (i64 v2)), (6, .ref 6 [] true (dM x34)), (11, .val (i64 (w64 (s29.2 + 1))))] rfl ?_ ?_
      · simp <;> simp [ieq, ilt, ile]
      cases hx29o
      exact ⟨_, rfl, Fits.of rfl⟩
    refine VW.block ?_
    refine VW.loopF (s_l15Basis_L4 a0_0 a0_1 v1 v2 s29) (fun s34 => [(1, .val (.ptr [i64 a0_0, dI a0_1])), (3, .ref 3 [] true (dM v1)), (4, .val (i64 v2)), (6, .ref 6 [] true (dM s34.1)), (11, .val (i64 s29.2)), (12, .val (i64 s34.2))]) hx34 (Fits.of rfl) ?_
    clear hx34
    intro s34 ox34 hx34o hx34b
    unfold s_l15Basis_L4 at hx34o
    refine VW.sqc fun K36 hK36 hCK36 => ?_
    -- region 20
    refine VW.ws tau_ok Sound.none [some 80, some 81, some 82] [(1, .val (.ptr [i64 a0_0, dI a0_1])), (3, .ref 3 [] true (dM v1)), (4, .val (i64 v2)), (6, .ref 6 [] true (dM s34.1)), (11, .val (i64 s29.2)), (12, .val (i64 s34.2)), (82, .val (.bool (ilt s34.2 v2)))] rfl ?_ ?_
    · simp <;> simp [ieq, ilt, ile]
    refine VW.cond rfl (fun hb37 => ?_) (fun hb37 => ?_)
    rotate_left
    ·
      replace hb37 : ¬ (s34.2 < v2) := by simpa [ieq, ilt, ile] using hb37
      rw [if_neg hb37] at hx34o
      refine VW.exit ?_
      cases hx34o
      have hq := hx34b _ rfl
      subst hq
      exact Fits.of rfl
    replace hb37 : s34.2 < v2 := by simpa [ieq, ilt, ile] using hb37
    rw [if_pos hb37] at hx34o
    refine VW.skip ?_
    refine hK36 _ ?_
    refine VW.sqc fun K38 hK38 hCK38 => ?_
    refine VW.block ?_
    -- region 22
    refine VW.ws tau_ok Sound.none [some 13] [(1, .val (.ptr [i64 a0_0, dI a0_1])), (3, .ref 3 [] true (dM v1)), (4, .val (i64 v2)), (6, .ref 6 [] true (dM s34.1)), (11, .val (i64 s29.2)), (12, .val (i64 s34.2)), (13, .val (i64 0))] rfl ?_ ?_
    · simp <;> simp [ieq, ilt, ile]
    obtain ⟨x39, hx39, hx34o⟩ := bind_some hx34o
    refine VW.tlE [(1, .val (.ptr [i64 a0_0, dI a0_1])), (3, .ref 3 [] true (dM v1)), (4, .val (i64 v2)), (6, .ref 6 [] true (dM x39)), (11, .val (i64 s29.2)), (12, .val (i64 s34.2))] (hCK38) ?_ ?_
    · clear hx39
      refine hK38 _ ?_
      -- region 21
      refine VW.wr tau_ok Sound.none [some 83, some 84, some 12] [(1, .val (.ptr [i64 a0_0, dI a0_1])), (3, .ref 3 [] true (dM v1)), (4, .val (i64 v2)), (6, .ref 6 [] true (dM x39)), (11, .val (i64 s29.2)), (12, .val (i64 (w64 (s34.2 + 1))))] rfl ?_ ?_
      · simp <;> simp [ieq, ilt, ile]
      cases hx34o
      exact ⟨_, rfl, Fits.of rfl⟩
    refine VW.block ?_
    refine VW.loopF (s_l15Basis_L5 a0_0 a0_1 v1 v2 s29 s34) (fun s39 => [(1, .val (.ptr [i64 a0_0, dI a0_1])), (3, .ref 3 [] true (dM v1)), (4, .val (i64 v2)), (6, .ref 6 [] true (dM s39.1)), (11, .val (i64 s29.2)), (12, .val (i64 s34.2)), (13, .val (i64 s39.2))]) hx39 (Fits.of rfl) ?_
    clear hx39
    intro s39 ox39 hx39o hx39b
    unfold s_l15Basis_L5 at hx39o
    refine VW.sqc fun K41 hK41 hCK41 => ?_
    -- region 23
    refine VW.ws tau_ok Sound.none [some 85, some 86, some 87] [(1, .val (.ptr [i64 a0_0, dI a0_1])), (3, .ref 3 [] true (dM v1)), (4, .val (i64 v2)), (6, .ref 6 [] true (dM s39.1)), (11, .val (i64 s29.2)), (12, .val (i64 s34.2)), (13, .val (i64 s39.2)), (87, .val (.bool (ilt s39.2 v2)))] rfl ?_ ?_
    · simp <;> simp [ieq, ilt, ile]
    refine VW.cond rfl (fun hb42 => ?_) (fun hb42 => ?_)
    rotate_left
    ·
      replace hb42 : ¬ (s39.2 < v2) := by simpa [ieq, ilt, ile] using hb42
      rw [if_neg hb42] at hx39o
      refine VW.exit ?_
      cases hx39o
      have hq := hx39b _ rfl
      subst hq
      exact Fits.of rfl
    replace hb42 : s39.2 < v2 := by simpa [ieq, ilt, ile] using hb42
    rw [if_pos hb42] at hx39o
    refine VW.skip ?_
    refine hK41 _ ?_
    refine VW.sqc fun K43 hK43 hCK43 => ?_
    refine VW.block ?_
    -- region 25
    obtain ⟨hc44, hx39o⟩ := chk_some hx39o
    have hc44s := hc44
    try simp at hc44s
    refine VW.ws tau_ok Sound.none [some 90, some 91, some 92, some 93, some 94, some 14] [(1, .val (.ptr [i64 a0_0, dI a0_1])), (3, .ref 3 [] true (dM v1)), (4, .val (i64 v2)), (6, .ref 6 [] true (dM s39.1)), (11, .val (i64 s29.2)), (12, .val (i64 s34.2)), (13, .val (i64 s39.2)), (14, .ref 14 [] true (dI (List.replicate (w64 ((w64 (3 * v2)) * v2)).toNat 0)))] rfl ?_ ?_
    · simp [hc44, hc44s] <;> simp [ieq, ilt, ile]
    obtain ⟨l45, hl45, hx39o⟩ := bind_some hx39o
    rw [Option.some.inj hl45]
    -- region 26
    obtain ⟨v46, hv46, hx39o⟩ := bind_some hx39o
    obtain ⟨v47, hv47, hx39o⟩ := bind_some hx39o
    obtain ⟨hv47a, hv47b, hv47c, hv47d⟩ := idx_some hv47
    refine VW.ws tau_ok (Sound.none.add 110 (s_l15Form_ok hv46) rfl) [some 95, some 96, some 97, some 98, some 99, some 100, some 101, some 102, some 103, some 104, some 105, some 106, some 107, some 108, some 109, some 110, some 111, none] [(1, .val (.ptr [i64 a0_0, dI a0_1])), (3, .ref 3 [] true (dM v1)), (4, .val (i64 v2)), (6, .ref 6 [] true (dM s39.1)), (11, .val (i64 s29.2)), (12, .val (i64 s34.2)), (13, .val (i64 s39.2)), (14, .ref 14 [] true (dI (l45.set (w64 ((w64 ((bxor .i64 s34.2 s39.2) * v2)) + s29.2)).toNat v46)))] rfl ?_ ?_
    · simp [hv47a, hv47b, hv47c, hv47d] <;> simp [ieq, ilt, ile]
    obtain ⟨l48, hl48, hx39o⟩ := bind_some hx39o
    rw [Option.some.inj hl48]
    -- region 27
    obtain ⟨v49, hv49, hx39o⟩ := bind_some hx39o
    obtain ⟨v50, hv50, hx39o⟩ := bind_some hx39o
    obtain ⟨hv50a, hv50b, hv50c, hv50d⟩ := idx_some hv50
    refine VW.ws tau_ok (Sound.none.add 129 (s_l15Form_ok hv49) rfl) [some 112, some 113, some 114, some 115, some 116, some 117, some 118, some 119, some 120, some 121, some 122, some 123, some 124, some 125, some 126, some 127, some 128, some 129, some 130, none] [(1, .val (.ptr [i64 a0_0, dI a0_1])), (3, .ref 3 [] true (dM v1)), (4, .val (i64 v2)), (6, .ref 6 [] true (dM s39.1)), (11, .val (i64 s29.2)), (12, .val (i64 s34.2)), (13, .val (i64 s39.2)), (14, .ref 14 [] true (dI (l48.set (w64 ((w64 ((w64 (v2 + (bxor .i64 s29.2 s39.2))) * v2)) + s34.2)).toNat v49)))] rfl ?_ ?_
    · simp [hv50a, hv50b, hv50c, hv50d] <;> simp [ieq, ilt, ile]
    obtain ⟨l51, hl51, hx39o⟩ := bind_some hx39o
    rw [Option.some.inj hl51]
    -- region 28
    obtain ⟨v52, hv52, hx39o⟩ := bind_some hx39o
    obtain ⟨v53, hv53, hx39o⟩ := bind_some hx39o
    obtain ⟨hv53a, hv53b, hv53c, hv53d⟩ := idx_some hv53
    refine VW.ws tau_ok (Sound.none.add 149 (s_l15Form_ok hv52) rfl) [some 131, some 132, some 133, some 134, some 135, some 136, some 137, some 138, some 139, some 140, some 141, some 142, some 143, some 144, some 145, some 146, some 147, some 148, some 149, some 150, none] [(1, .val (.ptr [i64 a0_0, dI a0_1])), (3, .ref 3 [] true (dM v1)), (4, .val (i64 v2)), (6, .ref 6 [] true (dM s39.1)), (11, .val (i64 s29.2)), (12, .val (i64 s34.2)), (13, .val (i64 s39.2)), (14, .ref 14 [] true (dI (l51.set (w64 ((w64 ((w64 ((w64 (2 * v2)) + (bxor .i64 s29.2 s34.2))) * v2)) + s39.2)).toNat v52)))] rfl ?_ ?_
    · simp [hv53a, hv53b, hv53c, hv53d] <;> simp [ieq, ilt, ile]
    -- region 29
    obtain ⟨hc54, hx39o⟩ := chk_some hx39o
    have hc54s := hc54
    try simp at hc54s
    refine VW.wr tau_ok Sound.none [some 151, some 152, some 153, some 154, some 6] [(1, .val (.ptr [i64 a0_0, dI a0_1])), (3, .ref 3 [] true (dM v1)), (4, .val (i64 v2)), (6, .ref 6 [] true (dM (s39.1 ++ [l51.set (w64 ((w64 ((w64 ((w64 (2 * v2)) + (bxor .i64 s29.2 s34.2))) * v2)) + s39.2)).toNat v52]))), (11, .val (i64 s29.2)), (12, .val (i64 s34.2)), (13, .val (i64 s39.2))] rfl ?_ ?_
    · simp [hc54, hc54s] <;> simp [ieq, ilt, ile]
    refine hK43 _ ?_
    -- region 24
    refine VW.wr tau_ok Sound.none [some 88, some 89, some 13] [(1, .val (.ptr [i64 a0_0, dI a0_1])), (3, .ref 3 [] true (dM v1)), (4, .val (i64 v2)), (6, .ref 6 [] true (dM (s39.1 ++ [l51.set (w64 ((w64 ((w64 ((w64 (2 * v2)) + (bxor .i64 s29.2 s34.2))) * v2)) + s39.2)).toNat v52]))), (11, .val (i64 s29.2)), (12, .val (i64 s34.2)), (13, .val (i64 (w64 (s39.2 + 1))))] rfl ?_ ?_
    · simp <;> simp [ieq, ilt, ile]
    cases hx39o
    exact ⟨_, rfl, Fits.of rfl⟩
  refine VW.block ?_
  refine VW.loopF (s_l15Basis_L0 v2 v3) (fun s5 => [(1, .val (.ptr [i64 a0_0, dI a0_1])), (3, .ref 3 [] true (dM v1)), (4, .val (i64 v2)), (5, .ref 5 [] true (dI v3)), (6, .ref 6 [] true (dM s5.1)), (7, .val (i64 s5.2))]) hx5 (Fits.of rfl) ?_
  clear hx5
  intro s5 ox5 hx5o hx5b
  unfold s_l15Basis_L0 at hx5o
  refine VW.sqc fun K7 hK7 hCK7 => ?_
  -- region 4
  refine VW.ws tau_ok Sound.none [some 22, some 23] [(1, .val (.ptr [i64 a0_0, dI a0_1])), (3, .ref 3 [] true (dM v1)), (4, .val (i64 v2)), (5, .ref 5 [] true (dI v3)), (6, .ref 6 [] true (dM s5.1)), (7, .val (i64 s5.2)), (23, .val (.bool (ilt s5.2 3)))] rfl ?_ ?_
  · simp <;> simp [ieq, ilt, ile]
  refine VW.cond rfl (fun hb8 => ?_) (fun hb8 => ?_)
  rotate_left
  ·
    replace hb8 : ¬ (s5.2 < 3) := by simpa [ieq, ilt, ile] using hb8
    rw [if_neg hb8] at hx5o
    refine VW.exit ?_
    cases hx5o
    have hq := hx5b _ rfl
    subst hq
    exact Fits.of rfl
  replace hb8 : s5.2 < 3 := by simpa [ieq, ilt, ile] using hb8
  rw [if_pos hb8] at hx5o
  refine VW.skip ?_
  refine hK7 _ ?_
  refine VW.sqc fun K9 hK9 hCK9 => ?_
  refine VW.block ?_
  -- region 6
  refine VW.ws tau_ok Sound.none [some 8] [(1, .val (.ptr [i64 a0_0, dI a0_1])), (3, .ref 3 [] true (dM v1)), (4, .val (i64 v2)), (5, .ref 5 [] true (dI v3)), (6, .ref 6 [] true (dM s5.1)), (7, .val (i64 s5.2)), (8, .val (i64 0))] rfl ?_ ?_
  · simp <;> simp [ieq, ilt, ile]
  obtain ⟨x10, hx10, hx5o⟩ := bind_some hx5o
  refine VW.tlE [(1, .val (.ptr [i64 a0_0, dI a0_1])), (3, .ref 3 [] true (dM v1)), (4, .val (i64 v2)), (5, .ref 5 [] true (dI v3)), (6, .ref 6 [] true (dM x10)), (7, .val (i64 s5.2))] (hCK9) ?_ ?_
  · clear hx10
    refine hK9 _ ?_
    -- region 5
    refine VW.wr tau_ok Sound.none [some 24, some 25, some 7] [(1, .val (.ptr [i64 a0_0, dI a0_1])), (3, .ref 3 [] true (dM v1)), (4, .val (i64 v2)), (5, .ref 5 [] true (dI v3)), (6, .ref 6 [] true (dM x10)), (7, .val (i64 (w64 (s5.2 + 1))))] rfl ?_ ?_
    · simp <;> simp [ieq, ilt, ile]
    cases hx5o
    exact ⟨_, rfl, Fits.of rfl⟩
  refine VW.block ?_
  refine VW.loopF (s_l15Basis_L1 v2 v3 s5) (fun s10 => [(1, .val (.ptr [i64 a0_0, dI a0_1])), (3, .ref 3 [] true (dM v1)), (4, .val (i64 v2)), (5, .ref 5 [] true (dI v3)), (6, .ref 6 [] true (dM s10.1)), (7, .val (i64 s5.2)), (8, .val (i64 s10.2))]) hx10 (Fits.of rfl) ?_
  clear hx10
  intro s10 ox10 hx10o hx10b
  unfold s_l15Basis_L1 at hx10o
  refine VW.sqc fun K12 hK12 hCK12 => ?_
  -- region 7
  refine VW.ws tau_ok Sound.none [some 26, some 27, some 28] [(1, .val (.ptr [i64 a0_0, dI a0_1])), (3, .ref 3 [] true (dM v1)), (4, .val (i64 v2)), (5, .ref 5 [] true (dI v3)), (6, .ref 6 [] true (dM s10.1)), (7, .val (i64 s5.2)), (8, .val (i64 s10.2)), (28, .val (.bool (ilt s10.2 v2)))] rfl ?_ ?_
  · simp <;> simp [ieq, ilt, ile]
  refine VW.cond rfl (fun hb13 => ?_) (fun hb13 => ?_)
  rotate_left
  ·
    replace hb13 : ¬ (s10.2 < v2) := by simpa [ieq, ilt, ile] using hb13
    rw [if_neg hb13] at hx10o
    refine VW.exit ?_
    cases hx10o
    have hq := hx10b _ rfl
    subst hq
    exact Fits.of rfl
  replace hb13 : s10.2 < v2 := by simpa [ieq, ilt, ile] using hb13
  rw [if_pos hb13] at hx10o
  refine VW.skip ?_
  refine hK12 _ ?_
  refine VW.sqc fun K14 hK14 hCK14 => ?_
  refine VW.block ?_
  -- region 9
  refine VW.ws tau_ok Sound.none [some 9] [(1, .val (.ptr [i64 a0_0, dI a0_1])), (3, .ref 3 [] true (dM v1)), (4, .val (i64 v2)), (5, .ref 5 [] true (dI v3)), (6, .ref 6 [] true (dM s10.1)), (7, .val (i64 s5.2)), (8, .val (i64 s10.2)), (9, .val (i64 0))] rfl ?_ ?_
  · simp <;> simp [ieq, ilt, ile]
  obtain ⟨x15, hx15, hx10o⟩ := bind_some hx10o
  refine VW.tlE [(1, .val (.ptr [i64 a0_0, dI a0_1])), (3, .ref 3 [] true (dM v1)), (4, .val (i64 v2)), (5, .ref 5 [] true (dI v3)), (6, .ref 6 [] true (dM x15)), (7, .val (i64 s5.2)), (8, .val (i64 s10.2))] (hCK14) ?_ ?_
  · clear hx15
    refine hK14 _ ?_
    -- region 8
    refine VW.wr tau_ok Sound.none [some 29, some 30, some 8] [(1, .val (.ptr [i64 a0_0, dI a0_1])), (3, .ref 3 [] true (dM v1)), (4, .val (i64 v2)), (5, .ref 5 [] true (dI v3)), (6, .ref 6 [] true (dM x15)), (7, .val (i64 s5.2)), (8, .val (i64 (w64 (s10.2 + 1))))] rfl ?_ ?_
    · simp <;> simp [ieq, ilt, ile]
    cases hx10o
    exact ⟨_, rfl, Fits.of rfl⟩
  refine VW.block ?_
  refine VW.loopF (s_l15Basis_L2 v2 v3 s5 s10) (fun s15 => [(1, .val (.ptr [i64 a0_0, dI a0_1])), (3, .ref 3 [] true (dM v1)), (4, .val (i64 v2)), (5, .ref 5 [] true (dI v3)), (6, .ref 6 [] true (dM s15.1)), (7, .val (i64 s5.2)), (8, .val (i64 s10.2)), (9, .val (i64 s15.2))]) hx15 (Fits.of rfl) ?_
  clear hx15
  intro s15 ox15 hx15o hx15b
  unfold s_l15Basis_L2 at hx15o
  refine VW.sqc fun K17 hK17 hCK17 => ?_
  -- region 10
  refine VW.ws tau_ok Sound.none [some 31, some 32, some 33] [(1, .val (.ptr [i64 a0_0, dI a0_1])), (3, .ref 3 [] true (dM v1)), (4, .val (i64 v2)), (5, .ref 5 [] true (dI v3)), (6, .ref 6 [] true (dM s15.1)), (7, .val (i64 s5.2)), (8, .val (i64 s10.2)), (9, .val (i64 s15.2)), (33, .val (.bool (ile s15.2 s10.2)))] rfl ?_ ?_
  · simp <;> simp [ieq, ilt, ile]
  refine VW.cond rfl (fun hb18 => ?_) (fun hb18 => ?_)
  rotate_left
  ·
    replace hb18 : ¬ (s15.2 ≤ s10.2) := by simpa [ieq, ilt, ile] using hb18
    rw [if_neg hb18] at hx15o
    refine VW.exit ?_
    cases hx15o
    have hq := hx15b _ rfl
    subst hq
    exact Fits.of rfl
  replace hb18 : s15.2 ≤ s10.2 := by simpa [ieq, ilt, ile] using hb18
  rw [if_pos hb18] at hx15o
  refine VW.skip ?_
  refine hK17 _ ?_
  refine VW.sqc fun K19 hK19 hCK19 => ?_
  refine VW.block ?_
  -- region 12
  obtain ⟨hc20, hx15o⟩ := chk_some hx15o
  have hc20s := hc20
  try simp at hc20s
  refine VW.ws tau_ok Sound.none [some 36, some 37, some 38, some 39, some 40, some 10] [(1, .val (.ptr [i64 a0_0, dI a0_1])), (3, .ref 3 [] true (dM v1)), (4, .val (i64 v2)), (5, .ref 5 [] true (dI v3)), (6, .ref 6 [] true (dM s15.1)), (7, .val (i64 s5.2)), (8, .val (i64 s10.2)), (9, .val (i64 s15.2)), (10, .ref 10 [] true (dI (List.replicate (w64 ((w64 (3 * v2)) * v2)).toNat 0)))] rfl ?_ ?_
  · simp [hc20, hc20s] <;> simp [ieq, ilt, ile]
  obtain ⟨l21, hl21, hx15o⟩ := bind_some hx15o
  rw [Option.some.inj hl21]
  -- region 13
  obtain ⟨v22, hv22, hx15o⟩ := bind_some hx15o
  obtain ⟨hv22a, hv22b, hv22c, hv22d⟩ := idx_some hv22
  obtain ⟨v23, hv23, hx15o⟩ := bind_some hx15o
  obtain ⟨hv23a, hv23b, hv23c, hv23d⟩ := idx_some hv23
  refine VW.ws tau_ok Sound.none [some 41, some 42, some 43, some 44, some 45, some 46, some 47, some 48, some 49, some 50, some 51, some 52, some 53, some 54, some 55, none] [(1, .val (.ptr [i64 a0_0, dI a0_1])), (3, .ref 3 [] true (dM v1)), (4, .val (i64 v2)), (5, .ref 5 [] true (dI v3)), (6, .ref 6 [] true (dM s15.1)), (7, .val (i64 s5.2)), (8, .val (i64 s10.2)), (9, .val (i64 s15.2)), (10, .ref 10 [] true (dI (l21.set (w64 ((w64 ((w64 ((w64 (s5.2 * v2)) + s10.2)) * v2)) + s15.2)).toNat v22)))] rfl ?_ ?_
  · simp [hv22a, hv22b, hv22c, hv22d, hv23a, hv23b, hv23c, hv23d] <;> simp [ieq, ilt, ile]
  obtain ⟨l24, hl24, hx15o⟩ := bind_some hx15o
  rw [Option.some.inj hl24]
  -- region 14
  obtain ⟨v25, hv25, hx15o⟩ := bind_some hx15o
  obtain ⟨hv25a, hv25b, hv25c, hv25d⟩ := idx_some hv25
  obtain ⟨v26, hv26, hx15o⟩ := bind_some hx15o
  obtain ⟨hv26a, hv26b, hv26c, hv26d⟩ := idx_some hv26
  refine VW.ws tau_ok Sound.none [some 56, some 57, some 58, some 59, some 60, some 61, some 62, some 63, some 64, some 65, some 66, some 67, some 68, some 69, some 70, none] [(1, .val (.ptr [i64 a0_0, dI a0_1])), (3, .ref 3 [] true (dM v1)), (4, .val (i64 v2)), (5, .ref 5 [] true (dI v3)), (6, .ref 6 [] true (dM s15.1)), (7, .val (i64 s5.2)), (8, .val (i64 s10.2)), (9, .val (i64 s15.2)), (10, .ref 10 [] true (dI (l24.set (w64 ((w64 ((w64 ((w64 (s5.2 * v2)) + s15.2)) * v2)) + s10.2)).toNat v25)))] rfl ?_ ?_
  · simp [hv25a, hv25b, hv25c, hv25d, hv26a, hv26b, hv26c, hv26d] <;> simp [ieq, ilt, ile]
  -- region 15
  obtain ⟨hc27, hx15o⟩ := chk_some hx15o
  have hc27s := hc27
  try simp at hc27s
  refine VW.wr tau_ok Sound.none [some 71, some 72, some 73, some 74, some 6] [(1, .val (.ptr [i64 a0_0, dI a0_1])), (3, .ref 3 [] true (dM v1)), (4, .val (i64 v2)), (5, .ref 5 [] true (dI v3)), (6, .ref 6 [] true (dM (s15.1 ++ [l24.set (w64 ((w64 ((w64 ((w64 (s5.2 * v2)) + s15.2)) * v2)) + s10.2)).toNat v25]))), (7, .val (i64 s5.2)), (8, .val (i64 s10.2)), (9, .val (i64 s15.2))] rfl ?_ ?_
  · simp [hc27, hc27s] <;> simp [ieq, ilt, ile]
  refine hK19 _ ?_
  -- region 11
  refine VW.wr tau_ok Sound.none [some 34, some 35, some 9] [(1, .val (.ptr [i64 a0_0, dI a0_1])), (3, .ref 3 [] true (dM v1)), (4, .val (i64 v2)), (5, .ref 5 [] true (dI v3)), (6, .ref 6 [] true (dM (s15.1 ++ [l24.set (w64 ((w64 ((w64 ((w64 (s5.2 * v2)) + s15.2)) * v2)) + s10.2)).toNat v25]))), (7, .val (i64 s5.2)), (8, .val (i64 s10.2)), (9, .val (i64 (w64 (s15.2 + 1))))] rfl ?_ ?_
  · simp <;> simp [ieq, ilt, ile]
  cases hx15o
  exact ⟨_, rfl, Fits.of rfl⟩

theorem s_LocalDimension_ok {a0_0 : Int} {a0_1 : List Int} {r : Int × Int} (h : s_LocalDimension a0_0 a0_1 = some r) :
    VCall Try.prog 46 [.agg [i64 a0_0, dI a0_1]] [.sc (i64 r.1), .sc (i64 r.2)] := by
  unfold s_LocalDimension at h
  refine VCall.enter Try.call46 Try.func46 rfl 13 Try.ntmps46 (by simp) [.tmp 2, .tmp 3] rfl ?_
  show VW _ _ _ (mk [(0, .val (.agg [i64 a0_0, dI a0_1]))]) _
  -- region 0
  refine VW.ws tau_ok Sound.none [some 1, some 2, some 3] [(1, .val (.ptr [i64 a0_0, dI a0_1]))] rfl ?_ ?_
  · simp <;> simp [ieq, ilt, ile]
  refine VW.sqc fun K1 hK1 hCK1 => ?_
  -- region 1
  obtain ⟨v2, hv2, h⟩ := bind_some h
  refine VW.ws tau_ok (Sound.none.add 6 (s_l14Code_ok hv2) rfl) [some 5, some 6, some 4] [(1, .val (.ptr [i64 a0_0, dI a0_1])), (4, .val (i64 v2))] rfl ?_ ?_
  · simp <;> simp [ieq, ilt, ile]
  -- region 2
  refine VW.ws tau_ok Sound.none [some 7, some 8] [(1, .val (.ptr [i64 a0_0, dI a0_1])), (4, .val (i64 v2)), (8, .val (.bool (!(ieq v2 0))))] rfl ?_ ?_
  · simp <;> simp [ieq, ilt, ile]
  refine VW.cond rfl (fun hb3 => ?_) (fun hb3 => ?_)
  ·
    replace hb3 : ¬ v2 = 0 := by simpa [ieq, ilt, ile] using hb3
    rw [if_pos hb3] at h
    -- region 3
    refine VW.ws tau_ok Sound.none [some 9, some 2, some 3] [(2, .val (i64 0)), (3, .val (i64 v2))] rfl ?_ ?_
    · simp <;> simp [ieq, ilt, ile]
    cases h
    refine VW.ret ?_
    simp [Post, PostM, PostC, PostC2, Nx, Bk]
  replace hb3 : ¬ (¬ v2 = 0) := by simpa [ieq, ilt, ile] using hb3
  rw [if_neg hb3] at h
  refine VW.skip ?_
  refine hK1 _ ?_
  -- region 4
  obtain ⟨v4, hv4, h⟩ := bind_some h
  refine VW.ws tau_ok (Sound.none.add 11 (s_l15Basis_ok hv4) rfl) [some 10, some 11, some 12, some 2, some 3] [(2, .val (i64 (v4.length : Int))), (3, .val (i64 0))] rfl ?_ ?_
  · simp <;> simp [ieq, ilt, ile]
  cases h
  refine VW.ret ?_
  simp [Post, PostM, PostC, PostC2, Nx, Bk]

theorem i_IsPrime_ok {a0 : Int} {r : Bool} (h : i_IsPrime a0 = some r) :
    VCall Try.prog 165 [i64 a0] [.sc (.bool r)] := by
  unfold i_IsPrime at h
  refine VCall.enter Try.call165 Try.func165 rfl 10 Try.ntmps165 (by simp) [.tmp 2] rfl ?_
  show VW _ _ _ (mk [(0, .val (i64 a0))]) _
  -- region 0
  refine VW.ws tau_ok Sound.none [some 2] [(0, .val (i64 a0))] rfl ?_ ?_
  · simp <;> simp [ieq, ilt, ile]
  refine VW.sqc fun K1 hK1 hCK1 => ?_
  -- region 1
  refine VW.ws tau_ok Sound.none [some 3] [(3, .val (i64 a0))] rfl ?_ ?_
  · simp <;> simp [ieq, ilt, ile]
  refine VW.block ?_
  refine VW.sqc fun K2 hK2 hCK2 => ?_
  -- region 2
  refine VW.ws tau_ok Sound.none [some 5, some 4] [(3, .val (i64 a0)), (4, .val (.bool (ieq a0 3)))] rfl ?_ ?_
  · simp <;> simp [ieq, ilt, ile]
  obtain ⟨x3, hx3, h⟩ := bind_some h
  refine VW.tlE [(4, .val (.bool x3))] (hCK2) ?_ ?_
  · clear hx3
    refine hK2 _ ?_
    refine VW.cond rfl (fun hb9 => ?_) (fun hb9 => ?_)
    ·
      replace hb9 : x3 = true := by simpa [ieq, ilt, ile] using hb9
      rw [if_pos hb9] at h
      -- region 7
      refine VW.ws tau_ok Sound.none [some 2] [(2, .val (.bool true))] rfl ?_ ?_
      · simp <;> simp [ieq, ilt, ile]
      cases h
      refine VW.ret ?_
      simp [Post, PostM, PostC, PostC2, Nx, Bk]
    replace hb9 : ¬ (x3 = true) := by simpa [ieq, ilt, ile] using hb9
    rw [if_neg hb9] at h
    refine VW.skip ?_
    refine hK1 _ ?_
    -- region 8
    refine VW.ws tau_ok Sound.none [some 2] [(2, .val (.bool false))] rfl ?_ ?_
    · simp <;> simp [ieq, ilt, ile]
    cases h
    refine VW.ret ?_
    simp [Post, PostM, PostC, PostC2, Nx, Bk]
  refine VW.cond rfl (fun hb5 => ?_) (fun hb5 => ?_)
  ·
    replace hb5 : a0 = 3 := by simpa [ieq, ilt, ile] using hb5
    rw [if_pos hb5] at hx3
    refine VW.skip ?_
    cases hx3
    exact Fits.of rfl
  replace hb5 : ¬ (a0 = 3) := by simpa [ieq, ilt, ile] using hb5
  rw [if_neg hb5] at hx3
  -- region 3
  refine VW.ws tau_ok Sound.none [some 6, some 4] [(3, .val (i64 a0)), (4, .val (.bool (ieq a0 5)))] rfl ?_ ?_
  · simp <;> simp [ieq, ilt, ile]
  refine VW.cond rfl (fun hb6 => ?_) (fun hb6 => ?_)
  ·
    replace hb6 : a0 = 5 := by simpa [ieq, ilt, ile] using hb6
    rw [if_pos hb6] at hx3
    refine VW.skip ?_
    cases hx3
    exact Fits.of rfl
  replace hb6 : ¬ (a0 = 5) := by simpa [ieq, ilt, ile] using hb6
  rw [if_neg hb6] at hx3
  -- region 4
  refine VW.ws tau_ok Sound.none [some 7, some 4] [(3, .val (i64 a0)), (4, .val (.bool (ieq a0 7)))] rfl ?_ ?_
  · simp <;> simp [ieq, ilt, ile]
  refine VW.cond rfl (fun hb7 => ?_) (fun hb7 => ?_)
  ·
    replace hb7 : a0 = 7 := by simpa [ieq, ilt, ile] using hb7
    rw [if_pos hb7] at hx3
    refine VW.skip ?_
    cases hx3
    exact Fits.of rfl
  replace hb7 : ¬ (a0 = 7) := by simpa [ieq, ilt, ile] using hb7
  rw [if_neg hb7] at hx3
  -- region 5
  refine VW.ws tau_ok Sound.none [some 8, some 4] [(3, .val (i64 a0)), (4, .val (.bool (ieq a0 11)))] rfl ?_ ?_
  · simp <;> simp [ieq, ilt, ile]
  refine VW.cond rfl (fun hb8 => ?_) (fun hb8 => ?_)
  ·
    replace hb8 : a0 = 11 := by simpa [ieq, ilt, ile] using hb8
    rw [if_pos hb8] at hx3
    refine VW.skip ?_
    cases hx3
    exact Fits.of rfl
  replace hb8 : ¬ (a0 = 11) := by simpa [ieq, ilt, ile] using hb8
  rw [if_neg hb8] at hx3
  -- region 6
  refine VW.wr tau_ok Sound.none [some 9, some 4] [(4, .val (.bool (ieq a0 13)))] rfl ?_ ?_
  · simp <;> simp [ieq, ilt, ile]
  cases hx3
  exact Fits.of rfl

theorem i_Doubling_field_ok {a0_0 : Int} {a0_1 : List Int} {r : Int} (h : i_Doubling_field a0_0 a0_1 = some r) :
    VCall Try.prog 116 [.agg [i64 a0_0, dI a0_1]] [.sc (i64 r)] := by
  unfold i_Doubling_field at h
  refine VCall.enter Try.call116 Try.func116 rfl 5 Try.ntmps116 (by simp) [.tmp 2] rfl ?_
  show VW _ _ _ (mk [(0, .val (.agg [i64 a0_0, dI a0_1]))]) _
  -- region 0
  refine VW.ws tau_ok Sound.none [some 1, some 2] [(1, .val (.ptr [i64 a0_0, dI a0_1]))] rfl ?_ ?_
  · simp <;> simp [ieq, ilt, ile]
  -- region 1
  refine VW.ws tau_ok Sound.none [some 3, some 4, some 2] [(2, .val (i64 a0_0))] rfl ?_ ?_
  · simp <;> simp [ieq, ilt, ile]
  cases h
  refine VW.ret ?_
  simp [Post, PostM, PostC, PostC2, Nx, Bk]

theorem i_inRange_ok {a0 : Int} {a1 : Int} {a2 : Int} {r : Bool} (h : i_inRange a0 a1 a2 = some r) :
    VCall Try.prog 160 [i64 a0, i64 a1, i64 a2] [.sc (.bool r)] := by
  unfold i_inRange at h
  refine VCall.enter Try.call160 Try.func160 rfl 15 Try.ntmps160 (by simp) [.tmp 6] rfl ?_
  show VW _ _ _ (mk [(0, .val (i64 a0)), (1, .val (i64 a1)), (2, .val (i64 a2))]) _
  -- region 0
  refine VW.ws tau_ok Sound.none [some 6] [(0, .val (i64 a0)), (1, .val (i64 a1)), (2, .val (i64 a2))] rfl ?_ ?_
  · simp <;> simp [ieq, ilt, ile]
  -- region 1
  obtain ⟨x2, hx2, h⟩ := bind_some h
  refine VW.cut [(6, .val (.bool x2))] ?_ fun hy => ?_
  rotate_left
  · clear h
    by_cases hp1 : a1 ≤ a0
    · rw [if_pos hp1] at hx2
      have hp1b : ile a1 a0 = true := by simpa [ieq, ilt, ile] using hp1
      have hp1s := hp1b
      try simp at hp1s
      cases hx2
      refine VW.ws tau_ok Sound.none [some 7, some 8, some 9, some 10, some 11, some 12, some 13, some 14, some 6] _ rfl ?_ hy
      simp [hp1b, hp1s] <;> simp [ieq, ilt, ile]
    · rw [if_neg hp1] at hx2
      have hp1b : ile a1 a0 = false := by simpa [ieq, ilt, ile] using hp1
      have hp1s := hp1b
      try simp at hp1s
      cases hx2
      refine VW.ws tau_ok Sound.none [some 7, some 8, some 9, some 10, some 11, some 12, some 13, some 14, some 6] _ rfl ?_ hy
      simp [hp1b, hp1s] <;> simp [ieq, ilt, ile]
  cases h
  refine VW.ret ?_
  simp [Post, PostM, PostC, PostC2, Nx, Bk]

theorem i_field_is_ok {a0 : Int} {a1 : List Int} {r : Bool} (h : i_field_is a0 a1 = some r) :
    VCall Try.prog 155 [i64 a0, dI a1] [.sc (.bool r)] := by
  unfold i_field_is at h
  refine VCall.enter Try.call155 Try.func155 rfl 19 Try.ntmps155 (by simp) [.tmp 4] rfl ?_
  show VW _ _ _ (mk [(0, .val (i64 a0)), (1, .val (dI a1))]) _
  -- region 0
  refine VW.ws tau_ok Sound.none [some 4] [(0, .val (i64 a0)), (1, .val (dI a1))] rfl ?_ ?_
  · simp <;> simp [ieq, ilt, ile]
  refine VW.sqc fun K1 hK1 hCK1 => ?_
  -- region 1
  refine VW.ws tau_ok Sound.none [some 7, some 8, some 9] [(0, .val (i64 a0)), (7, .val (dI a1)), (8, .val (i64 (a1.length : Int))), (9, .val (i64 0))] rfl ?_ ?_
  · simp <;> simp [ieq, ilt, ile]
  obtain ⟨x2, hx2, h⟩ := bind_some h
  refine VW.tlO (fun y4 => []) x2 (hCK1) ?_ ?_
  · clear hx2
    rintro y4 rfl
    dsimp only at h
    refine hK1 _ ?_
    -- region 7
    refine VW.ws tau_ok Sound.none [some 4] [(4, .val (.bool true))] rfl ?_ ?_
    · simp <;> simp [ieq, ilt, ile]
    cases h
    refine VW.ret ?_
    simp [Post, PostM, PostC, PostC2, Nx, Bk]
  refine VW.block ?_
  refine VW.loopF (i_field_is_L0 a0 a1) (fun s2 => [(0, .val (i64 a0)), (7, .val (dI a1)), (8, .val (i64 (a1.length : Int))), (9, .val (i64 s2))]) hx2 (Fits.of rfl) ?_
  clear hx2
  intro s2 ox2 hx2o hx2b
  unfold i_field_is_L0 at hx2o
  -- region 2
  refine VW.ws tau_ok Sound.none [some 10] [(0, .val (i64 a0)), (7, .val (dI a1)), (8, .val (i64 (a1.length : Int))), (9, .val (i64 s2)), (10, .val (.bool (ilt s2 (a1.length : Int))))] rfl ?_ ?_
  · simp <;> simp [ieq, ilt, ile]
  refine VW.sqc fun K5 hK5 hCK5 => ?_
  refine VW.cond rfl (fun hb6 => ?_) (fun hb6 => ?_)
  rotate_left
  ·
    replace hb6 : ¬ (s2 < (a1.length : Int)) := by simpa [ieq, ilt, ile] using hb6
    rw [if_neg hb6] at hx2o
    refine VW.exit ?_
    cases hx2o
    have hq := hx2b _ rfl
    subst hq
    exact ⟨_, rfl, Fits.of rfl⟩
  replace hb6 : s2 < (a1.length : Int) := by simpa [ieq, ilt, ile] using hb6
  rw [if_pos hb6] at hx2o
  refine VW.skip ?_
  refine hK5 _ ?_
  refine VW.sqc fun K7 hK7 hCK7 => ?_
  refine VW.block ?_
  -- region 3
  obtain ⟨v8, hv8, hx2o⟩ := bind_some hx2o
  obtain ⟨hv8a, hv8b, hv8c, hv8d⟩ := idx_some hv8
  refine VW.ws tau_ok Sound.none [some 11, some 12, some 6] [(0, .val (i64 a0)), (6, .val (i64 v8)), (7, .val (dI a1)), (8, .val (i64 (a1.length : Int))), (9, .val (i64 s2))] rfl ?_ ?_
  · simp [hv8a, hv8b, hv8c, hv8d] <;> simp [ieq, ilt, ile]
  -- region 4
  obtain ⟨v9, hv9, hx2o⟩ := bind_some hx2o
  refine VW.ws tau_ok (Sound.none.add 16 (i_inRange_ok hv9) rfl) [some 13, some 14, some 15, some 16, some 17] [(0, .val (i64 a0)), (7, .val (dI a1)), (8, .val (i64 (a1.length : Int))), (9, .val (i64 s2)), (17, .val (.bool (!v9)))] rfl ?_ ?_
  · simp <;> simp [ieq, ilt, ile]
  refine VW.cond rfl (fun hb10 => ?_) (fun hb10 => ?_)
  rotate_left
  ·
    replace hb10 : ¬ (v9 = false) := by simpa [ieq, ilt, ile] using hb10
    rw [if_neg hb10] at hx2o
    refine VW.skip ?_
    refine hK7 _ ?_
    -- region 6
    refine VW.wr tau_ok Sound.none [some 18, some 9] [(0, .val (i64 a0)), (7, .val (dI a1)), (8, .val (i64 (a1.length : Int))), (9, .val (i64 (w64 (s2 + 1))))] rfl ?_ ?_
    · simp <;> simp [ieq, ilt, ile]
    cases hx2o
    exact ⟨_, rfl, Fits.of rfl⟩
  replace hb10 : v9 = false := by simpa [ieq, ilt, ile] using hb10
  rw [if_pos hb10] at hx2o
  -- region 5
  refine VW.ws tau_ok Sound.none [some 4] [(4, .val (.bool false))] rfl ?_ ?_
  · simp <;> simp [ieq, ilt, ile]
  cases hx2o
  have hq := hx2b _ rfl
  subst hq
  dsimp only at h
  cases h
  refine VW.ret ?_
  simp [Post, PostM, PostC, PostC2, Nx, Bk]

theorem g_slices_Index_LI_I_ok {a0 : List Int} {a1 : Int} {r : Int} (h : g_slices_Index_LI_I a0 a1 = some r) :
    VCall Try.prog 109 [dI a0, i64 a1] [.sc (i64 r)] := by
  unfold g_slices_Index_LI_I at h
  refine VCall.enter Try.call109 Try.func109 rfl 19 Try.ntmps109 (by simp) [.tmp 4] rfl ?_
  show VW _ _ _ (mk [(0, .val (dI a0)), (1, .val (i64 a1))]) _
  -- region 0
  refine VW.ws tau_ok Sound.none [some 4] [(0, .val (dI a0)), (1, .val (i64 a1))] rfl ?_ ?_
  · simp <;> simp [ieq, ilt, ile]
  refine VW.sqc fun K1 hK1 hCK1 => ?_
  -- region 1
  refine VW.ws tau_ok Sound.none [some 6, some 7, some 8] [(0, .val (dI a0)), (1, .val (i64 a1)), (7, .val (i64 (a0.length : Int))), (8, .val (i64 0))] rfl ?_ ?_
  · simp <;> simp [ieq, ilt, ile]
  obtain ⟨x2, hx2, h⟩ := bind_some h
  refine VW.tlO (fun y4 => []) x2 (hCK1) ?_ ?_
  · clear hx2
    rintro y4 rfl
    dsimp only at h
    refine hK1 _ ?_
    -- region 7
    refine VW.ws tau_ok Sound.none [some 4] [(4, .val (i64 (-1)))] rfl ?_ ?_
    · simp <;> simp [ieq, ilt, ile]
    cases h
    refine VW.ret ?_
    simp [Post, PostM, PostC, PostC2, Nx, Bk]
  refine VW.block ?_
  refine VW.loopF (g_slices_Index_LI_I_L0 a0 a1) (fun s2 => [(0, .val (dI a0)), (1, .val (i64 a1)), (7, .val (i64 (a0.length : Int))), (8, .val (i64 s2))]) hx2 (Fits.of rfl) ?_
  clear hx2
  intro s2 ox2 hx2o hx2b
  unfold g_slices_Index_LI_I_L0 at hx2o
  -- region 2
  refine VW.ws tau_ok Sound.none [some 9] [(0, .val (dI a0)), (1, .val (i64 a1)), (7, .val (i64 (a0.length : Int))), (8, .val (i64 s2)), (9, .val (.bool (ilt s2 (a0.length : Int))))] rfl ?_ ?_
  · simp <;> simp [ieq, ilt, ile]
  refine VW.sqc fun K5 hK5 hCK5 => ?_
  refine VW.cond rfl (fun hb6 => ?_) (fun hb6 => ?_)
  rotate_left
  ·
    replace hb6 : ¬ (s2 < (a0.length : Int)) := by simpa [ieq, ilt, ile] using hb6
    rw [if_neg hb6] at hx2o
    refine VW.exit ?_
    cases hx2o
    have hq := hx2b _ rfl
    subst hq
    exact ⟨_, rfl, Fits.of rfl⟩
  replace hb6 : s2 < (a0.length : Int) := by simpa [ieq, ilt, ile] using hb6
  rw [if_pos hb6] at hx2o
  refine VW.skip ?_
  refine hK5 _ ?_
  refine VW.sqc fun K7 hK7 hCK7 => ?_
  refine VW.block ?_
  -- region 3
  refine VW.ws tau_ok Sound.none [some 10, some 5] [(0, .val (dI a0)), (1, .val (i64 a1)), (5, .val (i64 s2)), (7, .val (i64 (a0.length : Int))), (8, .val (i64 s2))] rfl ?_ ?_
  · simp <;> simp [ieq, ilt, ile]
  -- region 4
  obtain ⟨v8, hv8, hx2o⟩ := bind_some hx2o
  obtain ⟨hv8a, hv8b, hv8c, hv8d⟩ := idx_some hv8
  refine VW.ws tau_ok Sound.none [some 11, some 12, some 13, some 14, some 15, some 16] [(0, .val (dI a0)), (1, .val (i64 a1)), (5, .val (i64 s2)), (7, .val (i64 (a0.length : Int))), (8, .val (i64 s2)), (16, .val (.bool (ieq a1 v8)))] rfl ?_ ?_
  · simp [hv8a, hv8b, hv8c, hv8d] <;> simp [ieq, ilt, ile]
  refine VW.cond rfl (fun hb9 => ?_) (fun hb9 => ?_)
  rotate_left
  ·
    replace hb9 : ¬ (a1 = v8) := by simpa [ieq, ilt, ile] using hb9
    rw [if_neg hb9] at hx2o
    refine VW.skip ?_
    refine hK7 _ ?_
    -- region 6
    refine VW.wr tau_ok Sound.none [some 18, some 8] [(0, .val (dI a0)), (1, .val (i64 a1)), (7, .val (i64 (a0.length : Int))), (8, .val (i64 (w64 (s2 + 1))))] rfl ?_ ?_
    · simp <;> simp [ieq, ilt, ile]
    cases hx2o
    exact ⟨_, rfl, Fits.of rfl⟩
  replace hb9 : a1 = v8 := by simpa [ieq, ilt, ile] using hb9
  rw [if_pos hb9] at hx2o
  -- region 5
  refine VW.ws tau_ok Sound.none [some 17, some 4] [(4, .val (i64 s2))] rfl ?_ ?_
  · simp <;> simp [ieq, ilt, ile]
  cases hx2o
  have hq := hx2b _ rfl
  subst hq
  dsimp only at h
  cases h
  refine VW.ret ?_
  simp [Post, PostM, PostC, PostC2, Nx, Bk]

theorem g_slices_Contains_LI_I_ok {a0 : List Int} {a1 : Int} {r : Bool} (h : g_slices_Contains_LI_I a0 a1 = some r) :
    VCall Try.prog 166 [dI a0, i64 a1] [.sc (.bool r)] := by
  unfold g_slices_Contains_LI_I at h
  refine VCall.enter Try.call166 Try.func166 rfl 9 Try.ntmps166 (by simp) [.tmp 4] rfl ?_
  show VW _ _ _ (mk [(0, .val (dI a0)), (1, .val (i64 a1))]) _
  -- region 0
  refine VW.ws tau_ok Sound.none [some 4] [(0, .val (dI a0)), (1, .val (i64 a1))] rfl ?_ ?_
  · simp <;> simp [ieq, ilt, ile]
  -- region 1
  obtain ⟨v1, hv1, h⟩ := bind_some h
  refine VW.ws tau_ok (Sound.none.add 7 (g_slices_Index_LI_I_ok hv1) rfl) [some 5, some 6, some 7, some 8, some 4] [(4, .val (.bool (ile 0 v1)))] rfl ?_ ?_
  · simp <;> simp [ieq, ilt, ile]
  cases h
  refine VW.ret ?_
  simp [Post, PostM, PostC, PostC2, Nx, Bk]

theorem i_IsDoubling_ok {a0_0 : Int} {a0_1 : List Int} {r : Bool} (h : i_IsDoubling a0_0 a0_1 = some r) :
    VCall Try.prog 89 [.agg [i64 a0_0, dI a0_1]] [.sc (.bool r)] := by
  unfold i_IsDoubling at h
  refine VCall.enter Try.call89 Try.func89 rfl 25 Try.ntmps89 (by simp) [.tmp 2] rfl ?_
  show VW _ _ _ (mk [(0, .val (.agg [i64 a0_0, dI a0_1]))]) _
  -- region 0
  refine VW.ws tau_ok Sound.none [some 1, some 2] [(1, .val (.ptr [i64 a0_0, dI a0_1]))] rfl ?_ ?_
  · simp <;> simp [ieq, ilt, ile]
  -- region 1
  obtain ⟨x8, hx8, h⟩ := bind_some h
  refine VW.cut [(2, .val (.bool x8))] ?_ fun hy => ?_
  rotate_left
  · clear h
    obtain ⟨v1, hv1, hx8⟩ := bind_some hx8
    by_cases hp2 : v1 = true
    · rw [if_pos hp2] at hx8
      have hp2b : v1 = true := by simpa [ieq, ilt, ile] using hp2
      have hp2s := hp2b
      try simp at hp2s
      by_cases hp3 : (a0_1.length : Int) ≤ 4
      · rw [if_pos hp3] at hx8
        have hp3b : ile (a0_1.length : Int) 4 = true := by simpa [ieq, ilt, ile] using hp3
        have hp3s := hp3b
        try simp at hp3s
        obtain ⟨v4, hv4, hx8⟩ := bind_some hx8
        obtain ⟨v5, hv5, hx8⟩ := bind_some hx8
        by_cases hp6 : v5 = true
        · rw [if_pos hp6] at hx8
          have hp6b : v5 = true := by simpa [ieq, ilt, ile] using hp6
          have hp6s := hp6b
          try simp at hp6s
          obtain ⟨v7, hv7, hx8⟩ := bind_some hx8
          cases hx8
          refine VW.wds tau_ok ((((Sound.none.add 5 (i_IsPrime_ok hv1) rfl).add 14 (i_Doubling_field_ok hv4) rfl).add 17 (i_field_is_ok hv5) rfl).add 22 (g_slices_Contains_LI_I_ok hv7) rfl) try_mixed [some 3, some 4, some 5, some 6, some 7, some 8, some 9, some 10, some 11, some 12, some 13, some 14, some 15, some 16, some 17, some 18, some 19, some 20, some 21, some 22, some 23, some 24, some 2] _ 23 rfl (by kernel_rfl) (by rfl) ?_ hy
          simp [hp2b, hp2s, hp3b, hp3s, hp6b, hp6s] <;> simp [ieq, ilt, ile]
        · rw [if_neg hp6] at hx8
          have hp6b : v5 = false := by simpa [ieq, ilt, ile] using hp6
          have hp6s := hp6b
          try simp at hp6s
          cases hx8
          refine VW.wds tau_ok (((Sound.none.add 5 (i_IsPrime_ok hv1) rfl).add 14 (i_Doubling_field_ok hv4) rfl).add 17 (i_field_is_ok hv5) rfl) try_mixed [some 3, some 4, some 5, some 6, some 7, some 8, some 9, some 10, some 11, some 12, some 13, some 14, some 15, some 16, some 17, some 18, some 19, some 20, some 21, some 22, some 23, some 24, some 2] _ 23 rfl (by kernel_rfl) (by rfl) ?_ hy
          simp [hp2b, hp2s, hp3b, hp3s, hp6b, hp6s] <;> simp [ieq, ilt, ile]
      · rw [if_neg hp3] at hx8
        have hp3b : ile (a0_1.length : Int) 4 = false := by simpa [ieq, ilt, ile] using hp3
        have hp3s := hp3b
        try simp at hp3s
        cases hx8
        refine VW.wds tau_ok (Sound.none.add 5 (i_IsPrime_ok hv1) rfl) try_mixed [some 3, some 4, some 5, some 6, some 7, some 8, some 9, some 10, some 11, some 12, some 13, some 14, some 15, some 16, some 17, some 18, some 19, some 20, some 21, some 22, some 23, some 24, some 2] _ 23 rfl (by kernel_rfl) (by rfl) ?_ hy
        simp [hp2b, hp2s, hp3b, hp3s] <;> simp [ieq, ilt, ile]
    · rw [if_neg hp2] at hx8
      have hp2b : v1 = false := by simpa [ieq, ilt, ile] using hp2
      have hp2s := hp2b
      try simp at hp2s
      cases hx8
      refine VW.wds tau_ok (Sound.none.add 5 (i_IsPrime_ok hv1) rfl) try_mixed [some 3, some 4, some 5, some 6, some 7, some 8, some 9, some 10, some 11, some 12, some 13, some 14, some 15, some 16, some 17, some 18, some 19, some 20, some 21, some 22, some 23, some 24, some 2] _ 23 rfl (by kernel_rfl) (by rfl) ?_ hy
      simp [hp2b, hp2s] <;> simp [ieq, ilt, ile]
  cases h
  refine VW.ret ?_
  simp [Post, PostM, PostC, PostC2, Nx, Bk]

theorem i_Doubling_size_ok {a0_0 : Int} {a0_1 : List Int} {r : Int} (h : i_Doubling_size a0_0 a0_1 = some r) :
    VCall Try.prog 92 [.agg [i64 a0_0, dI a0_1]] [.sc (i64 r)] := by
  unfold i_Doubling_size at h
  refine VCall.enter Try.call92 Try.func92 rfl 7 Try.ntmps92 (by simp) [.tmp 2] rfl ?_
  show VW _ _ _ (mk [(0, .val (.agg [i64 a0_0, dI a0_1]))]) _
  -- region 0
  refine VW.ws tau_ok Sound.none [some 1, some 2] [(1, .val (.ptr [i64 a0_0, dI a0_1]))] rfl ?_ ?_
  · simp <;> simp [ieq, ilt, ile]
  -- region 1
  obtain ⟨hc1, h⟩ := chk_some h
  have hc1s := hc1
  try simp at hc1s
  refine VW.ws tau_ok Sound.none [some 3, some 4, some 5, some 6, some 2] [(2, .val (i64 (shl .i64 1 (a0_1.length : Int))))] rfl ?_ ?_
  · simp [hc1, hc1s] <;> simp [ieq, ilt, ile]
  cases h
  refine VW.ret ?_
  simp [Post, PostM, PostC, PostC2, Nx, Bk]

theorem i_checkElements_c1_ok {a0 : List Int} {a1_0 : Int} {a1_1 : List Int} {r : Bool} (h : i_checkElements_c1 a0 a1_0 a1_1 = some r) :
    VCall Try.prog 194 [dI a0, .ptr [i64 a1_0, dI a1_1]] [.sc (.bool r)] := by
  unfold i_checkElements_c1 at h
  refine VCall.enter Try.call194 Try.func194 rfl 16 Try.ntmps194 (by simp) [.tmp 3] rfl ?_
  show VW _ _ _ (mk [(0, .val (dI a0)), (1, .val (.ptr [i64 a1_0, dI a1_1]))]) _
  -- region 0
  refine VW.ws tau_ok Sound.none [some 3] [(0, .val (dI a0)), (1, .val (.ptr [i64 a1_0, dI a1_1]))] rfl ?_ ?_
  · simp <;> simp [ieq, ilt, ile]
  -- region 1
  obtain ⟨x5, hx5, h⟩ := bind_some h
  refine VW.cut [(3, .val (.bool x5))] ?_ fun hy => ?_
  rotate_left
  · clear h
    obtain ⟨v1, hv1, hx5⟩ := bind_some hx5
    by_cases hp2 : ¬ (a0.length : Int) = v1
    · rw [if_pos hp2] at hx5
      have hp2b : ieq (a0.length : Int) v1 = false := by simpa [ieq, ilt, ile] using hp2
      have hp2s := hp2b
      try simp at hp2s
      cases hx5
      refine VW.ws tau_ok (Sound.none.add 7 (i_Doubling_size_ok hv1) rfl) [some 4, some 5, some 6, some 7, some 8, some 9, some 10, some 11, some 12, some 13, some 14, some 15, some 3] _ rfl ?_ hy
      simp [hp2b, hp2s] <;> simp [ieq, ilt, ile]
    · rw [if_neg hp2] at hx5
      have hp2b : ieq (a0.length : Int) v1 = true := by simpa [ieq, ilt, ile] using hp2
      have hp2s := hp2b
      try simp at hp2s
      obtain ⟨v3, hv3, hx5⟩ := bind_some hx5
      obtain ⟨v4, hv4, hx5⟩ := bind_some hx5
      cases hx5
      refine VW.ws tau_ok (((Sound.none.add 7 (i_Doubling_size_ok hv1) rfl).add 11 (i_Doubling_field_ok hv3) rfl).add 13 (i_field_is_ok hv4) rfl) [some 4, some 5, some 6, some 7, some 8, some 9, some 10, some 11, some 12, some 13, some 14, some 15, some 3] _ rfl ?_ hy
      simp [hp2b, hp2s] <;> simp [ieq, ilt, ile]
  cases h
  refine VW.ret ?_
  simp [Post, PostM, PostC, PostC2, Nx, Bk]

theorem g_slices_IndexFunc_LLI_LI_of_i_checkElements_c1_ok {a0 : List (List Int)} {a1_0_0 : Int} {a1_0_1 : List Int} {r : Int} (h : g_slices_IndexFunc_LLI_LI_of_i_checkElements_c1 a0 a1_0_0 a1_0_1 = some r) :
    VCall Try.prog 175 [dM a0, .fn 194 [.ptr [i64 a1_0_0, dI a1_0_1]]] [.sc (i64 r)] := by
  unfold g_slices_IndexFunc_LLI_LI_of_i_checkElements_c1 at h
  refine VCall.enter Try.call175 Try.func175 rfl 19 Try.ntmps175 (by simp) [.tmp 4] rfl ?_
  show VW _ _ _ (mk [(0, .val (dM a0)), (1, .val (.fn 194 [.ptr [i64 a1_0_0, dI a1_0_1]]))]) _
  -- region 0
  refine VW.ws tau_ok Sound.none [some 4] [(0, .val (dM a0)), (1, .val (.fn 194 [.ptr [i64 a1_0_0, dI a1_0_1]]))] rfl ?_ ?_
  · simp <;> simp [ieq, ilt, ile]
  refine VW.sqc fun K1 hK1 hCK1 => ?_
  -- region 1
  refine VW.ws tau_ok Sound.none [some 6, some 7, some 8] [(0, .val (dM a0)), (1, .val (.fn 194 [.ptr [i64 a1_0_0, dI a1_0_1]])), (7, .val (i64 (a0.length : Int))), (8, .val (i64 0))] rfl ?_ ?_
  · simp <;> simp [ieq, ilt, ile]
  obtain ⟨x2, hx2, h⟩ := bind_some h
  refine VW.tlO (fun y4 => []) x2 (hCK1) ?_ ?_
  · clear hx2
    rintro y4 rfl
    dsimp only at h
    refine hK1 _ ?_
    -- region 7
    refine VW.ws tau_ok Sound.none [some 4] [(4, .val (i64 (-1)))] rfl ?_ ?_
    · simp <;> simp [ieq, ilt, ile]
    cases h
    refine VW.ret ?_
    simp [Post, PostM, PostC, PostC2, Nx, Bk]
  refine VW.block ?_
  refine VW.loopF (g_slices_IndexFunc_LLI_LI_of_i_checkElements_c1_L0 a0 a1_0_0 a1_0_1) (fun s2 => [(0, .val (dM a0)), (1, .val (.fn 194 [.ptr [i64 a1_0_0, dI a1_0_1]])), (7, .val (i64 (a0.length : Int))), (8, .val (i64 s2))]) hx2 (Fits.of rfl) ?_
  clear hx2
  intro s2 ox2 hx2o hx2b
  unfold g_slices_IndexFunc_LLI_LI_of_i_checkElements_c1_L0 at hx2o
  -- region 2
  refine VW.ws tau_ok Sound.none [some 9] [(0, .val (dM a0)), (1, .val (.fn 194 [.ptr [i64 a1_0_0, dI a1_0_1]])), (7, .val (i64 (a0.length : Int))), (8, .val (i64 s2)), (9, .val (.bool (ilt s2 (a0.length : Int))))] rfl ?_ ?_
  · simp <;> simp [ieq, ilt, ile]
  refine VW.sqc fun K5 hK5 hCK5 => ?_
  refine VW.cond rfl (fun hb6 => ?_) (fun hb6 => ?_)
  rotate_left
  ·
    replace hb6 : ¬ (s2 < (a0.length : Int)) := by simpa [ieq, ilt, ile] using hb6
    rw [if_neg hb6] at hx2o
    refine VW.exit ?_
    cases hx2o
    have hq := hx2b _ rfl
    subst hq
    exact ⟨_, rfl, Fits.of rfl⟩
  replace hb6 : s2 < (a0.length : Int) := by simpa [ieq, ilt, ile] using hb6
  rw [if_pos hb6] at hx2o
  refine VW.skip ?_
  refine hK5 _ ?_
  refine VW.sqc fun K7 hK7 hCK7 => ?_
  refine VW.block ?_
  -- region 3
  refine VW.ws tau_ok Sound.none [some 10, some 5] [(0, .val (dM a0)), (1, .val (.fn 194 [.ptr [i64 a1_0_0, dI a1_0_1]])), (5, .val (i64 s2)), (7, .val (i64 (a0.length : Int))), (8, .val (i64 s2))] rfl ?_ ?_
  · simp <;> simp [ieq, ilt, ile]
  -- region 4
  obtain ⟨v8, hv8, hx2o⟩ := bind_some hx2o
  obtain ⟨hv8a, hv8b, hv8c, hv8d⟩ := idx_some hv8
  obtain ⟨v9, hv9, hx2o⟩ := bind_some hx2o
  refine VW.ws tau_ok (Sound.none.add 16 (i_checkElements_c1_ok hv9) rfl) [some 11, some 12, some 13, some 14, some 15, some 16] [(0, .val (dM a0)), (1, .val (.fn 194 [.ptr [i64 a1_0_0, dI a1_0_1]])), (5, .val (i64 s2)), (7, .val (i64 (a0.length : Int))), (8, .val (i64 s2)), (16, .val (.bool v9))] rfl ?_ ?_
  · simp [hv8a, hv8b, hv8c, hv8d] <;> simp [ieq, ilt, ile]
  refine VW.cond rfl (fun hb10 => ?_) (fun hb10 => ?_)
  rotate_left
  ·
    replace hb10 : ¬ (v9 = true) := by simpa [ieq, ilt, ile] using hb10
    rw [if_neg hb10] at hx2o
    refine VW.skip ?_
    refine hK7 _ ?_
    -- region 6
    refine VW.wr tau_ok Sound.none [some 18, some 8] [(0, .val (dM a0)), (1, .val (.fn 194 [.ptr [i64 a1_0_0, dI a1_0_1]])), (7, .val (i64 (a0.length : Int))), (8, .val (i64 (w64 (s2 + 1))))] rfl ?_ ?_
    · simp <;> simp [ieq, ilt, ile]
    cases hx2o
    exact ⟨_, rfl, Fits.of rfl⟩
  replace hb10 : v9 = true := by simpa [ieq, ilt, ile] using hb10
  rw [if_pos hb10] at hx2o
  -- region 5
  refine VW.ws tau_ok Sound.none [some 17, some 4] [(4, .val (i64 s2))] rfl ?_ ?_
  · simp <;> simp [ieq, ilt, ile]
  cases hx2o
  have hq := hx2b _ rfl
  subst hq
  dsimp only at h
  cases h
  refine VW.ret ?_
  simp [Post, PostM, PostC, PostC2, Nx, Bk]
end Go.Vam
