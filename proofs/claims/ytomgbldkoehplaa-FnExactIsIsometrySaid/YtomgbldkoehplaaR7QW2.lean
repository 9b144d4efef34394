import Derived.Test.YtomgbldkoehplaaR7T
import Derived.Test.YtomgbldkoehplaaFnL
import Derived.Test.YtomgbldkoehplaaR7QW1
namespace Go.Vam
open Go Go.RowKit Go.Proofs
set_option maxRecDepth 100000
set_option linter.unusedSimpArgs false
set_option linter.unusedVariables false

theorem i_field_determinant_ok {a0 : Int} {a1 : List (List Int)} {r : Int} (h : i_field_determinant a0 a1 = some r) :
    VCall Try.prog 95 [i64 a0, dM a1] [.sc (i64 r)] := by
  unfold i_field_determinant at h
  refine VCall.enter Try.call95 Try.func95 rfl 111 Try.ntmps95 (by simp) [.tmp 4] rfl ?_
  show VW _ _ _ (mk [(0, .val (i64 a0)), (1, .val (dM a1))]) _
  -- region 0
  refine VW.ws tau_ok Sound.none [some 4] [(0, .val (i64 a0)), (1, .val (dM a1))] rfl ?_ ?_
  · simp <;> simp [ieq, ilt, ile]
  -- region 1
  obtain ⟨v1, hv1, h⟩ := bind_some h
  refine VW.ws tau_ok (Sound.none.add 11 (i_cloneRows_ok hv1) rfl) [some 10, some 11, some 5, some 6] [(0, .val (i64 a0)), (5, .ref 5 [] true (dM v1)), (6, .val (i64 1))] rfl ?_ ?_
  · simp <;> simp [ieq, ilt, ile]
  refine VW.sqc fun K2 hK2 hCK2 => ?_
  -- region 2
  refine VW.ws tau_ok Sound.none [some 12, some 13, some 14] [(0, .val (i64 a0)), (5, .ref 5 [] true (dM v1)), (6, .val (i64 1)), (13, .val (i64 (v1.length : Int))), (14, .val (i64 0))] rfl ?_ ?_
  · simp <;> simp [ieq, ilt, ile]
  obtain ⟨x3, hx3, h⟩ := bind_some h
  refine VW.tlO (fun y5 => [(6, .val (i64 y5))]) x3 (hCK2) ?_ ?_
  · clear hx3
    rintro y5 rfl
    dsimp only at h
    refine hK2 _ ?_
    -- region 19
    refine VW.ws tau_ok Sound.none [some 110, some 4] [(4, .val (i64 y5))] rfl ?_ ?_
    · simp <;> simp [ieq, ilt, ile]
    cases h
    refine VW.ret ?_
    simp [Post, PostM, PostC, PostC2, Nx, Bk]
  refine VW.block ?_
  refine VW.loopF (i_field_determinant_L0 a0 v1) (fun s3 => [(0, .val (i64 a0)), (5, .ref 5 [] true (dM s3.1)), (6, .val (i64 s3.2.1)), (13, .val (i64 (v1.length : Int))), (14, .val (i64 s3.2.2))]) hx3 (Fits.of rfl) ?_
  clear hx3
  intro s3 ox3 hx3o hx3b
  unfold i_field_determinant_L0 at hx3o
  -- region 3
  refine VW.ws tau_ok Sound.none [some 15] [(0, .val (i64 a0)), (5, .ref 5 [] true (dM s3.1)), (6, .val (i64 s3.2.1)), (13, .val (i64 (v1.length : Int))), (14, .val (i64 s3.2.2)), (15, .val (.bool (ilt s3.2.2 (v1.length : Int))))] rfl ?_ ?_
  · simp <;> simp [ieq, ilt, ile]
  refine VW.sqc fun K6 hK6 hCK6 => ?_
  refine VW.cond rfl (fun hb7 => ?_) (fun hb7 => ?_)
  rotate_left
  ·
    replace hb7 : ¬ (s3.2.2 < (v1.length : Int)) := by simpa [ieq, ilt, ile] using hb7
    rw [if_neg hb7] at hx3o
    refine VW.exit ?_
    cases hx3o
    have hq := hx3b _ rfl
    subst hq
    exact ⟨_, rfl, Fits.of rfl⟩
  replace hb7 : s3.2.2 < (v1.length : Int) := by simpa [ieq, ilt, ile] using hb7
  rw [if_pos hb7] at hx3o
  refine VW.skip ?_
  refine hK6 _ ?_
  refine VW.sqc fun K8 hK8 hCK8 => ?_
  refine VW.block ?_
  -- region 4
  refine VW.ws tau_ok Sound.none [some 16, some 7] [(0, .val (i64 a0)), (5, .ref 5 [] true (dM s3.1)), (6, .val (i64 s3.2.1)), (7, .val (i64 s3.2.2)), (13, .val (i64 (v1.length : Int))), (14, .val (i64 s3.2.2))] rfl ?_ ?_
  · simp <;> simp [ieq, ilt, ile]
  -- region 5
  refine VW.ws tau_ok Sound.none [some 17, some 8] [(0, .val (i64 a0)), (5, .ref 5 [] true (dM s3.1)), (6, .val (i64 s3.2.1)), (7, .val (i64 s3.2.2)), (8, .val (i64 s3.2.2)), (13, .val (i64 (v1.length : Int))), (14, .val (i64 s3.2.2))] rfl ?_ ?_
  · simp <;> simp [ieq, ilt, ile]
  refine VW.sqc fun K9 hK9 hCK9 => ?_
  obtain ⟨x10, hx10, hx3o⟩ := bind_some hx3o
  refine VW.tlE [(0, .val (i64 a0)), (5, .ref 5 [] true (dM s3.1)), (6, .val (i64 s3.2.1)), (7, .val (i64 s3.2.2)), (8, .val (i64 x10)), (13, .val (i64 (v1.length : Int))), (14, .val (i64 s3.2.2))] (hCK9) ?_ ?_
  · clear hx10
    refine hK9 _ ?_
    refine VW.sqc fun K18 hK18 hCK18 => ?_
    -- region 8
    refine VW.ws tau_ok Sound.none [some 34, some 35, some 36, some 37] [(0, .val (i64 a0)), (5, .ref 5 [] true (dM s3.1)), (6, .val (i64 s3.2.1)), (7, .val (i64 s3.2.2)), (8, .val (i64 x10)), (13, .val (i64 (v1.length : Int))), (14, .val (i64 s3.2.2)), (37, .val (.bool (ieq x10 (s3.1.length : Int))))] rfl ?_ ?_
    · simp <;> simp [ieq, ilt, ile]
    refine VW.cond rfl (fun hb19 => ?_) (fun hb19 => ?_)
    ·
      replace hb19 : x10 = (s3.1.length : Int) := by simpa [ieq, ilt, ile] using hb19
      rw [if_pos hb19] at hx3o
      -- region 9
      refine VW.ws tau_ok Sound.none [some 4] [(4, .val (i64 0))] rfl ?_ ?_
      · simp <;> simp [ieq, ilt, ile]
      cases hx3o
      have hq := hx3b _ rfl
      subst hq
      dsimp only at h
      cases h
      refine VW.ret ?_
      simp [Post, PostM, PostC, PostC2, Nx, Bk]
    replace hb19 : ¬ (x10 = (s3.1.length : Int)) := by simpa [ieq, ilt, ile] using hb19
    rw [if_neg hb19] at hx3o
    refine VW.skip ?_
    refine hK18 _ ?_
    refine VW.sqc fun K20 hK20 hCK20 => ?_
    -- region 10
    refine VW.ws tau_ok Sound.none [some 38, some 39, some 40] [(0, .val (i64 a0)), (5, .ref 5 [] true (dM s3.1)), (6, .val (i64 s3.2.1)), (7, .val (i64 s3.2.2)), (8, .val (i64 x10)), (13, .val (i64 (v1.length : Int))), (14, .val (i64 s3.2.2)), (40, .val (.bool (!(ieq x10 s3.2.2))))] rfl ?_ ?_
    · simp <;> simp [ieq, ilt, ile]
    obtain ⟨x21, hx21, hx3o⟩ := bind_some hx3o
    refine VW.tlE [(0, .val (i64 a0)), (5, .ref 5 [] true (dM x21.1)), (6, .val (i64 x21.2)), (7, .val (i64 s3.2.2)), (13, .val (i64 (v1.length : Int))), (14, .val (i64 s3.2.2))] (hCK20) ?_ ?_
    · clear hx21
      refine hK20 _ ?_
      -- region 13
      obtain ⟨v28, hv28, hx3o⟩ := bind_some hx3o
      obtain ⟨hv28a, hv28b, hv28c, hv28d⟩ := idx_some hv28
      obtain ⟨v29, hv29, hx3o⟩ := bind_some hx3o
      obtain ⟨hv29a, hv29b, hv29c, hv29d⟩ := idx_some hv29
      obtain ⟨v30, hv30, hx3o⟩ := bind_some hx3o
      refine VW.ws tau_ok (Sound.none.add 69 (i_field_num_ok hv30) rfl) [some 59, some 60, some 61, some 62, some 63, some 64, some 65, some 66, some 67, some 68, some 69, some 6] [(0, .val (i64 a0)), (5, .ref 5 [] true (dM x21.1)), (6, .val (i64 v30)), (7, .val (i64 s3.2.2)), (13, .val (i64 (v1.length : Int))), (14, .val (i64 s3.2.2))] rfl ?_ ?_
      · simp [hv28a, hv28b, hv28c, hv28d, hv29a, hv29b, hv29c, hv29d] <;> simp [ieq, ilt, ile]
      -- region 14
      refine VW.ws tau_ok Sound.none [some 70, some 71, some 9] [(0, .val (i64 a0)), (5, .ref 5 [] true (dM x21.1)), (6, .val (i64 v30)), (7, .val (i64 s3.2.2)), (9, .val (i64 (w64 (s3.2.2 + 1)))), (13, .val (i64 (v1.length : Int))), (14, .val (i64 s3.2.2))] rfl ?_ ?_
      · simp <;> simp [ieq, ilt, ile]
      obtain ⟨x31, hx31, hx3o⟩ := bind_some hx3o
      refine VW.tlE [(0, .val (i64 a0)), (5, .ref 5 [] true (dM x31)), (6, .val (i64 v30)), (13, .val (i64 (v1.length : Int))), (14, .val (i64 s3.2.2))] (hCK8) ?_ ?_
      · clear hx31
        refine hK8 _ ?_
        -- region 18
        refine VW.wr tau_ok Sound.none [some 109, some 14] [(0, .val (i64 a0)), (5, .ref 5 [] true (dM x31)), (6, .val (i64 v30)), (13, .val (i64 (v1.length : Int))), (14, .val (i64 (w64 (s3.2.2 + 1))))] rfl ?_ ?_
        · simp <;> simp [ieq, ilt, ile]
        cases hx3o
        exact ⟨_, rfl, Fits.of rfl⟩
      refine VW.block ?_
      refine VW.loopF (i_field_determinant_L2 a0 s3) (fun s31 => [(0, .val (i64 a0)), (5, .ref 5 [] true (dM s31.1)), (6, .val (i64 v30)), (7, .val (i64 s3.2.2)), (9, .val (i64 s31.2)), (13, .val (i64 (v1.length : Int))), (14, .val (i64 s3.2.2))]) hx31 (Fits.of rfl) ?_
      clear hx31
      intro s31 ox31 hx31o hx31b
      unfold i_field_determinant_L2 at hx31o
      refine VW.sqc fun K33 hK33 hCK33 => ?_
      -- region 15
      refine VW.ws tau_ok Sound.none [some 72, some 73, some 74, some 75] [(0, .val (i64 a0)), (5, .ref 5 [] true (dM s31.1)), (6, .val (i64 v30)), (7, .val (i64 s3.2.2)), (9, .val (i64 s31.2)), (13, .val (i64 (v1.length : Int))), (14, .val (i64 s3.2.2)), (75, .val (.bool (ilt s31.2 (s31.1.length : Int))))] rfl ?_ ?_
      · simp <;> simp [ieq, ilt, ile]
      refine VW.cond rfl (fun hb34 => ?_) (fun hb34 => ?_)
      rotate_left
      ·
        replace hb34 : ¬ (s31.2 < (s31.1.length : Int)) := by simpa [ieq, ilt, ile] using hb34
        rw [if_neg hb34] at hx31o
        refine VW.exit ?_
        cases hx31o
        have hq := hx31b _ rfl
        subst hq
        exact Fits.of rfl
      replace hb34 : s31.2 < (s31.1.length : Int) := by simpa [ieq, ilt, ile] using hb34
      rw [if_pos hb34] at hx31o
      refine VW.skip ?_
      refine hK33 _ ?_
      refine VW.sqc fun K35 hK35 hCK35 => ?_
      refine VW.block ?_
      -- region 17
      obtain ⟨v36, hv36, hx31o⟩ := bind_some hx31o
      obtain ⟨hv36a, hv36b, hv36c, hv36d⟩ := idx_some hv36
      obtain ⟨v37, hv37, hx31o⟩ := bind_some hx31o
      obtain ⟨hv37a, hv37b, hv37c, hv37d⟩ := idx_some hv37
      obtain ⟨v38, hv38, hx31o⟩ := bind_some hx31o
      obtain ⟨hv38a, hv38b, hv38c, hv38d⟩ := idx_some hv38
      obtain ⟨v39, hv39, hx31o⟩ := bind_some hx31o
      obtain ⟨hv39a, hv39b, hv39c, hv39d⟩ := idx_some hv39
      obtain ⟨v40, hv40, hx31o⟩ := bind_some hx31o
      obtain ⟨v41, hv41, hx31o⟩ := bind_some hx31o
      refine VW.wdr tau_ok ((Sound.none.add 105 (i_field_inv_ok hv40) rfl).add 107 (i_field_plus_ok hv41) rfl) try_mixed [some 78, some 79, some 80, some 81, some 82, some 83, some 84, some 85, some 86, some 87, some 88, some 89, some 90, some 91, some 92, some 93, some 94, some 95, some 96, some 97, some 98, some 99, some 100, some 101, some 102, some 103, some 104, some 105, some 106, some 107, some 108, none] [(0, .val (i64 a0)), (5, .ref 5 [] true (dM (s31.1.set s31.2.toNat v41))), (6, .val (i64 v30)), (7, .val (i64 s3.2.2)), (9, .val (i64 s31.2)), (13, .val (i64 (v1.length : Int))), (14, .val (i64 s3.2.2))] 31 rfl (by kernel_rfl) (by rfl) ?_ ?_
      · simp [hv36a, hv36b, hv36c, hv36d, hv37a, hv37b, hv37c, hv37d, hv38a, hv38b, hv38c, hv38d, hv39a, hv39b, hv39c, hv39d] <;> simp [ieq, ilt, ile]
      refine hK35 _ ?_
      -- region 16
      refine VW.wr tau_ok Sound.none [some 76, some 77, some 9] [(0, .val (i64 a0)), (5, .ref 5 [] true (dM (s31.1.set s31.2.toNat v41))), (6, .val (i64 v30)), (7, .val (i64 s3.2.2)), (9, .val (i64 (w64 (s31.2 + 1)))), (13, .val (i64 (v1.length : Int))), (14, .val (i64 s3.2.2))] rfl ?_ ?_
      · simp <;> simp [ieq, ilt, ile]
      cases hx31o
      exact ⟨_, rfl, Fits.of rfl⟩
    refine VW.cond rfl (fun hb23 => ?_) (fun hb23 => ?_)
    rotate_left
    ·
      replace hb23 : ¬ (¬ x10 = s3.2.2) := by simpa [ieq, ilt, ile] using hb23
      rw [if_neg hb23] at hx21
      refine VW.skip ?_
      cases hx21
      exact Fits.of rfl
    replace hb23 : ¬ x10 = s3.2.2 := by simpa [ieq, ilt, ile] using hb23
    rw [if_pos hb23] at hx21
    -- region 11
    obtain ⟨v24, hv24, hx21⟩ := bind_some hx21
    obtain ⟨hv24a, hv24b, hv24c, hv24d⟩ := idx_some hv24
    obtain ⟨v25, hv25, hx21⟩ := bind_some hx21
    obtain ⟨hv25a, hv25b, hv25c, hv25d⟩ := idx_some hv25
    have hv24z := hv24b
    try simp [hv24a] at hv24z
    have hv25z := hv25b
    try simp [hv25a] at hv25z
    obtain ⟨v26, hv26, hx21⟩ := bind_some hx21
    obtain ⟨hv26a, hv26b, hv26c, hv26d⟩ := idx_some hv26
    have hv26s := hv26b
    try simp at hv26s
    refine VW.wds tau_ok Sound.none try_mixed [some 41, some 42, some 43, some 44, some 45, some 46, some 47, some 48, some 49, some 50, some 51, some 52, some 53, none, some 54, none] [(0, .val (i64 a0)), (5, .ref 5 [] true (dM ((s3.1.set s3.2.2.toNat v24).set x10.toNat v25))), (6, .val (i64 s3.2.1)), (7, .val (i64 s3.2.2)), (13, .val (i64 (v1.length : Int))), (14, .val (i64 s3.2.2))] 13 rfl (by kernel_rfl) (by rfl) ?_ ?_
    · simp [hv24a, hv24b, hv24c, hv24d, hv25a, hv25b, hv25c, hv25d, hv24z, hv25z, hv26a, hv26b, hv26c, hv26d, hv26s] <;> simp [ieq, ilt, ile]
    -- region 12
    obtain ⟨v27, hv27, hx21⟩ := bind_some hx21
    refine VW.wr tau_ok (Sound.none.add 58 (i_field_num_ok hv27) rfl) [some 55, some 56, some 57, some 58, some 6] [(0, .val (i64 a0)), (5, .ref 5 [] true (dM ((s3.1.set s3.2.2.toNat v24).set x10.toNat v25))), (6, .val (i64 v27)), (7, .val (i64 s3.2.2)), (13, .val (i64 (v1.length : Int))), (14, .val (i64 s3.2.2))] rfl ?_ ?_
    · simp <;> simp [ieq, ilt, ile]
    cases hx21
    exact Fits.of rfl
  refine VW.block ?_
  refine VW.loopF (i_field_determinant_L1 s3) (fun s10 => [(0, .val (i64 a0)), (5, .ref 5 [] true (dM s3.1)), (6, .val (i64 s3.2.1)), (7, .val (i64 s3.2.2)), (8, .val (i64 s10)), (13, .val (i64 (v1.length : Int))), (14, .val (i64 s3.2.2))]) hx10 (Fits.of rfl) ?_
  clear hx10
  intro s10 ox10 hx10o hx10b
  unfold i_field_determinant_L1 at hx10o
  refine VW.sqc fun K12 hK12 hCK12 => ?_
  -- region 6
  obtain ⟨x16, hx16, hx10o⟩ := bind_some hx10o
  refine VW.cut [(0, .val (i64 a0)), (5, .ref 5 [] true (dM s3.1)), (6, .val (i64 s3.2.1)), (7, .val (i64 s3.2.2)), (8, .val (i64 s10)), (13, .val (i64 (v1.length : Int))), (14, .val (i64 s3.2.2)), (31, .val (.bool x16))] ?_ fun hy => ?_
  rotate_left
  · clear hx10o
    by_cases hp13 : s10 < (s3.1.length : Int)
    · rw [if_pos hp13] at hx16
      have hp13b : ilt s10 (s3.1.length : Int) = true := by simpa [ieq, ilt, ile] using hp13
      have hp13s := hp13b
      try simp at hp13s
      obtain ⟨v14, hv14, hx16⟩ := bind_some hx16
      obtain ⟨hv14a, hv14b, hv14c, hv14d⟩ := idx_some hv14
      obtain ⟨v15, hv15, hx16⟩ := bind_some hx16
      obtain ⟨hv15a, hv15b, hv15c, hv15d⟩ := idx_some hv15
      cases hx16
      refine VW.ws tau_ok Sound.none [some 18, some 19, some 20, some 21, some 22, some 23, some 24, some 25, some 26, some 27, some 28, some 29, some 30, some 31] _ rfl ?_ hy
      simp [hp13b, hp13s, hv14a, hv14b, hv14c, hv14d, hv15a, hv15b, hv15c, hv15d] <;> simp [ieq, ilt, ile]
    · rw [if_neg hp13] at hx16
      have hp13b : ilt s10 (s3.1.length : Int) = false := by simpa [ieq, ilt, ile] using hp13
      have hp13s := hp13b
      try simp at hp13s
      cases hx16
      refine VW.ws tau_ok Sound.none [some 18, some 19, some 20, some 21, some 22, some 23, some 24, some 25, some 26, some 27, some 28, some 29, some 30, some 31] _ rfl ?_ hy
      simp [hp13b, hp13s] <;> simp [ieq, ilt, ile]
  refine VW.cond rfl (fun hb17 => ?_) (fun hb17 => ?_)
  rotate_left
  ·
    replace hb17 : ¬ (x16 = true) := by simpa [ieq, ilt, ile] using hb17
    rw [if_neg hb17] at hx10o
    refine VW.exit ?_
    cases hx10o
    have hq := hx10b _ rfl
    subst hq
    exact Fits.of rfl
  replace hb17 : x16 = true := by simpa [ieq, ilt, ile] using hb17
  rw [if_pos hb17] at hx10o
  refine VW.skip ?_
  refine hK12 _ ?_
  refine VW.block ?_
  -- region 7
  refine VW.wr tau_ok Sound.none [some 32, some 33, some 8] [(0, .val (i64 a0)), (5, .ref 5 [] true (dM s3.1)), (6, .val (i64 s3.2.1)), (7, .val (i64 s3.2.2)), (8, .val (i64 (w64 (s10 + 1)))), (13, .val (i64 (v1.length : Int))), (14, .val (i64 s3.2.2))] rfl ?_ ?_
  · simp <;> simp [ieq, ilt, ile]
  cases hx10o
  exact ⟨_, rfl, Fits.of rfl⟩

theorem i_transpose_ok {a0 : List (List Int)} {r : List (List Int)} (h : i_transpose a0 = some r) :
    VCall Try.prog 145 [dM a0] [.own true (dM r)] := by
  unfold i_transpose at h
  refine VCall.enter Try.call145 Try.func145 rfl 38 Try.ntmps145 (by simp) [.tmp 2] rfl ?_
  show VW _ _ _ (mk [(0, .val (dM a0))]) _
  -- region 0
  refine VW.ws tau_ok Sound.none [some 2] [(0, .val (dM a0))] rfl ?_ ?_
  · simp <;> simp [ieq, ilt, ile]
  -- region 1
  refine VW.ws tau_ok Sound.none [some 7, some 3] [(0, .val (dM a0)), (3, .ref 3 [] true (dM []))] rfl ?_ ?_
  · simp <;> simp [ieq, ilt, ile]
  refine VW.sqc fun K1 hK1 hCK1 => ?_
  -- region 2
  obtain ⟨v2, hv2, h⟩ := bind_some h
  obtain ⟨hv2a, hv2b, hv2c, hv2d⟩ := idx_some hv2
  replace hv2b : 0 < a0.length := hv2b
  replace hv2c : a0[0]? = some v2 := hv2c
  replace hv2d : ∀ h, a0[0]'h = v2 := hv2d
  refine VW.ws tau_ok Sound.none [some 8, some 9, some 10, some 11, some 12] [(0, .val (dM a0)), (3, .ref 3 [] true (dM [])), (11, .val (i64 (v2.length : Int))), (12, .val (i64 0))] rfl ?_ ?_
  · simp [hv2a, hv2b, hv2c, hv2d] <;> simp [ieq, ilt, ile]
  obtain ⟨x3, hx3, h⟩ := bind_some h
  refine VW.tlE [(3, .ref 3 [] true (dM x3))] (hCK1) ?_ ?_
  · clear hx3
    refine hK1 _ ?_
    -- region 13
    refine VW.ws tau_ok Sound.none [some 37, some 2] [(2, .ref 2 [] true (dM x3))] rfl ?_ ?_
    · simp <;> simp [ieq, ilt, ile]
    cases h
    refine VW.ret ?_
    simp [Post, PostM, PostC, PostC2, Nx, Bk]
  refine VW.block ?_
  refine VW.loopF (i_transpose_L0 a0 v2) (fun s3 => [(0, .val (dM a0)), (3, .ref 3 [] true (dM s3.1)), (11, .val (i64 (v2.length : Int))), (12, .val (i64 s3.2))]) hx3 (Fits.of rfl) ?_
  clear hx3
  intro s3 ox3 hx3o hx3b
  unfold i_transpose_L0 at hx3o
  -- region 3
  refine VW.ws tau_ok Sound.none [some 13] [(0, .val (dM a0)), (3, .ref 3 [] true (dM s3.1)), (11, .val (i64 (v2.length : Int))), (12, .val (i64 s3.2)), (13, .val (.bool (ilt s3.2 (v2.length : Int))))] rfl ?_ ?_
  · simp <;> simp [ieq, ilt, ile]
  refine VW.sqc fun K5 hK5 hCK5 => ?_
  refine VW.cond rfl (fun hb6 => ?_) (fun hb6 => ?_)
  rotate_left
  ·
    replace hb6 : ¬ (s3.2 < (v2.length : Int)) := by simpa [ieq, ilt, ile] using hb6
    rw [if_neg hb6] at hx3o
    refine VW.exit ?_
    cases hx3o
    have hq := hx3b _ rfl
    subst hq
    exact Fits.of rfl
  replace hb6 : s3.2 < (v2.length : Int) := by simpa [ieq, ilt, ile] using hb6
  rw [if_pos hb6] at hx3o
  refine VW.skip ?_
  refine hK5 _ ?_
  refine VW.sqc fun K7 hK7 hCK7 => ?_
  refine VW.block ?_
  -- region 4
  refine VW.ws tau_ok Sound.none [some 14, some 4] [(0, .val (dM a0)), (3, .ref 3 [] true (dM s3.1)), (4, .val (i64 s3.2)), (11, .val (i64 (v2.length : Int))), (12, .val (i64 s3.2))] rfl ?_ ?_
  · simp <;> simp [ieq, ilt, ile]
  -- region 5
  refine VW.ws tau_ok Sound.none [some 15, some 5] [(0, .val (dM a0)), (3, .ref 3 [] true (dM s3.1)), (4, .val (i64 s3.2)), (5, .ref 5 [] true (dI [])), (11, .val (i64 (v2.length : Int))), (12, .val (i64 s3.2))] rfl ?_ ?_
  · simp <;> simp [ieq, ilt, ile]
  refine VW.sqc fun K8 hK8 hCK8 => ?_
  -- region 6
  refine VW.ws tau_ok Sound.none [some 16, some 17, some 18] [(0, .val (dM a0)), (3, .ref 3 [] true (dM s3.1)), (4, .val (i64 s3.2)), (5, .ref 5 [] true (dI [])), (11, .val (i64 (v2.length : Int))), (12, .val (i64 s3.2)), (17, .val (i64 (a0.length : Int))), (18, .val (i64 0))] rfl ?_ ?_
  · simp <;> simp [ieq, ilt, ile]
  obtain ⟨x9, hx9, hx3o⟩ := bind_some hx3o
  refine VW.tlE [(0, .val (dM a0)), (3, .ref 3 [] true (dM s3.1)), (5, .ref 5 [] true (dI x9)), (11, .val (i64 (v2.length : Int))), (12, .val (i64 s3.2))] (hCK8) ?_ ?_
  · clear hx9
    refine hK8 _ ?_
    -- region 11
    obtain ⟨hc17, hx3o⟩ := chk_some hx3o
    have hc17s := hc17
    try simp at hc17s
    refine VW.wr tau_ok Sound.none [some 32, some 33, some 34, some 35, some 3] [(0, .val (dM a0)), (3, .ref 3 [] true (dM (s3.1 ++ [x9]))), (11, .val (i64 (v2.length : Int))), (12, .val (i64 s3.2))] rfl ?_ ?_
    · simp [hc17, hc17s] <;> simp [ieq, ilt, ile]
    refine hK7 _ ?_
    -- region 12
    refine VW.wr tau_ok Sound.none [some 36, some 12] [(0, .val (dM a0)), (3, .ref 3 [] true (dM (s3.1 ++ [x9]))), (11, .val (i64 (v2.length : Int))), (12, .val (i64 (w64 (s3.2 + 1))))] rfl ?_ ?_
    · simp <;> simp [ieq, ilt, ile]
    cases hx3o
    exact ⟨_, rfl, Fits.of rfl⟩
  refine VW.block ?_
  refine VW.loopF (i_transpose_L1 a0 s3) (fun s9 => [(0, .val (dM a0)), (3, .ref 3 [] true (dM s3.1)), (4, .val (i64 s3.2)), (5, .ref 5 [] true (dI s9.1)), (11, .val (i64 (v2.length : Int))), (12, .val (i64 s3.2)), (17, .val (i64 (a0.length : Int))), (18, .val (i64 s9.2))]) hx9 (Fits.of rfl) ?_
  clear hx9
  intro s9 ox9 hx9o hx9b
  unfold i_transpose_L1 at hx9o
  -- region 7
  refine VW.ws tau_ok Sound.none [some 19] [(0, .val (dM a0)), (3, .ref 3 [] true (dM s3.1)), (4, .val (i64 s3.2)), (5, .ref 5 [] true (dI s9.1)), (11, .val (i64 (v2.length : Int))), (12, .val (i64 s3.2)), (17, .val (i64 (a0.length : Int))), (18, .val (i64 s9.2)), (19, .val (.bool (ilt s9.2 (a0.length : Int))))] rfl ?_ ?_
  · simp <;> simp [ieq, ilt, ile]
  refine VW.sqc fun K11 hK11 hCK11 => ?_
  refine VW.cond rfl (fun hb12 => ?_) (fun hb12 => ?_)
  rotate_left
  ·
    replace hb12 : ¬ (s9.2 < (a0.length : Int)) := by simpa [ieq, ilt, ile] using hb12
    rw [if_neg hb12] at hx9o
    refine VW.exit ?_
    cases hx9o
    have hq := hx9b _ rfl
    subst hq
    exact Fits.of rfl
  replace hb12 : s9.2 < (a0.length : Int) := by simpa [ieq, ilt, ile] using hb12
  rw [if_pos hb12] at hx9o
  refine VW.skip ?_
  refine hK11 _ ?_
  refine VW.sqc fun K13 hK13 hCK13 => ?_
  refine VW.block ?_
  -- region 8
  refine VW.ws tau_ok Sound.none [some 20, some 6] [(0, .val (dM a0)), (3, .ref 3 [] true (dM s3.1)), (4, .val (i64 s3.2)), (5, .ref 5 [] true (dI s9.1)), (6, .val (i64 s9.2)), (11, .val (i64 (v2.length : Int))), (12, .val (i64 s3.2)), (17, .val (i64 (a0.length : Int))), (18, .val (i64 s9.2))] rfl ?_ ?_
  · simp <;> simp [ieq, ilt, ile]
  -- region 9
  obtain ⟨v14, hv14, hx9o⟩ := bind_some hx9o
  obtain ⟨hv14a, hv14b, hv14c, hv14d⟩ := idx_some hv14
  obtain ⟨v15, hv15, hx9o⟩ := bind_some hx9o
  obtain ⟨hv15a, hv15b, hv15c, hv15d⟩ := idx_some hv15
  obtain ⟨hc16, hx9o⟩ := chk_some hx9o
  have hc16s := hc16
  try simp at hc16s
  refine VW.wr tau_ok Sound.none [some 21, some 22, some 23, some 24, some 25, some 26, some 27, some 28, some 29, some 30, some 5] [(0, .val (dM a0)), (3, .ref 3 [] true (dM s3.1)), (4, .val (i64 s3.2)), (5, .ref 5 [] true (dI (s9.1 ++ [v15]))), (11, .val (i64 (v2.length : Int))), (12, .val (i64 s3.2)), (17, .val (i64 (a0.length : Int))), (18, .val (i64 s9.2))] rfl ?_ ?_
  · simp [hv14a, hv14b, hv14c, hv14d, hv15a, hv15b, hv15c, hv15d, hc16, hc16s] <;> simp [ieq, ilt, ile]
  refine hK13 _ ?_
  -- region 10
  refine VW.wr tau_ok Sound.none [some 31, some 18] [(0, .val (dM a0)), (3, .ref 3 [] true (dM s3.1)), (4, .val (i64 s3.2)), (5, .ref 5 [] true (dI (s9.1 ++ [v15]))), (11, .val (i64 (v2.length : Int))), (12, .val (i64 s3.2)), (17, .val (i64 (a0.length : Int))), (18, .val (i64 (w64 (s9.2 + 1))))] rfl ?_ ?_
  · simp <;> simp [ieq, ilt, ile]
  cases hx9o
  exact ⟨_, rfl, Fits.of rfl⟩

theorem i_Space_weighted_ok {a0_0 : Int} {a0_1 : List Int} {a1 : List Int} {r : List Int} (h : i_Space_weighted a0_0 a0_1 a1 = some r) :
    VCall Try.prog 250 [.agg [i64 a0_0, dI a0_1], dI a1] [.own true (dI r)] := by
  unfold i_Space_weighted at h
  refine VCall.enter Try.call250 Try.func250 rfl 31 Try.ntmps250 (by simp) [.tmp 4] rfl ?_
  show VW _ _ _ (mk [(0, .val (.agg [i64 a0_0, dI a0_1])), (1, .val (dI a1))]) _
  -- region 0
  refine VW.ws tau_ok Sound.none [some 2, some 4] [(1, .val (dI a1)), (2, .val (.ptr [i64 a0_0, dI a0_1]))] rfl ?_ ?_
  · simp <;> simp [ieq, ilt, ile]
  -- region 1
  refine VW.ws tau_ok Sound.none [some 8, some 5] [(1, .val (dI a1)), (2, .val (.ptr [i64 a0_0, dI a0_1])), (5, .ref 5 [] true (dI []))] rfl ?_ ?_
  · simp <;> simp [ieq, ilt, ile]
  refine VW.sqc fun K1 hK1 hCK1 => ?_
  -- region 2
  refine VW.ws tau_ok Sound.none [some 9, some 10, some 11] [(2, .val (.ptr [i64 a0_0, dI a0_1])), (5, .ref 5 [] true (dI [])), (9, .val (dI a1)), (10, .val (i64 (a1.length : Int))), (11, .val (i64 0))] rfl ?_ ?_
  · simp <;> simp [ieq, ilt, ile]
  obtain ⟨x2, hx2, h⟩ := bind_some h
  refine VW.tlE [(5, .ref 5 [] true (dI x2))] (hCK1) ?_ ?_
  · clear hx2
    refine hK1 _ ?_
    -- region 7
    refine VW.ws tau_ok Sound.none [some 30, some 4] [(4, .ref 4 [] true (dI x2))] rfl ?_ ?_
    · simp <;> simp [ieq, ilt, ile]
    cases h
    refine VW.ret ?_
    simp [Post, PostM, PostC, PostC2, Nx, Bk]
  refine VW.block ?_
  refine VW.loopF (i_Space_weighted_L0 a0_0 a0_1 a1) (fun s2 => [(2, .val (.ptr [i64 a0_0, dI a0_1])), (5, .ref 5 [] true (dI s2.1)), (9, .val (dI a1)), (10, .val (i64 (a1.length : Int))), (11, .val (i64 s2.2))]) hx2 (Fits.of rfl) ?_
  clear hx2
  intro s2 ox2 hx2o hx2b
  unfold i_Space_weighted_L0 at hx2o
  -- region 3
  refine VW.ws tau_ok Sound.none [some 12] [(2, .val (.ptr [i64 a0_0, dI a0_1])), (5, .ref 5 [] true (dI s2.1)), (9, .val (dI a1)), (10, .val (i64 (a1.length : Int))), (11, .val (i64 s2.2)), (12, .val (.bool (ilt s2.2 (a1.length : Int))))] rfl ?_ ?_
  · simp <;> simp [ieq, ilt, ile]
  refine VW.sqc fun K4 hK4 hCK4 => ?_
  refine VW.cond rfl (fun hb5 => ?_) (fun hb5 => ?_)
  rotate_left
  ·
    replace hb5 : ¬ (s2.2 < (a1.length : Int)) := by simpa [ieq, ilt, ile] using hb5
    rw [if_neg hb5] at hx2o
    refine VW.exit ?_
    cases hx2o
    have hq := hx2b _ rfl
    subst hq
    exact Fits.of rfl
  replace hb5 : s2.2 < (a1.length : Int) := by simpa [ieq, ilt, ile] using hb5
  rw [if_pos hb5] at hx2o
  refine VW.skip ?_
  refine hK4 _ ?_
  refine VW.sqc fun K6 hK6 hCK6 => ?_
  refine VW.block ?_
  -- region 4
  obtain ⟨v7, hv7, hx2o⟩ := bind_some hx2o
  obtain ⟨hv7a, hv7b, hv7c, hv7d⟩ := idx_some hv7
  refine VW.ws tau_ok Sound.none [some 13, some 14, some 15, some 6, some 7] [(2, .val (.ptr [i64 a0_0, dI a0_1])), (5, .ref 5 [] true (dI s2.1)), (6, .val (i64 s2.2)), (7, .val (i64 v7)), (9, .val (dI a1)), (10, .val (i64 (a1.length : Int))), (11, .val (i64 s2.2))] rfl ?_ ?_
  · simp [hv7a, hv7b, hv7c, hv7d] <;> simp [ieq, ilt, ile]
  -- region 5
  obtain ⟨v8, hv8, hx2o⟩ := bind_some hx2o
  obtain ⟨v9, hv9, hx2o⟩ := bind_some hx2o
  obtain ⟨hv9a, hv9b, hv9c, hv9d⟩ := idx_some hv9
  obtain ⟨v10, hv10, hx2o⟩ := bind_some hx2o
  obtain ⟨hc11, hx2o⟩ := chk_some hx2o
  have hc11s := hc11
  try simp at hc11s
  refine VW.wdr tau_ok ((Sound.none.add 18 (i_Space_field_ok hv8) rfl).add 26 (i_field_num_ok hv10) rfl) try_mixed [some 16, some 17, some 18, some 19, some 20, some 21, some 22, some 23, some 24, some 25, some 26, some 27, some 28, some 5] [(2, .val (.ptr [i64 a0_0, dI a0_1])), (5, .ref 5 [] true (dI (s2.1 ++ [v10]))), (9, .val (dI a1)), (10, .val (i64 (a1.length : Int))), (11, .val (i64 s2.2))] 12 rfl (by kernel_rfl) (by rfl) ?_ ?_
  · simp [hv9a, hv9b, hv9c, hv9d, hc11, hc11s] <;> simp [ieq, ilt, ile]
  refine hK6 _ ?_
  -- region 6
  refine VW.wr tau_ok Sound.none [some 29, some 11] [(2, .val (.ptr [i64 a0_0, dI a0_1])), (5, .ref 5 [] true (dI (s2.1 ++ [v10]))), (9, .val (dI a1)), (10, .val (i64 (a1.length : Int))), (11, .val (i64 (w64 (s2.2 + 1))))] rfl ?_ ?_
  · simp <;> simp [ieq, ilt, ile]
  cases hx2o
  exact ⟨_, rfl, Fits.of rfl⟩

theorem i_field_dot_ok {a0 : Int} {a1 : List Int} {a2 : List Int} {r : Int} (h : i_field_dot a0 a1 a2 = some r) :
    VCall Try.prog 245 [i64 a0, dI a1, dI a2] [.sc (i64 r)] := by
  unfold i_field_dot at h
  refine VCall.enter Try.call245 Try.func245 rfl 29 Try.ntmps245 (by simp) [.tmp 6] rfl ?_
  show VW _ _ _ (mk [(0, .val (i64 a0)), (1, .val (dI a1)), (2, .val (dI a2))]) _
  -- region 0
  refine VW.ws tau_ok Sound.none [some 6] [(0, .val (i64 a0)), (1, .val (dI a1)), (2, .val (dI a2))] rfl ?_ ?_
  · simp <;> simp [ieq, ilt, ile]
  -- region 1
  refine VW.ws tau_ok Sound.none [some 7] [(0, .val (i64 a0)), (1, .val (dI a1)), (2, .val (dI a2)), (7, .val (i64 0))] rfl ?_ ?_
  · simp <;> simp [ieq, ilt, ile]
  refine VW.sqc fun K1 hK1 hCK1 => ?_
  -- region 2
  refine VW.ws tau_ok Sound.none [some 10, some 11, some 12] [(0, .val (i64 a0)), (2, .val (dI a2)), (7, .val (i64 0)), (10, .val (dI a1)), (11, .val (i64 (a1.length : Int))), (12, .val (i64 0))] rfl ?_ ?_
  · simp <;> simp [ieq, ilt, ile]
  obtain ⟨x2, hx2, h⟩ := bind_some h
  refine VW.tlE [(0, .val (i64 a0)), (7, .val (i64 x2))] (hCK1) ?_ ?_
  · clear hx2
    refine hK1 _ ?_
    -- region 7
    obtain ⟨v9, hv9, h⟩ := bind_some h
    refine VW.ws tau_ok (Sound.none.add 28 (i_field_num_ok hv9) rfl) [some 26, some 27, some 28, some 6] [(6, .val (i64 v9))] rfl ?_ ?_
    · simp <;> simp [ieq, ilt, ile]
    cases h
    refine VW.ret ?_
    simp [Post, PostM, PostC, PostC2, Nx, Bk]
  refine VW.block ?_
  refine VW.loopF (i_field_dot_L0 a1 a2) (fun s2 => [(0, .val (i64 a0)), (2, .val (dI a2)), (7, .val (i64 s2.1)), (10, .val (dI a1)), (11, .val (i64 (a1.length : Int))), (12, .val (i64 s2.2))]) hx2 (Fits.of rfl) ?_
  clear hx2
  intro s2 ox2 hx2o hx2b
  unfold i_field_dot_L0 at hx2o
  -- region 3
  refine VW.ws tau_ok Sound.none [some 13] [(0, .val (i64 a0)), (2, .val (dI a2)), (7, .val (i64 s2.1)), (10, .val (dI a1)), (11, .val (i64 (a1.length : Int))), (12, .val (i64 s2.2)), (13, .val (.bool (ilt s2.2 (a1.length : Int))))] rfl ?_ ?_
  · simp <;> simp [ieq, ilt, ile]
  refine VW.sqc fun K4 hK4 hCK4 => ?_
  refine VW.cond rfl (fun hb5 => ?_) (fun hb5 => ?_)
  rotate_left
  ·
    replace hb5 : ¬ (s2.2 < (a1.length : Int)) := by simpa [ieq, ilt, ile] using hb5
    rw [if_neg hb5] at hx2o
    refine VW.exit ?_
    cases hx2o
    have hq := hx2b _ rfl
    subst hq
    exact Fits.of rfl
  replace hb5 : s2.2 < (a1.length : Int) := by simpa [ieq, ilt, ile] using hb5
  rw [if_pos hb5] at hx2o
  refine VW.skip ?_
  refine hK4 _ ?_
  refine VW.sqc fun K6 hK6 hCK6 => ?_
  refine VW.block ?_
  -- region 4
  obtain ⟨v7, hv7, hx2o⟩ := bind_some hx2o
  obtain ⟨hv7a, hv7b, hv7c, hv7d⟩ := idx_some hv7
  refine VW.ws tau_ok Sound.none [some 14, some 15, some 16, some 8, some 9] [(0, .val (i64 a0)), (2, .val (dI a2)), (7, .val (i64 s2.1)), (8, .val (i64 s2.2)), (9, .val (i64 v7)), (10, .val (dI a1)), (11, .val (i64 (a1.length : Int))), (12, .val (i64 s2.2))] rfl ?_ ?_
  · simp [hv7a, hv7b, hv7c, hv7d] <;> simp [ieq, ilt, ile]
  -- region 5
  obtain ⟨v8, hv8, hx2o⟩ := bind_some hx2o
  obtain ⟨hv8a, hv8b, hv8c, hv8d⟩ := idx_some hv8
  refine VW.wr tau_ok Sound.none [some 17, some 18, some 19, some 20, some 21, some 22, some 23, some 24, some 7] [(0, .val (i64 a0)), (2, .val (dI a2)), (7, .val (i64 (w64 (s2.1 + (w64 (v7 * v8)))))), (10, .val (dI a1)), (11, .val (i64 (a1.length : Int))), (12, .val (i64 s2.2))] rfl ?_ ?_
  · simp [hv8a, hv8b, hv8c, hv8d] <;> simp [ieq, ilt, ile]
  refine hK6 _ ?_
  -- region 6
  refine VW.wr tau_ok Sound.none [some 25, some 12] [(0, .val (i64 a0)), (2, .val (dI a2)), (7, .val (i64 (w64 (s2.1 + (w64 (v7 * v8)))))), (10, .val (dI a1)), (11, .val (i64 (a1.length : Int))), (12, .val (i64 (w64 (s2.2 + 1))))] rfl ?_ ?_
  · simp <;> simp [ieq, ilt, ile]
  cases hx2o
  exact ⟨_, rfl, Fits.of rfl⟩

theorem i_Space_pair_ok {a0_0 : Int} {a0_1 : List Int} {a1 : List Int} {a2 : List Int} {r : Int} (h : i_Space_pair a0_0 a0_1 a1 a2 = some r) :
    VCall Try.prog 204 [.agg [i64 a0_0, dI a0_1], dI a1, dI a2] [.sc (i64 r)] := by
  unfold i_Space_pair at h
  refine VCall.enter Try.call204 Try.func204 rfl 14 Try.ntmps204 (by simp) [.tmp 6] rfl ?_
  show VW _ _ _ (mk [(0, .val (.agg [i64 a0_0, dI a0_1])), (1, .val (dI a1)), (2, .val (dI a2))]) _
  -- region 0
  refine VW.ws tau_ok Sound.none [some 3, some 6] [(1, .val (dI a1)), (2, .val (dI a2)), (3, .val (.ptr [i64 a0_0, dI a0_1]))] rfl ?_ ?_
  · simp <;> simp [ieq, ilt, ile]
  -- region 1
  obtain ⟨v1, hv1, h⟩ := bind_some h
  obtain ⟨v2, hv2, h⟩ := bind_some h
  obtain ⟨v3, hv3, h⟩ := bind_some h
  refine VW.wds tau_ok (((Sound.none.add 8 (i_Space_field_ok hv1) rfl).add 11 (i_Space_weighted_ok hv2) rfl).add 13 (i_field_dot_ok hv3) rfl) try_mixed [some 7, some 8, some 9, some 10, some 11, some 12, some 13, some 6] [(6, .val (i64 v3))] 8 rfl (by kernel_rfl) (by rfl) ?_ ?_
  · simp <;> simp [ieq, ilt, ile]
  cases h
  refine VW.ret ?_
  simp [Post, PostM, PostC, PostC2, Nx, Bk]

theorem i_isIsometry_ok {a0_0 : Int} {a0_1 : List Int} {a1_0 : Int} {a1_1 : List Int} {a2 : List (List Int)} {r : Bool} (h : i_isIsometry a0_0 a0_1 a1_0 a1_1 a2 = some r) :
    VCall Try.prog 108 [.agg [i64 a0_0, dI a0_1], .agg [i64 a1_0, dI a1_1], dM a2] [.sc (.bool r)] := by
  unfold i_isIsometry at h
  refine VCall.enter Try.call108 Try.func108 rfl 87 Try.ntmps108 (by simp) [.tmp 6] rfl ?_
  show VW _ _ _ (mk [(0, .val (.agg [i64 a0_0, dI a0_1])), (1, .val (.agg [i64 a1_0, dI a1_1])), (2, .val (dM a2))]) _
  -- region 0
  refine VW.ws tau_ok Sound.none [some 3, some 4, some 6] [(2, .val (dM a2)), (3, .val (.ptr [i64 a0_0, dI a0_1])), (4, .val (.ptr [i64 a1_0, dI a1_1]))] rfl ?_ ?_
  · simp <;> simp [ieq, ilt, ile]
  refine VW.sqc fun K1 hK1 hCK1 => ?_
  -- region 1
  obtain ⟨x16, hx16, h⟩ := bind_some h
  refine VW.cut [(2, .val (dM a2)), (3, .val (.ptr [i64 a0_0, dI a0_1])), (4, .val (.ptr [i64 a1_0, dI a1_1])), (54, .val (.bool x16))] ?_ fun hy => ?_
  rotate_left
  · clear h
    by_cases hp2 : ¬ a0_0 = a1_0
    · rw [if_pos hp2] at hx16
      have hp2b : ieq a0_0 a1_0 = false := by simpa [ieq, ilt, ile] using hp2
      have hp2s := hp2b
      try simp at hp2s
      cases hx16
      refine VW.wds tau_ok Sound.none try_mixed [some 13, some 14, some 15, some 16, some 17, some 18, some 19, some 20, some 21, some 22, some 23, some 24, some 25, some 26, some 27, some 28, some 29, some 30, some 31, some 32, some 33, some 34, some 35, some 36, some 37, some 38, some 39, some 40, some 41, some 42, some 43, some 44, some 45, some 46, some 47, some 48, some 49, some 50, some 51, some 52, some 53, some 54] _ 42 rfl (by kernel_rfl) (by rfl) ?_ hy
      simp [hp2b, hp2s] <;> simp [ieq, ilt, ile]
    · rw [if_neg hp2] at hx16
      have hp2b : ieq a0_0 a1_0 = true := by simpa [ieq, ilt, ile] using hp2
      have hp2s := hp2b
      try simp at hp2s
      obtain ⟨v3, hv3, hx16⟩ := bind_some hx16
      obtain ⟨v4, hv4, hx16⟩ := bind_some hx16
      by_cases hp5 : ¬ v3 = v4
      · rw [if_pos hp5] at hx16
        have hp5b : ieq v3 v4 = false := by simpa [ieq, ilt, ile] using hp5
        have hp5s := hp5b
        try simp at hp5s
        cases hx16
        refine VW.wds tau_ok ((Sound.none.add 20 (i_Space_dim_ok hv3) rfl).add 22 (i_Space_dim_ok hv4) rfl) try_mixed [some 13, some 14, some 15, some 16, some 17, some 18, some 19, some 20, some 21, some 22, some 23, some 24, some 25, some 26, some 27, some 28, some 29, some 30, some 31, some 32, some 33, some 34, some 35, some 36, some 37, some 38, some 39, some 40, some 41, some 42, some 43, some 44, some 45, some 46, some 47, some 48, some 49, some 50, some 51, some 52, some 53, some 54] _ 42 rfl (by kernel_rfl) (by rfl) ?_ hy
        simp [hp2b, hp2s, hp5b, hp5s] <;> simp [ieq, ilt, ile]
      · rw [if_neg hp5] at hx16
        have hp5b : ieq v3 v4 = true := by simpa [ieq, ilt, ile] using hp5
        have hp5s := hp5b
        try simp at hp5s
        obtain ⟨v6, hv6, hx16⟩ := bind_some hx16
        obtain ⟨v7, hv7, hx16⟩ := bind_some hx16
        by_cases hp8 : v7 = false
        · rw [if_pos hp8] at hx16
          have hp8b : v7 = false := by simpa [ieq, ilt, ile] using hp8
          have hp8s := hp8b
          try simp at hp8s
          cases hx16
          refine VW.wds tau_ok ((((Sound.none.add 20 (i_Space_dim_ok hv3) rfl).add 22 (i_Space_dim_ok hv4) rfl).add 27 (i_Space_field_ok hv6) rfl).add 29 (i_field_isMatrix_ok hv7) rfl) try_mixed [some 13, some 14, some 15, some 16, some 17, some 18, some 19, some 20, some 21, some 22, some 23, some 24, some 25, some 26, some 27, some 28, some 29, some 30, some 31, some 32, some 33, some 34, some 35, some 36, some 37, some 38, some 39, some 40, some 41, some 42, some 43, some 44, some 45, some 46, some 47, some 48, some 49, some 50, some 51, some 52, some 53, some 54] _ 42 rfl (by kernel_rfl) (by rfl) ?_ hy
          simp [hp2b, hp2s, hp5b, hp5s, hp8b, hp8s] <;> simp [ieq, ilt, ile]
        · rw [if_neg hp8] at hx16
          have hp8b : v7 = true := by simpa [ieq, ilt, ile] using hp8
          have hp8s := hp8b
          try simp at hp8s
          obtain ⟨v9, hv9, hx16⟩ := bind_some hx16
          by_cases hp10 : ¬ (a2.length : Int) = v9
          · rw [if_pos hp10] at hx16
            have hp10b : ieq (a2.length : Int) v9 = false := by simpa [ieq, ilt, ile] using hp10
            have hp10s := hp10b
            try simp at hp10s
            cases hx16
            refine VW.wds tau_ok (((((Sound.none.add 20 (i_Space_dim_ok hv3) rfl).add 22 (i_Space_dim_ok hv4) rfl).add 27 (i_Space_field_ok hv6) rfl).add 29 (i_field_isMatrix_ok hv7) rfl).add 36 (i_Space_dim_ok hv9) rfl) try_mixed [some 13, some 14, some 15, some 16, some 17, some 18, some 19, some 20, some 21, some 22, some 23, some 24, some 25, some 26, some 27, some 28, some 29, some 30, some 31, some 32, some 33, some 34, some 35, some 36, some 37, some 38, some 39, some 40, some 41, some 42, some 43, some 44, some 45, some 46, some 47, some 48, some 49, some 50, some 51, some 52, some 53, some 54] _ 42 rfl (by kernel_rfl) (by rfl) ?_ hy
            simp [hp2b, hp2s, hp5b, hp5s, hp8b, hp8s, hp10b, hp10s] <;> simp [ieq, ilt, ile]
          · rw [if_neg hp10] at hx16
            have hp10b : ieq (a2.length : Int) v9 = true := by simpa [ieq, ilt, ile] using hp10
            have hp10s := hp10b
            try simp at hp10s
            obtain ⟨v11, hv11, hx16⟩ := bind_some hx16
            obtain ⟨hv11a, hv11b, hv11c, hv11d⟩ := idx_some hv11
            replace hv11b : 0 < a2.length := hv11b
            replace hv11c : a2[0]? = some v11 := hv11c
            replace hv11d : ∀ h, a2[0]'h = v11 := hv11d
            obtain ⟨v12, hv12, hx16⟩ := bind_some hx16
            by_cases hp13 : ¬ (v11.length : Int) = v12
            · rw [if_pos hp13] at hx16
              have hp13b : ieq (v11.length : Int) v12 = false := by simpa [ieq, ilt, ile] using hp13
              have hp13s := hp13b
              try simp at hp13s
              cases hx16
              refine VW.wds tau_ok ((((((Sound.none.add 20 (i_Space_dim_ok hv3) rfl).add 22 (i_Space_dim_ok hv4) rfl).add 27 (i_Space_field_ok hv6) rfl).add 29 (i_field_isMatrix_ok hv7) rfl).add 36 (i_Space_dim_ok hv9) rfl).add 45 (i_Space_dim_ok hv12) rfl) try_mixed [some 13, some 14, some 15, some 16, some 17, some 18, some 19, some 20, some 21, some 22, some 23, some 24, some 25, some 26, some 27, some 28, some 29, some 30, some 31, some 32, some 33, some 34, some 35, some 36, some 37, some 38, some 39, some 40, some 41, some 42, some 43, some 44, some 45, some 46, some 47, some 48, some 49, some 50, some 51, some 52, some 53, some 54] _ 42 rfl (by kernel_rfl) (by rfl) ?_ hy
              simp [hp2b, hp2s, hp5b, hp5s, hp8b, hp8s, hp10b, hp10s, hv11a, hv11b, hv11c, hv11d, hp13b, hp13s] <;> simp [ieq, ilt, ile]
            · rw [if_neg hp13] at hx16
              have hp13b : ieq (v11.length : Int) v12 = true := by simpa [ieq, ilt, ile] using hp13
              have hp13s := hp13b
              try simp at hp13s
              obtain ⟨v14, hv14, hx16⟩ := bind_some hx16
              obtain ⟨v15, hv15, hx16⟩ := bind_some hx16
              cases hx16
              refine VW.wds tau_ok ((((((((Sound.none.add 20 (i_Space_dim_ok hv3) rfl).add 22 (i_Space_dim_ok hv4) rfl).add 27 (i_Space_field_ok hv6) rfl).add 29 (i_field_isMatrix_ok hv7) rfl).add 36 (i_Space_dim_ok hv9) rfl).add 45 (i_Space_dim_ok hv12) rfl).add 50 (i_Space_field_ok hv14) rfl).add 52 (i_field_determinant_ok hv15) rfl) try_mixed [some 13, some 14, some 15, some 16, some 17, some 18, some 19, some 20, some 21, some 22, some 23, some 24, some 25, some 26, some 27, some 28, some 29, some 30, some 31, some 32, some 33, some 34, some 35, some 36, some 37, some 38, some 39, some 40, some 41, some 42, some 43, some 44, some 45, some 46, some 47, some 48, some 49, some 50, some 51, some 52, some 53, some 54] _ 42 rfl (by kernel_rfl) (by rfl) ?_ hy
              simp [hp2b, hp2s, hp5b, hp5s, hp8b, hp8s, hp10b, hp10s, hv11a, hv11b, hv11c, hv11d, hp13b, hp13s] <;> simp [ieq, ilt, ile]
  refine VW.cond rfl (fun hb17 => ?_) (fun hb17 => ?_)
  ·
    replace hb17 : x16 = true := by simpa [ieq, ilt, ile] using hb17
    rw [if_pos hb17] at h
    -- region 2
    refine VW.ws tau_ok Sound.none [some 6] [(6, .val (.bool false))] rfl ?_ ?_
    · simp <;> simp [ieq, ilt, ile]
    cases h
    refine VW.ret ?_
    simp [Post, PostM, PostC, PostC2, Nx, Bk]
  replace hb17 : ¬ (x16 = true) := by simpa [ieq, ilt, ile] using hb17
  rw [if_neg hb17] at h
  refine VW.skip ?_
  refine hK1 _ ?_
  -- region 3
  obtain ⟨v18, hv18, h⟩ := bind_some h
  refine VW.ws tau_ok (Sound.none.add 56 (i_transpose_ok hv18) rfl) [some 55, some 56, some 7] [(3, .val (.ptr [i64 a0_0, dI a0_1])), (4, .val (.ptr [i64 a1_0, dI a1_1])), (7, .ref 7 [] true (dM v18))] rfl ?_ ?_
  · simp <;> simp [ieq, ilt, ile]
  refine VW.sqc fun K19 hK19 hCK19 => ?_
  -- region 4
  refine VW.ws tau_ok Sound.none [some 57, some 58, some 59] [(3, .val (.ptr [i64 a0_0, dI a0_1])), (4, .val (.ptr [i64 a1_0, dI a1_1])), (7, .ref 7 [] true (dM v18)), (57, .ref 7 [] true (dM v18)), (58, .val (i64 (v18.length : Int))), (59, .val (i64 0))] rfl ?_ ?_
  · simp <;> simp [ieq, ilt, ile]
  obtain ⟨x20, hx20, h⟩ := bind_some h
  refine VW.tlO (fun y22 => []) x20 (hCK19) ?_ ?_
  · clear hx20
    rintro y22 rfl
    dsimp only at h
    refine hK19 _ ?_
    -- region 17
    refine VW.ws tau_ok Sound.none [some 6] [(6, .val (.bool true))] rfl ?_ ?_
    · simp <;> simp [ieq, ilt, ile]
    cases h
    refine VW.ret ?_
    simp [Post, PostM, PostC, PostC2, Nx, Bk]
  refine VW.block ?_
  refine VW.loopF (i_isIsometry_L0 a0_1 a1_0 a1_1 v18) (fun s20 => [(3, .val (.ptr [i64 a0_0, dI a0_1])), (4, .val (.ptr [i64 a1_0, dI a1_1])), (7, .ref 7 [] true (dM v18)), (57, .ref 7 [] true (dM v18)), (58, .val (i64 (v18.length : Int))), (59, .val (i64 s20))]) hx20 (Fits.of rfl) ?_
  clear hx20
  intro s20 ox20 hx20o hx20b
  unfold i_isIsometry_L0 at hx20o
  -- region 5
  refine VW.ws tau_ok Sound.none [some 60] [(3, .val (.ptr [i64 a0_0, dI a0_1])), (4, .val (.ptr [i64 a1_0, dI a1_1])), (7, .ref 7 [] true (dM v18)), (57, .ref 7 [] true (dM v18)), (58, .val (i64 (v18.length : Int))), (59, .val (i64 s20)), (60, .val (.bool (ilt s20 (v18.length : Int))))] rfl ?_ ?_
  · simp <;> simp [ieq, ilt, ile]
  refine VW.sqc fun K23 hK23 hCK23 => ?_
  refine VW.cond rfl (fun hb24 => ?_) (fun hb24 => ?_)
  rotate_left
  ·
    replace hb24 : ¬ (s20 < (v18.length : Int)) := by simpa [ieq, ilt, ile] using hb24
    rw [if_neg hb24] at hx20o
    refine VW.exit ?_
    cases hx20o
    have hq := hx20b _ rfl
    subst hq
    exact ⟨_, rfl, Fits.of rfl⟩
  replace hb24 : s20 < (v18.length : Int) := by simpa [ieq, ilt, ile] using hb24
  rw [if_pos hb24] at hx20o
  refine VW.skip ?_
  refine hK23 _ ?_
  refine VW.sqc fun K25 hK25 hCK25 => ?_
  refine VW.block ?_
  -- region 6
  obtain ⟨v26, hv26, hx20o⟩ := bind_some hx20o
  obtain ⟨hv26a, hv26b, hv26c, hv26d⟩ := idx_some hv26
  refine VW.ws tau_ok Sound.none [some 61, some 62, some 63, some 8, some 9] [(3, .val (.ptr [i64 a0_0, dI a0_1])), (4, .val (.ptr [i64 a1_0, dI a1_1])), (7, .ref 7 [] true (dM v18)), (8, .val (i64 s20)), (9, .ref 7 [s20.toNat] true (dI v26)), (57, .ref 7 [] true (dM v18)), (58, .val (i64 (v18.length : Int))), (59, .val (i64 s20))] rfl ?_ ?_
  · simp [hv26a, hv26b, hv26c, hv26d] <;> simp [ieq, ilt, ile]
  -- region 7
  refine VW.ws tau_ok Sound.none [some 64, some 65, some 66] [(3, .val (.ptr [i64 a0_0, dI a0_1])), (4, .val (.ptr [i64 a1_0, dI a1_1])), (7, .ref 7 [] true (dM v18)), (8, .val (i64 s20)), (9, .ref 7 [s20.toNat] true (dI v26)), (57, .ref 7 [] true (dM v18)), (58, .val (i64 (v18.length : Int))), (59, .val (i64 s20)), (64, .ref 7 [] true (dM v18)), (65, .val (i64 (v18.length : Int))), (66, .val (i64 0))] rfl ?_ ?_
  · simp <;> simp [ieq, ilt, ile]
  obtain ⟨x27, hx27, hx20o⟩ := bind_some hx20o
  refine VW.tlO (fun y29 => [(3, .val (.ptr [i64 a0_0, dI a0_1])), (4, .val (.ptr [i64 a1_0, dI a1_1])), (7, .ref 7 [] true (dM v18)), (57, .ref 7 [] true (dM v18)), (58, .val (i64 (v18.length : Int))), (59, .val (i64 s20))]) x27 (hCK25) ?_ ?_
  · clear hx27
    rintro y29 rfl
    dsimp only at hx20o
    refine hK25 _ ?_
    -- region 16
    refine VW.wr tau_ok Sound.none [some 86, some 59] [(3, .val (.ptr [i64 a0_0, dI a0_1])), (4, .val (.ptr [i64 a1_0, dI a1_1])), (7, .ref 7 [] true (dM v18)), (57, .ref 7 [] true (dM v18)), (58, .val (i64 (v18.length : Int))), (59, .val (i64 (w64 (s20 + 1))))] rfl ?_ ?_
    · simp <;> simp [ieq, ilt, ile]
    cases hx20o
    exact ⟨_, rfl, Fits.of rfl⟩
  refine VW.block ?_
  refine VW.loopF (i_isIsometry_L1 a0_1 a1_0 a1_1 v18 s20 v26) (fun s27 => [(3, .val (.ptr [i64 a0_0, dI a0_1])), (4, .val (.ptr [i64 a1_0, dI a1_1])), (7, .ref 7 [] true (dM v18)), (8, .val (i64 s20)), (9, .ref 7 [s20.toNat] true (dI v26)), (57, .ref 7 [] true (dM v18)), (58, .val (i64 (v18.length : Int))), (59, .val (i64 s20)), (64, .ref 7 [] true (dM v18)), (65, .val (i64 (v18.length : Int))), (66, .val (i64 s27))]) hx27 (Fits.of rfl) ?_
  clear hx27
  intro s27 ox27 hx27o hx27b
  unfold i_isIsometry_L1 at hx27o
  -- region 8
  refine VW.ws tau_ok Sound.none [some 67] [(3, .val (.ptr [i64 a0_0, dI a0_1])), (4, .val (.ptr [i64 a1_0, dI a1_1])), (7, .ref 7 [] true (dM v18)), (8, .val (i64 s20)), (9, .ref 7 [s20.toNat] true (dI v26)), (57, .ref 7 [] true (dM v18)), (58, .val (i64 (v18.length : Int))), (59, .val (i64 s20)), (64, .ref 7 [] true (dM v18)), (65, .val (i64 (v18.length : Int))), (66, .val (i64 s27)), (67, .val (.bool (ilt s27 (v18.length : Int))))] rfl ?_ ?_
  · simp <;> simp [ieq, ilt, ile]
  refine VW.sqc fun K30 hK30 hCK30 => ?_
  refine VW.cond rfl (fun hb31 => ?_) (fun hb31 => ?_)
  rotate_left
  ·
    replace hb31 : ¬ (s27 < (v18.length : Int)) := by simpa [ieq, ilt, ile] using hb31
    rw [if_neg hb31] at hx27o
    refine VW.exit ?_
    cases hx27o
    have hq := hx27b _ rfl
    subst hq
    exact ⟨_, rfl, Fits.of rfl⟩
  replace hb31 : s27 < (v18.length : Int) := by simpa [ieq, ilt, ile] using hb31
  rw [if_pos hb31] at hx27o
  refine VW.skip ?_
  refine hK30 _ ?_
  refine VW.sqc fun K32 hK32 hCK32 => ?_
  refine VW.block ?_
  -- region 9
  obtain ⟨v33, hv33, hx27o⟩ := bind_some hx27o
  obtain ⟨hv33a, hv33b, hv33c, hv33d⟩ := idx_some hv33
  refine VW.ws tau_ok Sound.none [some 68, some 69, some 70, some 10, some 11] [(3, .val (.ptr [i64 a0_0, dI a0_1])), (4, .val (.ptr [i64 a1_0, dI a1_1])), (7, .ref 7 [] true (dM v18)), (8, .val (i64 s20)), (9, .ref 7 [s20.toNat] true (dI v26)), (10, .val (i64 s27)), (11, .ref 7 [s27.toNat] true (dI v33)), (57, .ref 7 [] true (dM v18)), (58, .val (i64 (v18.length : Int))), (59, .val (i64 s20)), (64, .ref 7 [] true (dM v18)), (65, .val (i64 (v18.length : Int))), (66, .val (i64 s27))] rfl ?_ ?_
  · simp [hv33a, hv33b, hv33c, hv33d] <;> simp [ieq, ilt, ile]
  -- region 10
  refine VW.ws tau_ok Sound.none [some 12] [(3, .val (.ptr [i64 a0_0, dI a0_1])), (4, .val (.ptr [i64 a1_0, dI a1_1])), (7, .ref 7 [] true (dM v18)), (8, .val (i64 s20)), (9, .ref 7 [s20.toNat] true (dI v26)), (10, .val (i64 s27)), (11, .ref 7 [s27.toNat] true (dI v33)), (12, .val (i64 0)), (57, .ref 7 [] true (dM v18)), (58, .val (i64 (v18.length : Int))), (59, .val (i64 s20)), (64, .ref 7 [] true (dM v18)), (65, .val (i64 (v18.length : Int))), (66, .val (i64 s27))] rfl ?_ ?_
  · simp <;> simp [ieq, ilt, ile]
  refine VW.sqc fun K34 hK34 hCK34 => ?_
  -- region 11
  refine VW.ws tau_ok Sound.none [some 71, some 72, some 73] [(3, .val (.ptr [i64 a0_0, dI a0_1])), (4, .val (.ptr [i64 a1_0, dI a1_1])), (7, .ref 7 [] true (dM v18)), (8, .val (i64 s20)), (9, .ref 7 [s20.toNat] true (dI v26)), (11, .ref 7 [s27.toNat] true (dI v33)), (12, .val (i64 0)), (57, .ref 7 [] true (dM v18)), (58, .val (i64 (v18.length : Int))), (59, .val (i64 s20)), (64, .ref 7 [] true (dM v18)), (65, .val (i64 (v18.length : Int))), (66, .val (i64 s27)), (73, .val (.bool (ieq s20 s27)))] rfl ?_ ?_
  · simp <;> simp [ieq, ilt, ile]
  obtain ⟨x35, hx35, hx27o⟩ := bind_some hx27o
  refine VW.tlE [(3, .val (.ptr [i64 a0_0, dI a0_1])), (4, .val (.ptr [i64 a1_0, dI a1_1])), (7, .ref 7 [] true (dM v18)), (8, .val (i64 s20)), (9, .ref 7 [s20.toNat] true (dI v26)), (11, .ref 7 [s27.toNat] true (dI v33)), (12, .val (i64 x35)), (57, .ref 7 [] true (dM v18)), (58, .val (i64 (v18.length : Int))), (59, .val (i64 s20)), (64, .ref 7 [] true (dM v18)), (65, .val (i64 (v18.length : Int))), (66, .val (i64 s27))] (hCK34) ?_ ?_
  · clear hx35
    refine hK34 _ ?_
    -- region 13
    obtain ⟨v39, hv39, hx27o⟩ := bind_some hx27o
    refine VW.ws tau_ok (Sound.none.add 82 (i_Space_pair_ok hv39) rfl) [some 79, some 80, some 81, some 82, some 83, some 84] [(3, .val (.ptr [i64 a0_0, dI a0_1])), (4, .val (.ptr [i64 a1_0, dI a1_1])), (7, .ref 7 [] true (dM v18)), (8, .val (i64 s20)), (9, .ref 7 [s20.toNat] true (dI v26)), (57, .ref 7 [] true (dM v18)), (58, .val (i64 (v18.length : Int))), (59, .val (i64 s20)), (64, .ref 7 [] true (dM v18)), (65, .val (i64 (v18.length : Int))), (66, .val (i64 s27)), (84, .val (.bool (!(ieq v39 x35))))] rfl ?_ ?_
    · simp <;> simp [ieq, ilt, ile]
    refine VW.cond rfl (fun hb40 => ?_) (fun hb40 => ?_)
    rotate_left
    ·
      replace hb40 : ¬ (¬ v39 = x35) := by simpa [ieq, ilt, ile] using hb40
      rw [if_neg hb40] at hx27o
      refine VW.skip ?_
      refine hK32 _ ?_
      -- region 15
      refine VW.wr tau_ok Sound.none [some 85, some 66] [(3, .val (.ptr [i64 a0_0, dI a0_1])), (4, .val (.ptr [i64 a1_0, dI a1_1])), (7, .ref 7 [] true (dM v18)), (8, .val (i64 s20)), (9, .ref 7 [s20.toNat] true (dI v26)), (57, .ref 7 [] true (dM v18)), (58, .val (i64 (v18.length : Int))), (59, .val (i64 s20)), (64, .ref 7 [] true (dM v18)), (65, .val (i64 (v18.length : Int))), (66, .val (i64 (w64 (s27 + 1))))] rfl ?_ ?_
      · simp <;> simp [ieq, ilt, ile]
      cases hx27o
      exact ⟨_, rfl, Fits.of rfl⟩
    replace hb40 : ¬ v39 = x35 := by simpa [ieq, ilt, ile] using hb40
    rw [if_pos hb40] at hx27o
    -- region 14
    refine VW.ws tau_ok Sound.none [some 6] [(6, .val (.bool false))] rfl ?_ ?_
    · simp <;> simp [ieq, ilt, ile]
    cases hx27o
    have hq := hx27b _ rfl
    subst hq
    dsimp only at hx20o
    cases hx20o
    have hq := hx20b _ rfl
    subst hq
    dsimp only at h
    cases h
    refine VW.ret ?_
    simp [Post, PostM, PostC, PostC2, Nx, Bk]
  refine VW.cond rfl (fun hb37 => ?_) (fun hb37 => ?_)
  rotate_left
  ·
    replace hb37 : ¬ (s20 = s27) := by simpa [ieq, ilt, ile] using hb37
    rw [if_neg hb37] at hx35
    refine VW.skip ?_
    cases hx35
    exact Fits.of rfl
  replace hb37 : s20 = s27 := by simpa [ieq, ilt, ile] using hb37
  rw [if_pos hb37] at hx35
  -- region 12
  obtain ⟨v38, hv38, hx35⟩ := bind_some hx35
  obtain ⟨hv38a, hv38b, hv38c, hv38d⟩ := idx_some hv38
  refine VW.wr tau_ok Sound.none [some 74, some 75, some 76, some 77, some 78, some 12] [(3, .val (.ptr [i64 a0_0, dI a0_1])), (4, .val (.ptr [i64 a1_0, dI a1_1])), (7, .ref 7 [] true (dM v18)), (8, .val (i64 s20)), (9, .ref 7 [s20.toNat] true (dI v26)), (11, .ref 7 [s27.toNat] true (dI v33)), (12, .val (i64 v38)), (57, .ref 7 [] true (dM v18)), (58, .val (i64 (v18.length : Int))), (59, .val (i64 s20)), (64, .ref 7 [] true (dM v18)), (65, .val (i64 (v18.length : Int))), (66, .val (i64 s27))] rfl ?_ ?_
  · simp [hv38a, hv38b, hv38c, hv38d] <;> simp [ieq, ilt, ile]
  cases hx35
  exact Fits.of rfl

theorem i_IsIsometry_ok {a0_0 : Int} {a0_1 : List Int} {a1_0 : Int} {a1_1 : List Int} {a2 : List (List Int)} {r : Bool × Int} (h : i_IsIsometry a0_0 a0_1 a1_0 a1_1 a2 = some r) :
    VCall Try.prog 42 [.agg [i64 a0_0, dI a0_1], .agg [i64 a1_0, dI a1_1], dM a2] [.sc (.bool r.1), .sc (i64 r.2)] := by
  unfold i_IsIsometry at h
  refine VCall.enter Try.call42 Try.func42 rfl 20 Try.ntmps42 (by simp) [.tmp 6, .tmp 7] rfl ?_
  show VW _ _ _ (mk [(0, .val (.agg [i64 a0_0, dI a0_1])), (1, .val (.agg [i64 a1_0, dI a1_1])), (2, .val (dM a2))]) _
  -- region 0
  refine VW.ws tau_ok Sound.none [some 3, some 4, some 6, some 7] [(2, .val (dM a2)), (3, .val (.ptr [i64 a0_0, dI a0_1])), (4, .val (.ptr [i64 a1_0, dI a1_1]))] rfl ?_ ?_
  · simp <;> simp [ieq, ilt, ile]
  refine VW.sqc fun K1 hK1 hCK1 => ?_
  -- region 1
  obtain ⟨v2, hv2, h⟩ := bind_some h
  refine VW.ws tau_ok (Sound.none.add 12 (i_checkSpaces_ok hv2) rfl) [some 9, some 10, some 11, some 12, some 8] [(2, .val (dM a2)), (3, .val (.ptr [i64 a0_0, dI a0_1])), (4, .val (.ptr [i64 a1_0, dI a1_1])), (8, .val (i64 v2))] rfl ?_ ?_
  · simp <;> simp [ieq, ilt, ile]
  -- region 2
  refine VW.ws tau_ok Sound.none [some 13, some 14] [(2, .val (dM a2)), (3, .val (.ptr [i64 a0_0, dI a0_1])), (4, .val (.ptr [i64 a1_0, dI a1_1])), (8, .val (i64 v2)), (14, .val (.bool (!(ieq v2 0))))] rfl ?_ ?_
  · simp <;> simp [ieq, ilt, ile]
  refine VW.cond rfl (fun hb3 => ?_) (fun hb3 => ?_)
  ·
    replace hb3 : ¬ v2 = 0 := by simpa [ieq, ilt, ile] using hb3
    rw [if_pos hb3] at h
    -- region 3
    refine VW.ws tau_ok Sound.none [some 15, some 6, some 7] [(6, .val (.bool false)), (7, .val (i64 v2))] rfl ?_ ?_
    · simp <;> simp [ieq, ilt, ile]
    cases h
    refine VW.ret ?_
    simp [Post, PostM, PostC, PostC2, Nx, Bk]
  replace hb3 : ¬ (¬ v2 = 0) := by simpa [ieq, ilt, ile] using hb3
  rw [if_neg hb3] at h
  refine VW.skip ?_
  refine hK1 _ ?_
  -- region 4
  obtain ⟨v4, hv4, h⟩ := bind_some h
  refine VW.ws tau_ok (Sound.none.add 19 (i_isIsometry_ok hv4) rfl) [some 16, some 17, some 18, some 19, some 6, some 7] [(6, .val (.bool v4)), (7, .val (i64 0))] rfl ?_ ?_
  · simp <;> simp [ieq, ilt, ile]
  cases h
  refine VW.ret ?_
  simp [Post, PostM, PostC, PostC2, Nx, Bk]

theorem l_eqInt64S_ok {a0 : List Int} {a1 : List Int} {r : Bool} (h : l_eqInt64S a0 a1 = some r) :
    VCall Try.prog 81 [dI a0, dI a1] [.sc (.bool r)] := by
  unfold l_eqInt64S at h
  refine VCall.enter Try.call81 Try.func81 rfl 26 Try.ntmps81 (by simp) [.tmp 4] rfl ?_
  show VW _ _ _ (mk [(0, .val (dI a0)), (1, .val (dI a1))]) _
  -- region 0
  refine VW.ws tau_ok Sound.none [some 4] [(0, .val (dI a0)), (1, .val (dI a1))] rfl ?_ ?_
  · simp <;> simp [ieq, ilt, ile]
  refine VW.sqc fun K1 hK1 hCK1 => ?_
  -- region 1
  refine VW.ws tau_ok Sound.none [some 6, some 7, some 8, some 9, some 10] [(0, .val (dI a0)), (1, .val (dI a1)), (10, .val (.bool (!(ieq (a0.length : Int) (a1.length : Int)))))] rfl ?_ ?_
  · simp <;> simp [ieq, ilt, ile]
  refine VW.cond rfl (fun hb2 => ?_) (fun hb2 => ?_)
  ·
    replace hb2 : ¬ (a0.length : Int) = (a1.length : Int) := by simpa [ieq, ilt, ile] using hb2
    rw [if_pos hb2] at h
    -- region 2
    refine VW.ws tau_ok Sound.none [some 4] [(4, .val (.bool false))] rfl ?_ ?_
    · simp <;> simp [ieq, ilt, ile]
    cases h
    refine VW.ret ?_
    simp [Post, PostM, PostC, PostC2, Nx, Bk]
  replace hb2 : ¬ (¬ (a0.length : Int) = (a1.length : Int)) := by simpa [ieq, ilt, ile] using hb2
  rw [if_neg hb2] at h
  refine VW.skip ?_
  refine hK1 _ ?_
  refine VW.sqc fun K3 hK3 hCK3 => ?_
  -- region 3
  refine VW.ws tau_ok Sound.none [some 5] [(0, .val (dI a0)), (1, .val (dI a1)), (5, .val (i64 0))] rfl ?_ ?_
  · simp <;> simp [ieq, ilt, ile]
  obtain ⟨x4, hx4, h⟩ := bind_some h
  refine VW.tlO (fun y6 => []) x4 (hCK3) ?_ ?_
  · clear hx4
    rintro y6 rfl
    dsimp only at h
    refine hK3 _ ?_
    -- region 8
    refine VW.ws tau_ok Sound.none [some 4] [(4, .val (.bool true))] rfl ?_ ?_
    · simp <;> simp [ieq, ilt, ile]
    cases h
    refine VW.ret ?_
    simp [Post, PostM, PostC, PostC2, Nx, Bk]
  refine VW.block ?_
  refine VW.loopF (l_eqInt64S_L0 a0 a1) (fun s4 => [(0, .val (dI a0)), (1, .val (dI a1)), (5, .val (i64 s4))]) hx4 (Fits.of rfl) ?_
  clear hx4
  intro s4 ox4 hx4o hx4b
  unfold l_eqInt64S_L0 at hx4o
  refine VW.sqc fun K7 hK7 hCK7 => ?_
  -- region 4
  refine VW.ws tau_ok Sound.none [some 11, some 12, some 13, some 14] [(0, .val (dI a0)), (1, .val (dI a1)), (5, .val (i64 s4)), (14, .val (.bool (ilt s4 (a0.length : Int))))] rfl ?_ ?_
  · simp <;> simp [ieq, ilt, ile]
  refine VW.cond rfl (fun hb8 => ?_) (fun hb8 => ?_)
  rotate_left
  ·
    replace hb8 : ¬ (s4 < (a0.length : Int)) := by simpa [ieq, ilt, ile] using hb8
    rw [if_neg hb8] at hx4o
    refine VW.exit ?_
    cases hx4o
    have hq := hx4b _ rfl
    subst hq
    exact ⟨_, rfl, Fits.of rfl⟩
  replace hb8 : s4 < (a0.length : Int) := by simpa [ieq, ilt, ile] using hb8
  rw [if_pos hb8] at hx4o
  refine VW.skip ?_
  refine hK7 _ ?_
  refine VW.sqc fun K9 hK9 hCK9 => ?_
  refine VW.block ?_
  -- region 6
  obtain ⟨v10, hv10, hx4o⟩ := bind_some hx4o
  obtain ⟨hv10a, hv10b, hv10c, hv10d⟩ := idx_some hv10
  obtain ⟨v11, hv11, hx4o⟩ := bind_some hx4o
  obtain ⟨hv11a, hv11b, hv11c, hv11d⟩ := idx_some hv11
  refine VW.wds tau_ok Sound.none try_mixed [some 17, some 18, some 19, some 20, some 21, some 22, some 23, some 24, some 25] [(0, .val (dI a0)), (1, .val (dI a1)), (5, .val (i64 s4)), (25, .val (.bool (!(ieq v10 v11))))] 9 rfl (by kernel_rfl) (by rfl) ?_ ?_
  · simp [hv10a, hv10b, hv10c, hv10d, hv11a, hv11b, hv11c, hv11d] <;> simp [ieq, ilt, ile]
  refine VW.cond rfl (fun hb12 => ?_) (fun hb12 => ?_)
  rotate_left
  ·
    replace hb12 : ¬ (¬ v10 = v11) := by simpa [ieq, ilt, ile] using hb12
    rw [if_neg hb12] at hx4o
    refine VW.skip ?_
    refine hK9 _ ?_
    -- region 5
    refine VW.wr tau_ok Sound.none [some 15, some 16, some 5] [(0, .val (dI a0)), (1, .val (dI a1)), (5, .val (i64 (w64 (s4 + 1))))] rfl ?_ ?_
    · simp <;> simp [ieq, ilt, ile]
    cases hx4o
    exact ⟨_, rfl, Fits.of rfl⟩
  replace hb12 : ¬ v10 = v11 := by simpa [ieq, ilt, ile] using hb12
  rw [if_pos hb12] at hx4o
  -- region 7
  refine VW.ws tau_ok Sound.none [some 4] [(4, .val (.bool false))] rfl ?_ ?_
  · simp <;> simp [ieq, ilt, ile]
  cases hx4o
  have hq := hx4b _ rfl
  subst hq
  dsimp only at h
  cases h
  refine VW.ret ?_
  simp [Post, PostM, PostC, PostC2, Nx, Bk]

theorem l_eqSpace_ok {a0_0 : Int} {a0_1 : List Int} {a1_0 : Int} {a1_1 : List Int} {r : Bool} (h : l_eqSpace a0_0 a0_1 a1_0 a1_1 = some r) :
    VCall Try.prog 43 [.agg [i64 a0_0, dI a0_1], .agg [i64 a1_0, dI a1_1]] [.sc (.bool r)] := by
  unfold l_eqSpace at h
  refine VCall.enter Try.call43 Try.func43 rfl 16 Try.ntmps43 (by simp) [.tmp 4] rfl ?_
  show VW _ _ _ (mk [(0, .val (.agg [i64 a0_0, dI a0_1])), (1, .val (.agg [i64 a1_0, dI a1_1]))]) _
  -- region 0
  refine VW.ws tau_ok Sound.none [some 2, some 3, some 4] [(2, .val (.ptr [i64 a0_0, dI a0_1])), (3, .val (.ptr [i64 a1_0, dI a1_1]))] rfl ?_ ?_
  · simp <;> simp [ieq, ilt, ile]
  refine VW.sqc fun K1 hK1 hCK1 => ?_
  -- region 1
  refine VW.ws tau_ok Sound.none [some 5, some 6, some 7, some 8, some 9] [(2, .val (.ptr [i64 a0_0, dI a0_1])), (3, .val (.ptr [i64 a1_0, dI a1_1])), (9, .val (.bool (!(ieq a0_0 a1_0))))] rfl ?_ ?_
  · simp <;> simp [ieq, ilt, ile]
  refine VW.cond rfl (fun hb2 => ?_) (fun hb2 => ?_)
  ·
    replace hb2 : ¬ a0_0 = a1_0 := by simpa [ieq, ilt, ile] using hb2
    rw [if_pos hb2] at h
    -- region 2
    refine VW.ws tau_ok Sound.none [some 4] [(4, .val (.bool false))] rfl ?_ ?_
    · simp <;> simp [ieq, ilt, ile]
    cases h
    refine VW.ret ?_
    simp [Post, PostM, PostC, PostC2, Nx, Bk]
  replace hb2 : ¬ (¬ a0_0 = a1_0) := by simpa [ieq, ilt, ile] using hb2
  rw [if_neg hb2] at h
  refine VW.skip ?_
  refine hK1 _ ?_
  refine VW.sqc fun K3 hK3 hCK3 => ?_
  -- region 3
  obtain ⟨v4, hv4, h⟩ := bind_some h
  refine VW.ws tau_ok (Sound.none.add 14 (l_eqInt64S_ok hv4) rfl) [some 10, some 11, some 12, some 13, some 14, some 15] [(15, .val (.bool (!v4)))] rfl ?_ ?_
  · simp <;> simp [ieq, ilt, ile]
  refine VW.cond rfl (fun hb5 => ?_) (fun hb5 => ?_)
  ·
    replace hb5 : v4 = false := by simpa [ieq, ilt, ile] using hb5
    rw [if_pos hb5] at h
    -- region 4
    refine VW.ws tau_ok Sound.none [some 4] [(4, .val (.bool false))] rfl ?_ ?_
    · simp <;> simp [ieq, ilt, ile]
    cases h
    refine VW.ret ?_
    simp [Post, PostM, PostC, PostC2, Nx, Bk]
  replace hb5 : ¬ (v4 = false) := by simpa [ieq, ilt, ile] using hb5
  rw [if_neg hb5] at h
  refine VW.skip ?_
  refine hK3 _ ?_
  -- region 5
  refine VW.ws tau_ok Sound.none [some 4] [(4, .val (.bool true))] rfl ?_ ?_
  · simp <;> simp [ieq, ilt, ile]
  cases h
  refine VW.ret ?_
  simp [Post, PostM, PostC, PostC2, Nx, Bk]

theorem l_eqInt64SS_ok {a0 : List (List Int)} {a1 : List (List Int)} {r : Bool} (h : l_eqInt64SS a0 a1 = some r) :
    VCall Try.prog 44 [dM a0, dM a1] [.sc (.bool r)] := by
  unfold l_eqInt64SS at h
  refine VCall.enter Try.call44 Try.func44 rfl 27 Try.ntmps44 (by simp) [.tmp 4] rfl ?_
  show VW _ _ _ (mk [(0, .val (dM a0)), (1, .val (dM a1))]) _
  -- region 0
  refine VW.ws tau_ok Sound.none [some 4] [(0, .val (dM a0)), (1, .val (dM a1))] rfl ?_ ?_
  · simp <;> simp [ieq, ilt, ile]
  refine VW.sqc fun K1 hK1 hCK1 => ?_
  -- region 1
  refine VW.ws tau_ok Sound.none [some 6, some 7, some 8, some 9, some 10] [(0, .val (dM a0)), (1, .val (dM a1)), (10, .val (.bool (!(ieq (a0.length : Int) (a1.length : Int)))))] rfl ?_ ?_
  · simp <;> simp [ieq, ilt, ile]
  refine VW.cond rfl (fun hb2 => ?_) (fun hb2 => ?_)
  ·
    replace hb2 : ¬ (a0.length : Int) = (a1.length : Int) := by simpa [ieq, ilt, ile] using hb2
    rw [if_pos hb2] at h
    -- region 2
    refine VW.ws tau_ok Sound.none [some 4] [(4, .val (.bool false))] rfl ?_ ?_
    · simp <;> simp [ieq, ilt, ile]
    cases h
    refine VW.ret ?_
    simp [Post, PostM, PostC, PostC2, Nx, Bk]
  replace hb2 : ¬ (¬ (a0.length : Int) = (a1.length : Int)) := by simpa [ieq, ilt, ile] using hb2
  rw [if_neg hb2] at h
  refine VW.skip ?_
  refine hK1 _ ?_
  refine VW.sqc fun K3 hK3 hCK3 => ?_
  -- region 3
  refine VW.ws tau_ok Sound.none [some 5] [(0, .val (dM a0)), (1, .val (dM a1)), (5, .val (i64 0))] rfl ?_ ?_
  · simp <;> simp [ieq, ilt, ile]
  obtain ⟨x4, hx4, h⟩ := bind_some h
  refine VW.tlO (fun y6 => []) x4 (hCK3) ?_ ?_
  · clear hx4
    rintro y6 rfl
    dsimp only at h
    refine hK3 _ ?_
    -- region 8
    refine VW.ws tau_ok Sound.none [some 4] [(4, .val (.bool true))] rfl ?_ ?_
    · simp <;> simp [ieq, ilt, ile]
    cases h
    refine VW.ret ?_
    simp [Post, PostM, PostC, PostC2, Nx, Bk]
  refine VW.block ?_
  refine VW.loopF (l_eqInt64SS_L0 a0 a1) (fun s4 => [(0, .val (dM a0)), (1, .val (dM a1)), (5, .val (i64 s4))]) hx4 (Fits.of rfl) ?_
  clear hx4
  intro s4 ox4 hx4o hx4b
  unfold l_eqInt64SS_L0 at hx4o
  refine VW.sqc fun K7 hK7 hCK7 => ?_
  -- region 4
  refine VW.ws tau_ok Sound.none [some 11, some 12, some 13, some 14] [(0, .val (dM a0)), (1, .val (dM a1)), (5, .val (i64 s4)), (14, .val (.bool (ilt s4 (a0.length : Int))))] rfl ?_ ?_
  · simp <;> simp [ieq, ilt, ile]
  refine VW.cond rfl (fun hb8 => ?_) (fun hb8 => ?_)
  rotate_left
  ·
    replace hb8 : ¬ (s4 < (a0.length : Int)) := by simpa [ieq, ilt, ile] using hb8
    rw [if_neg hb8] at hx4o
    refine VW.exit ?_
    cases hx4o
    have hq := hx4b _ rfl
    subst hq
    exact ⟨_, rfl, Fits.of rfl⟩
  replace hb8 : s4 < (a0.length : Int) := by simpa [ieq, ilt, ile] using hb8
  rw [if_pos hb8] at hx4o
  refine VW.skip ?_
  refine hK7 _ ?_
  refine VW.sqc fun K9 hK9 hCK9 => ?_
  refine VW.block ?_
  -- region 6
  obtain ⟨v10, hv10, hx4o⟩ := bind_some hx4o
  obtain ⟨hv10a, hv10b, hv10c, hv10d⟩ := idx_some hv10
  obtain ⟨v11, hv11, hx4o⟩ := bind_some hx4o
  obtain ⟨hv11a, hv11b, hv11c, hv11d⟩ := idx_some hv11
  obtain ⟨v12, hv12, hx4o⟩ := bind_some hx4o
  refine VW.wds tau_ok (Sound.none.add 25 (l_eqInt64S_ok hv12) rfl) try_mixed [some 17, some 18, some 19, some 20, some 21, some 22, some 23, some 24, some 25, some 26] [(0, .val (dM a0)), (1, .val (dM a1)), (5, .val (i64 s4)), (26, .val (.bool (!v12)))] 10 rfl (by kernel_rfl) (by rfl) ?_ ?_
  · simp [hv10a, hv10b, hv10c, hv10d, hv11a, hv11b, hv11c, hv11d] <;> simp [ieq, ilt, ile]
  refine VW.cond rfl (fun hb13 => ?_) (fun hb13 => ?_)
  rotate_left
  ·
    replace hb13 : ¬ (v12 = false) := by simpa [ieq, ilt, ile] using hb13
    rw [if_neg hb13] at hx4o
    refine VW.skip ?_
    refine hK9 _ ?_
    -- region 5
    refine VW.wr tau_ok Sound.none [some 15, some 16, some 5] [(0, .val (dM a0)), (1, .val (dM a1)), (5, .val (i64 (w64 (s4 + 1))))] rfl ?_ ?_
    · simp <;> simp [ieq, ilt, ile]
    cases hx4o
    exact ⟨_, rfl, Fits.of rfl⟩
  replace hb13 : v12 = false := by simpa [ieq, ilt, ile] using hb13
  rw [if_pos hb13] at hx4o
  -- region 7
  refine VW.ws tau_ok Sound.none [some 4] [(4, .val (.bool false))] rfl ?_ ?_
  · simp <;> simp [ieq, ilt, ile]
  cases hx4o
  have hq := hx4b _ rfl
  subst hq
  dsimp only at h
  cases h
  refine VW.ret ?_
  simp [Post, PostM, PostC, PostC2, Nx, Bk]

theorem l_FnExactIsIsometry_ok {a0_0 : Int} {a0_1 : List Int} {a1_0 : Int} {a1_1 : List Int} {a2 : List (List Int)} {r : Bool} (h : l_FnExactIsIsometry a0_0 a0_1 a1_0 a1_1 a2 = some r) :
    VCall Try.prog 5 [.agg [i64 a0_0, dI a0_1], .agg [i64 a1_0, dI a1_1], dM a2] [.sc (.bool r)] := by
  unfold l_FnExactIsIsometry at h
  refine VCall.enter Try.call5 Try.func5 rfl 76 Try.ntmps5 (by simp) [.tmp 6] rfl ?_
  show VW _ _ _ (mk [(0, .val (.agg [i64 a0_0, dI a0_1])), (1, .val (.agg [i64 a1_0, dI a1_1])), (2, .val (dM a2))]) _
  -- region 0
  refine VW.ws tau_ok Sound.none [some 3, some 4, some 6] [(2, .val (dM a2)), (3, .val (.ptr [i64 a0_0, dI a0_1])), (4, .val (.ptr [i64 a1_0, dI a1_1]))] rfl ?_ ?_
  · simp <;> simp [ieq, ilt, ile]
  -- region 1
  refine VW.ws tau_ok Sound.none [some 7] [(2, .val (dM a2)), (3, .val (.ptr [i64 a0_0, dI a0_1])), (4, .val (.ptr [i64 a1_0, dI a1_1])), (7, .val (i64 1048576))] rfl ?_ ?_
  · simp <;> simp [ieq, ilt, ile]
  -- region 2
  obtain ⟨v1, hv1, h⟩ := bind_some h
  refine VW.ws tau_ok (Sound.none.add 17 (l_szSpace_ok hv1) rfl) [some 15, some 16, some 17, some 7] [(2, .val (dM a2)), (3, .val (.ptr [i64 a0_0, dI a0_1])), (4, .val (.ptr [i64 a1_0, dI a1_1])), (7, .val (i64 v1))] rfl ?_ ?_
  · simp <;> simp [ieq, ilt, ile]
  refine VW.sqc fun K2 hK2 hCK2 => ?_
  -- region 3
  refine VW.ws tau_ok Sound.none [some 18, some 19] [(2, .val (dM a2)), (3, .val (.ptr [i64 a0_0, dI a0_1])), (4, .val (.ptr [i64 a1_0, dI a1_1])), (7, .val (i64 v1)), (19, .val (.bool (ilt v1 0)))] rfl ?_ ?_
  · simp <;> simp [ieq, ilt, ile]
  refine VW.cond rfl (fun hb3 => ?_) (fun hb3 => ?_)
  ·
    replace hb3 : v1 < 0 := by simpa [ieq, ilt, ile] using hb3
    rw [if_pos hb3] at h
    -- region 4
    refine VW.ws tau_ok Sound.none [some 6] [(6, .val (.bool true))] rfl ?_ ?_
    · simp <;> simp [ieq, ilt, ile]
    cases h
    refine VW.ret ?_
    simp [Post, PostM, PostC, PostC2, Nx, Bk]
  replace hb3 : ¬ (v1 < 0) := by simpa [ieq, ilt, ile] using hb3
  rw [if_neg hb3] at h
  refine VW.skip ?_
  refine hK2 _ ?_
  -- region 5
  obtain ⟨v4, hv4, h⟩ := bind_some h
  refine VW.ws tau_ok (Sound.none.add 22 (l_szSpace_ok hv4) rfl) [some 20, some 21, some 22, some 7] [(2, .val (dM a2)), (3, .val (.ptr [i64 a0_0, dI a0_1])), (4, .val (.ptr [i64 a1_0, dI a1_1])), (7, .val (i64 v4))] rfl ?_ ?_
  · simp <;> simp [ieq, ilt, ile]
  refine VW.sqc fun K5 hK5 hCK5 => ?_
  -- region 6
  refine VW.ws tau_ok Sound.none [some 23, some 24] [(2, .val (dM a2)), (3, .val (.ptr [i64 a0_0, dI a0_1])), (4, .val (.ptr [i64 a1_0, dI a1_1])), (7, .val (i64 v4)), (24, .val (.bool (ilt v4 0)))] rfl ?_ ?_
  · simp <;> simp [ieq, ilt, ile]
  refine VW.cond rfl (fun hb6 => ?_) (fun hb6 => ?_)
  ·
    replace hb6 : v4 < 0 := by simpa [ieq, ilt, ile] using hb6
    rw [if_pos hb6] at h
    -- region 7
    refine VW.ws tau_ok Sound.none [some 6] [(6, .val (.bool true))] rfl ?_ ?_
    · simp <;> simp [ieq, ilt, ile]
    cases h
    refine VW.ret ?_
    simp [Post, PostM, PostC, PostC2, Nx, Bk]
  replace hb6 : ¬ (v4 < 0) := by simpa [ieq, ilt, ile] using hb6
  rw [if_neg hb6] at h
  refine VW.skip ?_
  refine hK5 _ ?_
  -- region 8
  obtain ⟨v7, hv7, h⟩ := bind_some h
  refine VW.ws tau_ok (Sound.none.add 27 (l_szInt64SS_ok hv7) rfl) [some 25, some 26, some 27, some 7] [(2, .val (dM a2)), (3, .val (.ptr [i64 a0_0, dI a0_1])), (4, .val (.ptr [i64 a1_0, dI a1_1])), (7, .val (i64 v7))] rfl ?_ ?_
  · simp <;> simp [ieq, ilt, ile]
  refine VW.sqc fun K8 hK8 hCK8 => ?_
  -- region 9
  refine VW.ws tau_ok Sound.none [some 28, some 29] [(2, .val (dM a2)), (3, .val (.ptr [i64 a0_0, dI a0_1])), (4, .val (.ptr [i64 a1_0, dI a1_1])), (29, .val (.bool (ilt v7 0)))] rfl ?_ ?_
  · simp <;> simp [ieq, ilt, ile]
  refine VW.cond rfl (fun hb9 => ?_) (fun hb9 => ?_)
  ·
    replace hb9 : v7 < 0 := by simpa [ieq, ilt, ile] using hb9
    rw [if_pos hb9] at h
    -- region 10
    refine VW.ws tau_ok Sound.none [some 6] [(6, .val (.bool true))] rfl ?_ ?_
    · simp <;> simp [ieq, ilt, ile]
    cases h
    refine VW.ret ?_
    simp [Post, PostM, PostC, PostC2, Nx, Bk]
  replace hb9 : ¬ (v7 < 0) := by simpa [ieq, ilt, ile] using hb9
  rw [if_neg hb9] at h
  refine VW.skip ?_
  refine hK8 _ ?_
  -- region 11
  obtain ⟨v10, hv10, h⟩ := bind_some h
  obtain ⟨v11, hv11, h⟩ := bind_some h
  obtain ⟨v12, hv12, h⟩ := bind_some h
  obtain ⟨v13, hv13, h⟩ := bind_some h
  refine VW.wds tau_ok ((((Sound.none.add 32 (l_toSpace_ok hv10) rfl).add 34 (l_toSpace_ok hv11) rfl).add 36 (l_toInt64SS_ok hv12) rfl).add 37 (s_IsIsometry_ok hv13) rfl) try_mixed [some 31, some 32, some 33, some 34, some 35, some 36, some 37, some 30, some 38, some 39, some 8, some 9] [(2, .val (dM a2)), (3, .val (.ptr [i64 a0_0, dI a0_1])), (4, .val (.ptr [i64 a1_0, dI a1_1])), (8, .val (.bool v13.1)), (9, .val (i64 v13.2))] 12 rfl (by kernel_rfl) (by rfl) ?_ ?_
  · simp <;> simp [ieq, ilt, ile]
  -- region 12
  obtain ⟨v14, hv14, h⟩ := bind_some h
  refine VW.ws tau_ok (Sound.none.add 41 (l_toSpace_ok hv14) rfl) [some 40, some 41, some 10, none] [(2, .val (dM a2)), (3, .val (.ptr [i64 a0_0, dI a0_1])), (4, .val (.ptr [i64 a1_0, dI a1_1])), (8, .val (.bool v13.1)), (9, .val (i64 v13.2)), (10, .ref 10 [] true (.ptr [i64 v14.1, dI v14.2]))] rfl ?_ ?_
  · simp <;> simp [ieq, ilt, ile]
  -- region 13
  obtain ⟨v15, hv15, h⟩ := bind_some h
  refine VW.ws tau_ok (Sound.none.add 43 (l_toSpace_ok hv15) rfl) [some 42, some 43, some 11, none] [(2, .val (dM a2)), (3, .val (.ptr [i64 a0_0, dI a0_1])), (4, .val (.ptr [i64 a1_0, dI a1_1])), (8, .val (.bool v13.1)), (9, .val (i64 v13.2)), (10, .ref 10 [] true (.ptr [i64 v14.1, dI v14.2])), (11, .ref 11 [] true (.ptr [i64 v15.1, dI v15.2]))] rfl ?_ ?_
  · simp <;> simp [ieq, ilt, ile]
  -- region 14
  obtain ⟨v16, hv16, h⟩ := bind_some h
  refine VW.ws tau_ok (Sound.none.add 45 (l_toInt64SS_ok hv16) rfl) [some 44, some 45, some 12] [(2, .val (dM a2)), (3, .val (.ptr [i64 a0_0, dI a0_1])), (4, .val (.ptr [i64 a1_0, dI a1_1])), (8, .val (.bool v13.1)), (9, .val (i64 v13.2)), (10, .ref 10 [] true (.ptr [i64 v14.1, dI v14.2])), (11, .ref 11 [] true (.ptr [i64 v15.1, dI v15.2])), (12, .ref 12 [] true (dM v16))] rfl ?_ ?_
  · simp <;> simp [ieq, ilt, ile]
  -- region 15
  obtain ⟨v17, hv17, h⟩ := bind_some h
  refine VW.ws tau_ok (Sound.none.add 50 (i_IsIsometry_ok hv17) rfl) [some 47, some 48, some 49, some 50, some 46, some 51, some 52, some 13, some 14] [(2, .val (dM a2)), (3, .val (.ptr [i64 a0_0, dI a0_1])), (4, .val (.ptr [i64 a1_0, dI a1_1])), (8, .val (.bool v13.1)), (9, .val (i64 v13.2)), (10, .ref 10 [] true (.ptr [i64 v14.1, dI v14.2])), (11, .ref 11 [] true (.ptr [i64 v15.1, dI v15.2])), (12, .ref 12 [] true (dM v16)), (13, .val (.bool v17.1)), (14, .val (i64 v17.2))] rfl ?_ ?_
  · simp <;> simp [ieq, ilt, ile]
  refine VW.sqc fun K18 hK18 hCK18 => ?_
  -- region 16
  obtain ⟨x20, hx20, h⟩ := bind_some h
  refine VW.cut [(2, .val (dM a2)), (3, .val (.ptr [i64 a0_0, dI a0_1])), (4, .val (.ptr [i64 a1_0, dI a1_1])), (10, .ref 10 [] true (.ptr [i64 v14.1, dI v14.2])), (11, .ref 11 [] true (.ptr [i64 v15.1, dI v15.2])), (12, .ref 12 [] true (dM v16)), (60, .val (.bool x20))] ?_ fun hy => ?_
  rotate_left
  · clear h
    by_cases hp19 : (v17.1 != v13.1) = true
    · rw [if_pos hp19] at hx20
      have hp19b : (v17.1 != v13.1) = true := by simpa [ieq, ilt, ile] using hp19
      have hp19s := hp19b
      try simp at hp19s
      cases hx20
      refine VW.ws tau_ok Sound.none [some 53, some 54, some 55, some 56, some 57, some 58, some 59, some 60] _ rfl ?_ hy
      simp [hp19b, hp19s] <;> simp [ieq, ilt, ile]
    · rw [if_neg hp19] at hx20
      have hp19b : (v17.1 != v13.1) = false := by simpa [ieq, ilt, ile] using hp19
      have hp19s := hp19b
      try simp at hp19s
      cases hx20
      refine VW.ws tau_ok Sound.none [some 53, some 54, some 55, some 56, some 57, some 58, some 59, some 60] _ rfl ?_ hy
      simp [hp19b, hp19s] <;> simp [ieq, ilt, ile]
  refine VW.cond rfl (fun hb21 => ?_) (fun hb21 => ?_)
  ·
    replace hb21 : x20 = true := by simpa [ieq, ilt, ile] using hb21
    rw [if_pos hb21] at h
    -- region 17
    refine VW.ws tau_ok Sound.none [some 6] [(6, .val (.bool false))] rfl ?_ ?_
    · simp <;> simp [ieq, ilt, ile]
    cases h
    refine VW.ret ?_
    simp [Post, PostM, PostC, PostC2, Nx, Bk]
  replace hb21 : ¬ (x20 = true) := by simpa [ieq, ilt, ile] using hb21
  rw [if_neg hb21] at h
  refine VW.skip ?_
  refine hK18 _ ?_
  refine VW.sqc fun K22 hK22 hCK22 => ?_
  -- region 18
  obtain ⟨v23, hv23, h⟩ := bind_some h
  obtain ⟨v24, hv24, h⟩ := bind_some h
  refine VW.wds tau_ok ((Sound.none.add 63 (l_toSpace_ok hv23) rfl).add 64 (l_eqSpace_ok hv24) rfl) try_mixed [some 61, some 62, some 63, some 64, some 65] [(2, .val (dM a2)), (4, .val (.ptr [i64 a1_0, dI a1_1])), (11, .ref 11 [] true (.ptr [i64 v15.1, dI v15.2])), (12, .ref 12 [] true (dM v16)), (65, .val (.bool (!v24)))] 5 rfl (by kernel_rfl) (by rfl) ?_ ?_
  · simp <;> simp [ieq, ilt, ile]
  refine VW.cond rfl (fun hb25 => ?_) (fun hb25 => ?_)
  ·
    replace hb25 : v24 = false := by simpa [ieq, ilt, ile] using hb25
    rw [if_pos hb25] at h
    -- region 19
    refine VW.ws tau_ok Sound.none [some 6] [(6, .val (.bool false))] rfl ?_ ?_
    · simp <;> simp [ieq, ilt, ile]
    cases h
    refine VW.ret ?_
    simp [Post, PostM, PostC, PostC2, Nx, Bk]
  replace hb25 : ¬ (v24 = false) := by simpa [ieq, ilt, ile] using hb25
  rw [if_neg hb25] at h
  refine VW.skip ?_
  refine hK22 _ ?_
  refine VW.sqc fun K26 hK26 hCK26 => ?_
  -- region 20
  obtain ⟨v27, hv27, h⟩ := bind_some h
  obtain ⟨v28, hv28, h⟩ := bind_some h
  refine VW.wds tau_ok ((Sound.none.add 68 (l_toSpace_ok hv27) rfl).add 69 (l_eqSpace_ok hv28) rfl) try_mixed [some 66, some 67, some 68, some 69, some 70] [(2, .val (dM a2)), (12, .ref 12 [] true (dM v16)), (70, .val (.bool (!v28)))] 5 rfl (by kernel_rfl) (by rfl) ?_ ?_
  · simp <;> simp [ieq, ilt, ile]
  refine VW.cond rfl (fun hb29 => ?_) (fun hb29 => ?_)
  ·
    replace hb29 : v28 = false := by simpa [ieq, ilt, ile] using hb29
    rw [if_pos hb29] at h
    -- region 21
    refine VW.ws tau_ok Sound.none [some 6] [(6, .val (.bool false))] rfl ?_ ?_
    · simp <;> simp [ieq, ilt, ile]
    cases h
    refine VW.ret ?_
    simp [Post, PostM, PostC, PostC2, Nx, Bk]
  replace hb29 : ¬ (v28 = false) := by simpa [ieq, ilt, ile] using hb29
  rw [if_neg hb29] at h
  refine VW.skip ?_
  refine hK26 _ ?_
  refine VW.sqc fun K30 hK30 hCK30 => ?_
  -- region 22
  obtain ⟨v31, hv31, h⟩ := bind_some h
  obtain ⟨v32, hv32, h⟩ := bind_some h
  refine VW.ws tau_ok ((Sound.none.add 73 (l_toInt64SS_ok hv31) rfl).add 74 (l_eqInt64SS_ok hv32) rfl) [some 71, some 72, some 73, some 74, some 75] [(75, .val (.bool (!v32)))] rfl ?_ ?_
  · simp <;> simp [ieq, ilt, ile]
  refine VW.cond rfl (fun hb33 => ?_) (fun hb33 => ?_)
  ·
    replace hb33 : v32 = false := by simpa [ieq, ilt, ile] using hb33
    rw [if_pos hb33] at h
    -- region 23
    refine VW.ws tau_ok Sound.none [some 6] [(6, .val (.bool false))] rfl ?_ ?_
    · simp <;> simp [ieq, ilt, ile]
    cases h
    refine VW.ret ?_
    simp [Post, PostM, PostC, PostC2, Nx, Bk]
  replace hb33 : ¬ (v32 = false) := by simpa [ieq, ilt, ile] using hb33
  rw [if_neg hb33] at h
  refine VW.skip ?_
  refine hK30 _ ?_
  -- region 24
  refine VW.ws tau_ok Sound.none [some 6] [(6, .val (.bool true))] rfl ?_ ?_
  · simp <;> simp [ieq, ilt, ile]
  cases h
  refine VW.ret ?_
  simp [Post, PostM, PostC, PostC2, Nx, Bk]
end Go.Vam
