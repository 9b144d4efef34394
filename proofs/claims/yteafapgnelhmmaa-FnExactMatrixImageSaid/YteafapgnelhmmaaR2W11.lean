import Derived.Test.YteafapgnelhmmaaR2T
import Derived.Test.YteafapgnelhmmaaFnD
import Derived.Test.YteafapgnelhmmaaR2W2
import Derived.Test.YteafapgnelhmmaaR2W4
import Derived.Test.YteafapgnelhmmaaR2W7
import Derived.Test.YteafapgnelhmmaaR2W8
import Derived.Test.YteafapgnelhmmaaR2W9
import Derived.Test.YteafapgnelhmmaaR2W10
namespace Go.Vam
open Go Go.RowKit Go.Proofs
set_option maxRecDepth 100000
set_option linter.unusedSimpArgs false
set_option linter.unusedVariables false

theorem s_l02Det_ok {a0 : Int} {a1 : List (List Int)} {r : Int} (h : s_l02Det a0 a1 = some r) :
    VCall Try.prog 96 [i64 a0, dM a1] [.sc (i64 r)] := by
  unfold s_l02Det at h
  refine VCall.enter Try.call96 Try.func96 rfl 119 Try.ntmps96 (by simp) [.tmp 4] rfl ?_
  show VW _ _ _ (mk [(0, .val (i64 a0)), (1, .val (dM a1))]) _
  -- region 0
  refine VW.ws tau_ok Sound.none [some 4] [(0, .val (i64 a0)), (1, .val (dM a1))] rfl ?_ ?_
  · simp <;> simp [ieq, ilt, ile]
  -- region 1
  obtain ⟨v1, hv1, h⟩ := bind_some h
  refine VW.ws tau_ok (Sound.none.add 13 (s_l01Own2_ok hv1) rfl) [some 12, some 13, some 5, some 6] [(0, .val (i64 a0)), (5, .ref 5 [] true (dM v1)), (6, .val (i64 1))] rfl ?_ ?_
  · simp <;> simp [ieq, ilt, ile]
  refine VW.sqc fun K2 hK2 hCK2 => ?_
  -- region 2
  refine VW.ws tau_ok Sound.none [some 7] [(0, .val (i64 a0)), (5, .ref 5 [] true (dM v1)), (6, .val (i64 1)), (7, .val (i64 0))] rfl ?_ ?_
  · simp <;> simp [ieq, ilt, ile]
  obtain ⟨x3, hx3, h⟩ := bind_some h
  refine VW.tlO (fun y5 => [(6, .val (i64 y5))]) x3 (hCK2) ?_ ?_
  · clear hx3
    rintro y5 rfl
    dsimp only at h
    refine hK2 _ ?_
    -- region 21
    refine VW.ws tau_ok Sound.none [some 118, some 4] [(4, .val (i64 y5))] rfl ?_ ?_
    · simp <;> simp [ieq, ilt, ile]
    cases h
    refine VW.ret ?_
    simp [Post, PostM, PostC, PostC2, Nx, Bk]
  refine VW.block ?_
  refine VW.loopF (s_l02Det_L0 a0) (fun s3 => [(0, .val (i64 a0)), (5, .ref 5 [] false (dM s3.1)), (6, .val (i64 s3.2.1)), (7, .val (i64 s3.2.2))]) hx3 (Fits.weak (s := 5) rfl (by simp) (Fits.of rfl)) ?_
  clear hx3
  intro s3 ox3 hx3o hx3b
  unfold s_l02Det_L0 at hx3o
  refine VW.sqc fun K6 hK6 hCK6 => ?_
  -- region 3
  refine VW.ws tau_ok Sound.none [some 14, some 15, some 16, some 17] [(0, .val (i64 a0)), (5, .ref 5 [] false (dM s3.1)), (6, .val (i64 s3.2.1)), (7, .val (i64 s3.2.2)), (17, .val (.bool (ilt s3.2.2 (s3.1.length : Int))))] rfl ?_ ?_
  · simp <;> simp [ieq, ilt, ile]
  refine VW.cond rfl (fun hb7 => ?_) (fun hb7 => ?_)
  rotate_left
  ·
    replace hb7 : ¬ (s3.2.2 < (s3.1.length : Int)) := by simpa [ieq, ilt, ile] using hb7
    rw [if_neg hb7] at hx3o
    refine VW.exit ?_
    cases hx3o
    have hq := hx3b _ rfl
    subst hq
    exact ⟨_, rfl, Fits.of rfl⟩
  replace hb7 : s3.2.2 < (s3.1.length : Int) := by simpa [ieq, ilt, ile] using hb7
  rw [if_pos hb7] at hx3o
  refine VW.skip ?_
  refine hK6 _ ?_
  refine VW.sqc fun K8 hK8 hCK8 => ?_
  refine VW.block ?_
  -- region 5
  refine VW.ws tau_ok Sound.none [some 20, some 8] [(0, .val (i64 a0)), (5, .ref 5 [] false (dM s3.1)), (6, .val (i64 s3.2.1)), (7, .val (i64 s3.2.2)), (8, .val (i64 s3.2.2))] rfl ?_ ?_
  · simp <;> simp [ieq, ilt, ile]
  refine VW.sqc fun K9 hK9 hCK9 => ?_
  obtain ⟨x10, hx10, hx3o⟩ := bind_some hx3o
  refine VW.tlE [(0, .val (i64 a0)), (5, .ref 5 [] false (dM s3.1)), (6, .val (i64 s3.2.1)), (7, .val (i64 s3.2.2)), (8, .val (i64 x10))] (hCK9) ?_ ?_
  · clear hx10
    refine hK9 _ ?_
    refine VW.sqc fun K18 hK18 hCK18 => ?_
    -- region 8
    refine VW.ws tau_ok Sound.none [some 37, some 38, some 39, some 40] [(0, .val (i64 a0)), (5, .ref 5 [] false (dM s3.1)), (6, .val (i64 s3.2.1)), (7, .val (i64 s3.2.2)), (8, .val (i64 x10)), (40, .val (.bool (ieq x10 (s3.1.length : Int))))] rfl ?_ ?_
    · simp <;> simp [ieq, ilt, ile]
    refine VW.cond rfl (fun hb19 => ?_) (fun hb19 => ?_)
    ·
      replace hb19 : x10 = (s3.1.length : Int) := by simpa [ieq, ilt, ile] using hb19
      rw [if_pos hb19] at hx3o
      -- region 9
      refine VW.ws tau_ok Sound.none [some 4] [(4, .val (i64 0))] rfl ?_ ?_
      · simp <;> simp [ieq, ilt, ile]
      cases hx3o
      have hq := hx3b _ rfl
      subst hq
      dsimp only at h
      cases h
      refine VW.ret ?_
      simp [Post, PostM, PostC, PostC2, Nx, Bk]
    replace hb19 : ¬ (x10 = (s3.1.length : Int)) := by simpa [ieq, ilt, ile] using hb19
    rw [if_neg hb19] at hx3o
    refine VW.skip ?_
    refine hK18 _ ?_
    refine VW.sqc fun K20 hK20 hCK20 => ?_
    -- region 10
    refine VW.ws tau_ok Sound.none [some 41, some 42, some 43] [(0, .val (i64 a0)), (5, .ref 5 [] false (dM s3.1)), (6, .val (i64 s3.2.1)), (7, .val (i64 s3.2.2)), (8, .val (i64 x10)), (43, .val (.bool (ilt s3.2.2 x10)))] rfl ?_ ?_
    · simp <;> simp [ieq, ilt, ile]
    obtain ⟨x21, hx21, hx3o⟩ := bind_some hx3o
    refine VW.tlE [(0, .val (i64 a0)), (5, .ref 5 [] false (dM x21.1)), (6, .val (i64 x21.2)), (7, .val (i64 s3.2.2))] (hCK20) ?_ ?_
    · clear hx21
      refine hK20 _ ?_
      -- region 15
      obtain ⟨v29, hv29, hx3o⟩ := bind_some hx3o
      obtain ⟨hv29a, hv29b, hv29c, hv29d⟩ := idx_some hv29
      obtain ⟨v30, hv30, hx3o⟩ := bind_some hx3o
      obtain ⟨hv30a, hv30b, hv30c, hv30d⟩ := idx_some hv30
      obtain ⟨hc31, hx3o⟩ := chk_some hx3o
      have hc31s := hc31
      try simp at hc31s
      refine VW.ws tau_ok Sound.none [some 64, some 65, some 66, some 67, some 68, some 69, some 70, some 71, some 72, some 73, some 74, some 6] [(0, .val (i64 a0)), (5, .ref 5 [] false (dM x21.1)), (6, .val (i64 ((w64 (x21.2 * v30)).tmod a0))), (7, .val (i64 s3.2.2))] rfl ?_ ?_
      · simp [hv29a, hv29b, hv29c, hv29d, hv30a, hv30b, hv30c, hv30d, hc31, hc31s] <;> simp [ieq, ilt, ile]
      -- region 16
      obtain ⟨v32, hv32, hx3o⟩ := bind_some hx3o
      refine VW.ws tau_ok (Sound.none.add 83 (s_l01Inv_ok hv32) rfl) [some 75, some 76, some 77, some 78, some 79, some 80, some 81, some 82, some 83, some 10] [(0, .val (i64 a0)), (5, .ref 5 [] false (dM x21.1)), (6, .val (i64 ((w64 (x21.2 * v30)).tmod a0))), (7, .val (i64 s3.2.2)), (10, .val (i64 v32))] rfl ?_ ?_
      · simp [hv29a, hv29b, hv29c, hv29d, hv30a, hv30b, hv30c, hv30d] <;> simp [ieq, ilt, ile]
      -- region 17
      refine VW.ws tau_ok Sound.none [some 84, some 85, some 11] [(0, .val (i64 a0)), (5, .ref 5 [] false (dM x21.1)), (6, .val (i64 ((w64 (x21.2 * v30)).tmod a0))), (7, .val (i64 s3.2.2)), (10, .val (i64 v32)), (11, .val (i64 (w64 (s3.2.2 + 1))))] rfl ?_ ?_
      · simp <;> simp [ieq, ilt, ile]
      obtain ⟨x33, hx33, hx3o⟩ := bind_some hx3o
      refine VW.tlE [(0, .val (i64 a0)), (5, .ref 5 [] false (dM x33)), (6, .val (i64 ((w64 (x21.2 * v30)).tmod a0))), (7, .val (i64 s3.2.2))] (hCK8) ?_ ?_
      · clear hx33
        refine hK8 _ ?_
        -- region 4
        refine VW.wr tau_ok Sound.none [some 18, some 19, some 7] [(0, .val (i64 a0)), (5, .ref 5 [] false (dM x33)), (6, .val (i64 ((w64 (x21.2 * v30)).tmod a0))), (7, .val (i64 (w64 (s3.2.2 + 1))))] rfl ?_ ?_
        · simp <;> simp [ieq, ilt, ile]
        cases hx3o
        exact ⟨_, rfl, Fits.of rfl⟩
      refine VW.block ?_
      refine VW.loopF (s_l02Det_L2 a0 s3 v32) (fun s33 => [(0, .val (i64 a0)), (5, .ref 5 [] false (dM s33.1)), (6, .val (i64 ((w64 (x21.2 * v30)).tmod a0))), (7, .val (i64 s3.2.2)), (10, .val (i64 v32)), (11, .val (i64 s33.2))]) hx33 (Fits.of rfl) ?_
      clear hx33
      intro s33 ox33 hx33o hx33b
      unfold s_l02Det_L2 at hx33o
      refine VW.sqc fun K35 hK35 hCK35 => ?_
      -- region 18
      refine VW.ws tau_ok Sound.none [some 86, some 87, some 88, some 89] [(0, .val (i64 a0)), (5, .ref 5 [] false (dM s33.1)), (6, .val (i64 ((w64 (x21.2 * v30)).tmod a0))), (7, .val (i64 s3.2.2)), (10, .val (i64 v32)), (11, .val (i64 s33.2)), (89, .val (.bool (ilt s33.2 (s33.1.length : Int))))] rfl ?_ ?_
      · simp <;> simp [ieq, ilt, ile]
      refine VW.cond rfl (fun hb36 => ?_) (fun hb36 => ?_)
      rotate_left
      ·
        replace hb36 : ¬ (s33.2 < (s33.1.length : Int)) := by simpa [ieq, ilt, ile] using hb36
        rw [if_neg hb36] at hx33o
        refine VW.exit ?_
        cases hx33o
        have hq := hx33b _ rfl
        subst hq
        exact Fits.of rfl
      replace hb36 : s33.2 < (s33.1.length : Int) := by simpa [ieq, ilt, ile] using hb36
      rw [if_pos hb36] at hx33o
      refine VW.skip ?_
      refine hK35 _ ?_
      refine VW.sqc fun K37 hK37 hCK37 => ?_
      refine VW.block ?_
      -- region 20
      obtain ⟨v38, hv38, hx33o⟩ := bind_some hx33o
      obtain ⟨hv38a, hv38b, hv38c, hv38d⟩ := idx_some hv38
      obtain ⟨v39, hv39, hx33o⟩ := bind_some hx33o
      obtain ⟨hv39a, hv39b, hv39c, hv39d⟩ := idx_some hv39
      obtain ⟨v40, hv40, hx33o⟩ := bind_some hx33o
      obtain ⟨hv40a, hv40b, hv40c, hv40d⟩ := idx_some hv40
      obtain ⟨hc41, hx33o⟩ := chk_some hx33o
      have hc41s := hc41
      try simp at hc41s
      obtain ⟨v42, hv42, hx33o⟩ := bind_some hx33o
      refine VW.wdr tau_ok (Sound.none.add 116 (s_l02Plus_ok hv42) rfl) try_mixed [some 92, some 93, some 94, some 95, some 96, some 97, some 98, some 99, some 100, some 101, some 102, some 103, some 104, some 105, some 106, some 107, some 108, some 109, some 110, some 111, some 112, some 113, some 114, some 115, some 116, some 117, none] [(0, .val (i64 a0)), (5, .ref 5 [] false (dM (s33.1.set s33.2.toNat v42))), (6, .val (i64 ((w64 (x21.2 * v30)).tmod a0))), (7, .val (i64 s3.2.2)), (10, .val (i64 v32)), (11, .val (i64 s33.2))] 26 rfl (by kernel_rfl) (by rfl) ?_ ?_
      · simp [hv38a, hv38b, hv38c, hv38d, hv39a, hv39b, hv39c, hv39d, hv40a, hv40b, hv40c, hv40d, hc41, hc41s] <;> simp [ieq, ilt, ile]
      refine hK37 _ ?_
      -- region 19
      refine VW.wr tau_ok Sound.none [some 90, some 91, some 11] [(0, .val (i64 a0)), (5, .ref 5 [] false (dM (s33.1.set s33.2.toNat v42))), (6, .val (i64 ((w64 (x21.2 * v30)).tmod a0))), (7, .val (i64 s3.2.2)), (10, .val (i64 v32)), (11, .val (i64 (w64 (s33.2 + 1))))] rfl ?_ ?_
      · simp <;> simp [ieq, ilt, ile]
      cases hx33o
      exact ⟨_, rfl, Fits.of rfl⟩
    refine VW.cond rfl (fun hb23 => ?_) (fun hb23 => ?_)
    rotate_left
    ·
      replace hb23 : ¬ (s3.2.2 < x10) := by simpa [ieq, ilt, ile] using hb23
      rw [if_neg hb23] at hx21
      refine VW.skip ?_
      cases hx21
      exact Fits.of rfl
    replace hb23 : s3.2.2 < x10 := by simpa [ieq, ilt, ile] using hb23
    rw [if_pos hb23] at hx21
    -- region 11
    obtain ⟨v24, hv24, hx21⟩ := bind_some hx21
    obtain ⟨hv24a, hv24b, hv24c, hv24d⟩ := idx_some hv24
    refine VW.ws tau_ok Sound.none [some 44, some 45, some 46, some 47, some 9] [(0, .val (i64 a0)), (5, .ref 5 [] false (dM s3.1)), (6, .val (i64 s3.2.1)), (7, .val (i64 s3.2.2)), (8, .val (i64 x10)), (9, .val (dI v24))] rfl ?_ ?_
    · simp [hv24a, hv24b, hv24c, hv24d] <;> simp [ieq, ilt, ile]
    -- region 12
    obtain ⟨v25, hv25, hx21⟩ := bind_some hx21
    obtain ⟨hv25a, hv25b, hv25c, hv25d⟩ := idx_some hv25
    refine VW.ws tau_ok Sound.none [some 48, some 49, some 50, some 51, some 52, some 53, some 54, none] [(0, .val (i64 a0)), (5, .ref 5 [] false (dM (s3.1.set x10.toNat v25))), (6, .val (i64 s3.2.1)), (7, .val (i64 s3.2.2)), (9, .val (dI v24))] rfl ?_ ?_
    · simp [hv25a, hv25b, hv25c, hv25d, hv24a, hv24b, hv24c, hv24d] <;> simp [ieq, ilt, ile]
    obtain ⟨l26, hl26, hx21⟩ := bind_some hx21
    rw [Option.some.inj hl26]
    -- region 13
    obtain ⟨v27, hv27, hx21⟩ := bind_some hx21
    obtain ⟨hv27a, hv27b, hv27c, hv27d⟩ := idx_some hv27
    refine VW.ws tau_ok Sound.none [some 55, some 56, some 57, some 58, none] [(0, .val (i64 a0)), (5, .ref 5 [] false (dM (l26.set s3.2.2.toNat v24))), (6, .val (i64 s3.2.1)), (7, .val (i64 s3.2.2))] rfl ?_ ?_
    · simp [hv27a, hv27b, hv27c, hv27d] <;> simp [ieq, ilt, ile]
    -- region 14
    obtain ⟨hc28, hx21⟩ := chk_some hx21
    have hc28s := hc28
    try simp at hc28s
    refine VW.wr tau_ok Sound.none [some 59, some 60, some 61, some 62, some 63, some 6] [(0, .val (i64 a0)), (5, .ref 5 [] false (dM (l26.set s3.2.2.toNat v24))), (6, .val (i64 ((w64 (a0 - s3.2.1)).tmod a0))), (7, .val (i64 s3.2.2))] rfl ?_ ?_
    · simp [hc28, hc28s] <;> simp [ieq, ilt, ile]
    cases hx21
    exact Fits.of rfl
  refine VW.block ?_
  refine VW.loopF (s_l02Det_L1 s3) (fun s10 => [(0, .val (i64 a0)), (5, .ref 5 [] false (dM s3.1)), (6, .val (i64 s3.2.1)), (7, .val (i64 s3.2.2)), (8, .val (i64 s10))]) hx10 (Fits.of rfl) ?_
  clear hx10
  intro s10 ox10 hx10o hx10b
  unfold s_l02Det_L1 at hx10o
  refine VW.sqc fun K12 hK12 hCK12 => ?_
  -- region 6
  obtain ⟨x16, hx16, hx10o⟩ := bind_some hx10o
  refine VW.cut [(0, .val (i64 a0)), (5, .ref 5 [] false (dM s3.1)), (6, .val (i64 s3.2.1)), (7, .val (i64 s3.2.2)), (8, .val (i64 s10)), (34, .val (.bool x16))] ?_ fun hy => ?_
  rotate_left
  · clear hx10o
    by_cases hp13 : s10 < (s3.1.length : Int)
    · rw [if_pos hp13] at hx16
      have hp13b : ilt s10 (s3.1.length : Int) = true := by simpa [ieq, ilt, ile] using hp13
      have hp13s := hp13b
      try simp at hp13s
      obtain ⟨v14, hv14, hx16⟩ := bind_some hx16
      obtain ⟨hv14a, hv14b, hv14c, hv14d⟩ := idx_some hv14
      obtain ⟨v15, hv15, hx16⟩ := bind_some hx16
      obtain ⟨hv15a, hv15b, hv15c, hv15d⟩ := idx_some hv15
      cases hx16
      refine VW.ws tau_ok Sound.none [some 21, some 22, some 23, some 24, some 25, some 26, some 27, some 28, some 29, some 30, some 31, some 32, some 33, some 34] _ rfl ?_ hy
      simp [hp13b, hp13s, hv14a, hv14b, hv14c, hv14d, hv15a, hv15b, hv15c, hv15d] <;> simp [ieq, ilt, ile]
    · rw [if_neg hp13] at hx16
      have hp13b : ilt s10 (s3.1.length : Int) = false := by simpa [ieq, ilt, ile] using hp13
      have hp13s := hp13b
      try simp at hp13s
      cases hx16
      refine VW.ws tau_ok Sound.none [some 21, some 22, some 23, some 24, some 25, some 26, some 27, some 28, some 29, some 30, some 31, some 32, some 33, some 34] _ rfl ?_ hy
      simp [hp13b, hp13s] <;> simp [ieq, ilt, ile]
  refine VW.cond rfl (fun hb17 => ?_) (fun hb17 => ?_)
  rotate_left
  ·
    replace hb17 : ¬ (x16 = true) := by simpa [ieq, ilt, ile] using hb17
    rw [if_neg hb17] at hx10o
    refine VW.exit ?_
    cases hx10o
    have hq := hx10b _ rfl
    subst hq
    exact Fits.of rfl
  replace hb17 : x16 = true := by simpa [ieq, ilt, ile] using hb17
  rw [if_pos hb17] at hx10o
  refine VW.skip ?_
  refine hK12 _ ?_
  refine VW.block ?_
  -- region 7
  refine VW.wr tau_ok Sound.none [some 35, some 36, some 8] [(0, .val (i64 a0)), (5, .ref 5 [] false (dM s3.1)), (6, .val (i64 s3.2.1)), (7, .val (i64 s3.2.2)), (8, .val (i64 (w64 (s10 + 1))))] rfl ?_ ?_
  · simp <;> simp [ieq, ilt, ile]
  cases hx10o
  exact ⟨_, rfl, Fits.of rfl⟩

theorem s_Determinant_ok {a0 : Int} {a1 : List (List Int)} {r : Int × Int} (h : s_Determinant a0 a1 = some r) :
    VCall Try.prog 40 [i64 a0, dM a1] [.sc (i64 r.1), .sc (i64 r.2)] := by
  unfold s_Determinant at h
  refine VCall.enter Try.call40 Try.func40 rfl 16 Try.ntmps40 (by simp) [.tmp 4, .tmp 5] rfl ?_
  show VW _ _ _ (mk [(0, .val (i64 a0)), (1, .val (dM a1))]) _
  -- region 0
  refine VW.ws tau_ok Sound.none [some 4, some 5] [(0, .val (i64 a0)), (1, .val (dM a1))] rfl ?_ ?_
  · simp <;> simp [ieq, ilt, ile]
  -- region 1
  obtain ⟨v1, hv1, h⟩ := bind_some h
  refine VW.ws tau_ok (Sound.none.add 9 (s_l02Square_ok hv1) rfl) [some 7, some 8, some 9, some 6] [(0, .val (i64 a0)), (1, .val (dM a1)), (6, .val (i64 v1))] rfl ?_ ?_
  · simp <;> simp [ieq, ilt, ile]
  refine VW.sqc fun K2 hK2 hCK2 => ?_
  -- region 2
  refine VW.ws tau_ok Sound.none [some 10, some 11] [(0, .val (i64 a0)), (1, .val (dM a1)), (6, .val (i64 v1)), (11, .val (.bool (!(ieq v1 0))))] rfl ?_ ?_
  · simp <;> simp [ieq, ilt, ile]
  refine VW.cond rfl (fun hb3 => ?_) (fun hb3 => ?_)
  ·
    replace hb3 : ¬ v1 = 0 := by simpa [ieq, ilt, ile] using hb3
    rw [if_pos hb3] at h
    -- region 3
    refine VW.ws tau_ok Sound.none [some 12, some 4, some 5] [(4, .val (i64 0)), (5, .val (i64 v1))] rfl ?_ ?_
    · simp <;> simp [ieq, ilt, ile]
    cases h
    refine VW.ret ?_
    simp [Post, PostM, PostC, PostC2, Nx, Bk]
  replace hb3 : ¬ (¬ v1 = 0) := by simpa [ieq, ilt, ile] using hb3
  rw [if_neg hb3] at h
  refine VW.skip ?_
  refine hK2 _ ?_
  -- region 4
  obtain ⟨v4, hv4, h⟩ := bind_some h
  refine VW.ws tau_ok (Sound.none.add 15 (s_l02Det_ok hv4) rfl) [some 13, some 14, some 15, some 4, some 5] [(4, .val (i64 v4)), (5, .val (i64 0))] rfl ?_ ?_
  · simp <;> simp [ieq, ilt, ile]
  cases h
  refine VW.ret ?_
  simp [Post, PostM, PostC, PostC2, Nx, Bk]

theorem i_checkSquare_ok {a0 : Int} {a1 : List (List Int)} {r : Int} (h : i_checkSquare a0 a1 = some r) :
    VCall Try.prog 97 [i64 a0, dM a1] [.sc (i64 r)] := by
  unfold i_checkSquare at h
  refine VCall.enter Try.call97 Try.func97 rfl 20 Try.ntmps97 (by simp) [.tmp 4] rfl ?_
  show VW _ _ _ (mk [(0, .val (i64 a0)), (1, .val (dM a1))]) _
  -- region 0
  refine VW.ws tau_ok Sound.none [some 4] [(0, .val (i64 a0)), (1, .val (dM a1))] rfl ?_ ?_
  · simp <;> simp [ieq, ilt, ile]
  refine VW.sqc fun K1 hK1 hCK1 => ?_
  -- region 1
  obtain ⟨v2, hv2, h⟩ := bind_some h
  refine VW.ws tau_ok (Sound.none.add 9 (i_checkMatrices_ok hv2) rfl) [some 6, some 7, some 8, some 9, some 5] [(1, .val (dM a1)), (5, .val (i64 v2))] rfl ?_ ?_
  · simp <;> simp [ieq, ilt, ile]
  -- region 2
  refine VW.ws tau_ok Sound.none [some 10, some 11] [(1, .val (dM a1)), (5, .val (i64 v2)), (11, .val (.bool (!(ieq v2 0))))] rfl ?_ ?_
  · simp <;> simp [ieq, ilt, ile]
  refine VW.cond rfl (fun hb3 => ?_) (fun hb3 => ?_)
  ·
    replace hb3 : ¬ v2 = 0 := by simpa [ieq, ilt, ile] using hb3
    rw [if_pos hb3] at h
    -- region 3
    refine VW.ws tau_ok Sound.none [some 12, some 4] [(4, .val (i64 v2))] rfl ?_ ?_
    · simp <;> simp [ieq, ilt, ile]
    cases h
    refine VW.ret ?_
    simp [Post, PostM, PostC, PostC2, Nx, Bk]
  replace hb3 : ¬ (¬ v2 = 0) := by simpa [ieq, ilt, ile] using hb3
  rw [if_neg hb3] at h
  refine VW.skip ?_
  refine hK1 _ ?_
  refine VW.sqc fun K4 hK4 hCK4 => ?_
  -- region 4
  obtain ⟨v5, hv5, h⟩ := bind_some h
  obtain ⟨hv5a, hv5b, hv5c, hv5d⟩ := idx_some hv5
  replace hv5b : 0 < a1.length := hv5b
  replace hv5c : a1[0]? = some v5 := hv5c
  replace hv5d : ∀ h, a1[0]'h = v5 := hv5d
  refine VW.ws tau_ok Sound.none [some 13, some 14, some 15, some 16, some 17, some 18, some 19] [(19, .val (.bool (!(ieq (a1.length : Int) (v5.length : Int)))))] rfl ?_ ?_
  · simp [hv5a, hv5b, hv5c, hv5d] <;> simp [ieq, ilt, ile]
  refine VW.cond rfl (fun hb6 => ?_) (fun hb6 => ?_)
  ·
    replace hb6 : ¬ (a1.length : Int) = (v5.length : Int) := by simpa [ieq, ilt, ile] using hb6
    rw [if_pos hb6] at h
    -- region 5
    refine VW.ws tau_ok Sound.none [some 4] [(4, .val (i64 2))] rfl ?_ ?_
    · simp <;> simp [ieq, ilt, ile]
    cases h
    refine VW.ret ?_
    simp [Post, PostM, PostC, PostC2, Nx, Bk]
  replace hb6 : ¬ (¬ (a1.length : Int) = (v5.length : Int)) := by simpa [ieq, ilt, ile] using hb6
  rw [if_neg hb6] at h
  refine VW.skip ?_
  refine hK4 _ ?_
  -- region 6
  refine VW.ws tau_ok Sound.none [some 4] [(4, .val (i64 0))] rfl ?_ ?_
  · simp <;> simp [ieq, ilt, ile]
  cases h
  refine VW.ret ?_
  simp [Post, PostM, PostC, PostC2, Nx, Bk]

theorem i_field_determinant_ok {a0 : Int} {a1 : List (List Int)} {r : Int} (h : i_field_determinant a0 a1 = some r) :
    VCall Try.prog 98 [i64 a0, dM a1] [.sc (i64 r)] := by
  unfold i_field_determinant at h
  refine VCall.enter Try.call98 Try.func98 rfl 111 Try.ntmps98 (by simp) [.tmp 4] rfl ?_
  show VW _ _ _ (mk [(0, .val (i64 a0)), (1, .val (dM a1))]) _
  -- region 0
  refine VW.ws tau_ok Sound.none [some 4] [(0, .val (i64 a0)), (1, .val (dM a1))] rfl ?_ ?_
  · simp <;> simp [ieq, ilt, ile]
  -- region 1
  obtain ⟨v1, hv1, h⟩ := bind_some h
  refine VW.ws tau_ok (Sound.none.add 11 (i_cloneRows_ok hv1) rfl) [some 10, some 11, some 5, some 6] [(0, .val (i64 a0)), (5, .ref 5 [] true (dM v1)), (6, .val (i64 1))] rfl ?_ ?_
  · simp <;> simp [ieq, ilt, ile]
  refine VW.sqc fun K2 hK2 hCK2 => ?_
  -- region 2
  refine VW.ws tau_ok Sound.none [some 12, some 13, some 14] [(0, .val (i64 a0)), (5, .ref 5 [] true (dM v1)), (6, .val (i64 1)), (13, .val (i64 (v1.length : Int))), (14, .val (i64 0))] rfl ?_ ?_
  · simp <;> simp [ieq, ilt, ile]
  obtain ⟨x3, hx3, h⟩ := bind_some h
  refine VW.tlO (fun y5 => [(6, .val (i64 y5))]) x3 (hCK2) ?_ ?_
  · clear hx3
    rintro y5 rfl
    dsimp only at h
    refine hK2 _ ?_
    -- region 19
    refine VW.ws tau_ok Sound.none [some 110, some 4] [(4, .val (i64 y5))] rfl ?_ ?_
    · simp <;> simp [ieq, ilt, ile]
    cases h
    refine VW.ret ?_
    simp [Post, PostM, PostC, PostC2, Nx, Bk]
  refine VW.block ?_
  refine VW.loopF (i_field_determinant_L0 a0 v1) (fun s3 => [(0, .val (i64 a0)), (5, .ref 5 [] false (dM s3.1)), (6, .val (i64 s3.2.1)), (13, .val (i64 (v1.length : Int))), (14, .val (i64 s3.2.2))]) hx3 (Fits.weak (s := 5) rfl (by simp) (Fits.of rfl)) ?_
  clear hx3
  intro s3 ox3 hx3o hx3b
  unfold i_field_determinant_L0 at hx3o
  -- region 3
  refine VW.ws tau_ok Sound.none [some 15] [(0, .val (i64 a0)), (5, .ref 5 [] false (dM s3.1)), (6, .val (i64 s3.2.1)), (13, .val (i64 (v1.length : Int))), (14, .val (i64 s3.2.2)), (15, .val (.bool (ilt s3.2.2 (v1.length : Int))))] rfl ?_ ?_
  · simp <;> simp [ieq, ilt, ile]
  refine VW.sqc fun K6 hK6 hCK6 => ?_
  refine VW.cond rfl (fun hb7 => ?_) (fun hb7 => ?_)
  rotate_left
  ·
    replace hb7 : ¬ (s3.2.2 < (v1.length : Int)) := by simpa [ieq, ilt, ile] using hb7
    rw [if_neg hb7] at hx3o
    refine VW.exit ?_
    cases hx3o
    have hq := hx3b _ rfl
    subst hq
    exact ⟨_, rfl, Fits.of rfl⟩
  replace hb7 : s3.2.2 < (v1.length : Int) := by simpa [ieq, ilt, ile] using hb7
  rw [if_pos hb7] at hx3o
  refine VW.skip ?_
  refine hK6 _ ?_
  refine VW.sqc fun K8 hK8 hCK8 => ?_
  refine VW.block ?_
  -- region 4
  refine VW.ws tau_ok Sound.none [some 16, some 7] [(0, .val (i64 a0)), (5, .ref 5 [] false (dM s3.1)), (6, .val (i64 s3.2.1)), (7, .val (i64 s3.2.2)), (13, .val (i64 (v1.length : Int))), (14, .val (i64 s3.2.2))] rfl ?_ ?_
  · simp <;> simp [ieq, ilt, ile]
  -- region 5
  refine VW.ws tau_ok Sound.none [some 17, some 8] [(0, .val (i64 a0)), (5, .ref 5 [] false (dM s3.1)), (6, .val (i64 s3.2.1)), (7, .val (i64 s3.2.2)), (8, .val (i64 s3.2.2)), (13, .val (i64 (v1.length : Int))), (14, .val (i64 s3.2.2))] rfl ?_ ?_
  · simp <;> simp [ieq, ilt, ile]
  refine VW.sqc fun K9 hK9 hCK9 => ?_
  obtain ⟨x10, hx10, hx3o⟩ := bind_some hx3o
  refine VW.tlE [(0, .val (i64 a0)), (5, .ref 5 [] false (dM s3.1)), (6, .val (i64 s3.2.1)), (7, .val (i64 s3.2.2)), (8, .val (i64 x10)), (13, .val (i64 (v1.length : Int))), (14, .val (i64 s3.2.2))] (hCK9) ?_ ?_
  · clear hx10
    refine hK9 _ ?_
    refine VW.sqc fun K18 hK18 hCK18 => ?_
    -- region 8
    refine VW.ws tau_ok Sound.none [some 34, some 35, some 36, some 37] [(0, .val (i64 a0)), (5, .ref 5 [] false (dM s3.1)), (6, .val (i64 s3.2.1)), (7, .val (i64 s3.2.2)), (8, .val (i64 x10)), (13, .val (i64 (v1.length : Int))), (14, .val (i64 s3.2.2)), (37, .val (.bool (ieq x10 (s3.1.length : Int))))] rfl ?_ ?_
    · simp <;> simp [ieq, ilt, ile]
    refine VW.cond rfl (fun hb19 => ?_) (fun hb19 => ?_)
    ·
      replace hb19 : x10 = (s3.1.length : Int) := by simpa [ieq, ilt, ile] using hb19
      rw [if_pos hb19] at hx3o
      -- region 9
      refine VW.ws tau_ok Sound.none [some 4] [(4, .val (i64 0))] rfl ?_ ?_
      · simp <;> simp [ieq, ilt, ile]
      cases hx3o
      have hq := hx3b _ rfl
      subst hq
      dsimp only at h
      cases h
      refine VW.ret ?_
      simp [Post, PostM, PostC, PostC2, Nx, Bk]
    replace hb19 : ¬ (x10 = (s3.1.length : Int)) := by simpa [ieq, ilt, ile] using hb19
    rw [if_neg hb19] at hx3o
    refine VW.skip ?_
    refine hK18 _ ?_
    refine VW.sqc fun K20 hK20 hCK20 => ?_
    -- region 10
    refine VW.ws tau_ok Sound.none [some 38, some 39, some 40] [(0, .val (i64 a0)), (5, .ref 5 [] false (dM s3.1)), (6, .val (i64 s3.2.1)), (7, .val (i64 s3.2.2)), (8, .val (i64 x10)), (13, .val (i64 (v1.length : Int))), (14, .val (i64 s3.2.2)), (40, .val (.bool (!(ieq x10 s3.2.2))))] rfl ?_ ?_
    · simp <;> simp [ieq, ilt, ile]
    obtain ⟨x21, hx21, hx3o⟩ := bind_some hx3o
    refine VW.tlE [(0, .val (i64 a0)), (5, .ref 5 [] false (dM x21.1)), (6, .val (i64 x21.2)), (7, .val (i64 s3.2.2)), (13, .val (i64 (v1.length : Int))), (14, .val (i64 s3.2.2))] (hCK20) ?_ ?_
    · clear hx21
      refine hK20 _ ?_
      -- region 13
      obtain ⟨v28, hv28, hx3o⟩ := bind_some hx3o
      obtain ⟨hv28a, hv28b, hv28c, hv28d⟩ := idx_some hv28
      obtain ⟨v29, hv29, hx3o⟩ := bind_some hx3o
      obtain ⟨hv29a, hv29b, hv29c, hv29d⟩ := idx_some hv29
      obtain ⟨v30, hv30, hx3o⟩ := bind_some hx3o
      refine VW.ws tau_ok (Sound.none.add 69 (i_field_num_ok hv30) rfl) [some 59, some 60, some 61, some 62, some 63, some 64, some 65, some 66, some 67, some 68, some 69, some 6] [(0, .val (i64 a0)), (5, .ref 5 [] false (dM x21.1)), (6, .val (i64 v30)), (7, .val (i64 s3.2.2)), (13, .val (i64 (v1.length : Int))), (14, .val (i64 s3.2.2))] rfl ?_ ?_
      · simp [hv28a, hv28b, hv28c, hv28d, hv29a, hv29b, hv29c, hv29d] <;> simp [ieq, ilt, ile]
      -- region 14
      refine VW.ws tau_ok Sound.none [some 70, some 71, some 9] [(0, .val (i64 a0)), (5, .ref 5 [] false (dM x21.1)), (6, .val (i64 v30)), (7, .val (i64 s3.2.2)), (9, .val (i64 (w64 (s3.2.2 + 1)))), (13, .val (i64 (v1.length : Int))), (14, .val (i64 s3.2.2))] rfl ?_ ?_
      · simp <;> simp [ieq, ilt, ile]
      obtain ⟨x31, hx31, hx3o⟩ := bind_some hx3o
      refine VW.tlE [(0, .val (i64 a0)), (5, .ref 5 [] false (dM x31)), (6, .val (i64 v30)), (13, .val (i64 (v1.length : Int))), (14, .val (i64 s3.2.2))] (hCK8) ?_ ?_
      · clear hx31
        refine hK8 _ ?_
        -- region 18
        refine VW.wr tau_ok Sound.none [some 109, some 14] [(0, .val (i64 a0)), (5, .ref 5 [] false (dM x31)), (6, .val (i64 v30)), (13, .val (i64 (v1.length : Int))), (14, .val (i64 (w64 (s3.2.2 + 1))))] rfl ?_ ?_
        · simp <;> simp [ieq, ilt, ile]
        cases hx3o
        exact ⟨_, rfl, Fits.of rfl⟩
      refine VW.block ?_
      refine VW.loopF (i_field_determinant_L2 a0 s3) (fun s31 => [(0, .val (i64 a0)), (5, .ref 5 [] false (dM s31.1)), (6, .val (i64 v30)), (7, .val (i64 s3.2.2)), (9, .val (i64 s31.2)), (13, .val (i64 (v1.length : Int))), (14, .val (i64 s3.2.2))]) hx31 (Fits.of rfl) ?_
      clear hx31
      intro s31 ox31 hx31o hx31b
      unfold i_field_determinant_L2 at hx31o
      refine VW.sqc fun K33 hK33 hCK33 => ?_
      -- region 15
      refine VW.ws tau_ok Sound.none [some 72, some 73, some 74, some 75] [(0, .val (i64 a0)), (5, .ref 5 [] false (dM s31.1)), (6, .val (i64 v30)), (7, .val (i64 s3.2.2)), (9, .val (i64 s31.2)), (13, .val (i64 (v1.length : Int))), (14, .val (i64 s3.2.2)), (75, .val (.bool (ilt s31.2 (s31.1.length : Int))))] rfl ?_ ?_
      · simp <;> simp [ieq, ilt, ile]
      refine VW.cond rfl (fun hb34 => ?_) (fun hb34 => ?_)
      rotate_left
      ·
        replace hb34 : ¬ (s31.2 < (s31.1.length : Int)) := by simpa [ieq, ilt, ile] using hb34
        rw [if_neg hb34] at hx31o
        refine VW.exit ?_
        cases hx31o
        have hq := hx31b _ rfl
        subst hq
        exact Fits.of rfl
      replace hb34 : s31.2 < (s31.1.length : Int) := by simpa [ieq, ilt, ile] using hb34
      rw [if_pos hb34] at hx31o
      refine VW.skip ?_
      refine hK33 _ ?_
      refine VW.sqc fun K35 hK35 hCK35 => ?_
      refine VW.block ?_
      -- region 17
      obtain ⟨v36, hv36, hx31o⟩ := bind_some hx31o
      obtain ⟨hv36a, hv36b, hv36c, hv36d⟩ := idx_some hv36
      obtain ⟨v37, hv37, hx31o⟩ := bind_some hx31o
      obtain ⟨hv37a, hv37b, hv37c, hv37d⟩ := idx_some hv37
      obtain ⟨v38, hv38, hx31o⟩ := bind_some hx31o
      obtain ⟨hv38a, hv38b, hv38c, hv38d⟩ := idx_some hv38
      obtain ⟨v39, hv39, hx31o⟩ := bind_some hx31o
      obtain ⟨hv39a, hv39b, hv39c, hv39d⟩ := idx_some hv39
      obtain ⟨v40, hv40, hx31o⟩ := bind_some hx31o
      obtain ⟨v41, hv41, hx31o⟩ := bind_some hx31o
      refine VW.wdr tau_ok ((Sound.none.add 105 (i_field_inv_ok hv40) rfl).add 107 (i_field_plus_ok hv41) rfl) try_mixed [some 78, some 79, some 80, some 81, some 82, some 83, some 84, some 85, some 86, some 87, some 88, some 89, some 90, some 91, some 92, some 93, some 94, some 95, some 96, some 97, some 98, some 99, some 100, some 101, some 102, some 103, some 104, some 105, some 106, some 107, some 108, none] [(0, .val (i64 a0)), (5, .ref 5 [] false (dM (s31.1.set s31.2.toNat v41))), (6, .val (i64 v30)), (7, .val (i64 s3.2.2)), (9, .val (i64 s31.2)), (13, .val (i64 (v1.length : Int))), (14, .val (i64 s3.2.2))] 31 rfl (by kernel_rfl) (by rfl) ?_ ?_
      · simp [hv36a, hv36b, hv36c, hv36d, hv37a, hv37b, hv37c, hv37d, hv38a, hv38b, hv38c, hv38d, hv39a, hv39b, hv39c, hv39d] <;> simp [ieq, ilt, ile]
      refine hK35 _ ?_
      -- region 16
      refine VW.wr tau_ok Sound.none [some 76, some 77, some 9] [(0, .val (i64 a0)), (5, .ref 5 [] false (dM (s31.1.set s31.2.toNat v41))), (6, .val (i64 v30)), (7, .val (i64 s3.2.2)), (9, .val (i64 (w64 (s31.2 + 1)))), (13, .val (i64 (v1.length : Int))), (14, .val (i64 s3.2.2))] rfl ?_ ?_
      · simp <;> simp [ieq, ilt, ile]
      cases hx31o
      exact ⟨_, rfl, Fits.of rfl⟩
    refine VW.cond rfl (fun hb23 => ?_) (fun hb23 => ?_)
    rotate_left
    ·
      replace hb23 : ¬ (¬ x10 = s3.2.2) := by simpa [ieq, ilt, ile] using hb23
      rw [if_neg hb23] at hx21
      refine VW.skip ?_
      cases hx21
      exact Fits.of rfl
    replace hb23 : ¬ x10 = s3.2.2 := by simpa [ieq, ilt, ile] using hb23
    rw [if_pos hb23] at hx21
    -- region 11
    obtain ⟨v24, hv24, hx21⟩ := bind_some hx21
    obtain ⟨hv24a, hv24b, hv24c, hv24d⟩ := idx_some hv24
    obtain ⟨v25, hv25, hx21⟩ := bind_some hx21
    obtain ⟨hv25a, hv25b, hv25c, hv25d⟩ := idx_some hv25
    obtain ⟨v26, hv26, hx21⟩ := bind_some hx21
    obtain ⟨hv26a, hv26b, hv26c, hv26d⟩ := idx_some hv26
    have hv26s := hv26b
    try simp at hv26s
    refine VW.wds tau_ok Sound.none try_mixed [some 41, some 42, some 43, some 44, some 45, some 46, some 47, some 48, some 49, some 50, some 51, some 52, some 53, none, some 54, none] [(0, .val (i64 a0)), (5, .ref 5 [] false (dM ((s3.1.set s3.2.2.toNat v24).set x10.toNat v25))), (6, .val (i64 s3.2.1)), (7, .val (i64 s3.2.2)), (13, .val (i64 (v1.length : Int))), (14, .val (i64 s3.2.2))] 13 rfl (by kernel_rfl) (by rfl) ?_ ?_
    · simp [hv24a, hv24b, hv24c, hv24d, hv25a, hv25b, hv25c, hv25d, hv26a, hv26b, hv26c, hv26d, hv26s] <;> simp [ieq, ilt, ile]
    -- region 12
    obtain ⟨v27, hv27, hx21⟩ := bind_some hx21
    refine VW.wr tau_ok (Sound.none.add 58 (i_field_num_ok hv27) rfl) [some 55, some 56, some 57, some 58, some 6] [(0, .val (i64 a0)), (5, .ref 5 [] false (dM ((s3.1.set s3.2.2.toNat v24).set x10.toNat v25))), (6, .val (i64 v27)), (7, .val (i64 s3.2.2)), (13, .val (i64 (v1.length : Int))), (14, .val (i64 s3.2.2))] rfl ?_ ?_
    · simp <;> simp [ieq, ilt, ile]
    cases hx21
    exact Fits.of rfl
  refine VW.block ?_
  refine VW.loopF (i_field_determinant_L1 s3) (fun s10 => [(0, .val (i64 a0)), (5, .ref 5 [] false (dM s3.1)), (6, .val (i64 s3.2.1)), (7, .val (i64 s3.2.2)), (8, .val (i64 s10)), (13, .val (i64 (v1.length : Int))), (14, .val (i64 s3.2.2))]) hx10 (Fits.of rfl) ?_
  clear hx10
  intro s10 ox10 hx10o hx10b
  unfold i_field_determinant_L1 at hx10o
  refine VW.sqc fun K12 hK12 hCK12 => ?_
  -- region 6
  obtain ⟨x16, hx16, hx10o⟩ := bind_some hx10o
  refine VW.cut [(0, .val (i64 a0)), (5, .ref 5 [] false (dM s3.1)), (6, .val (i64 s3.2.1)), (7, .val (i64 s3.2.2)), (8, .val (i64 s10)), (13, .val (i64 (v1.length : Int))), (14, .val (i64 s3.2.2)), (31, .val (.bool x16))] ?_ fun hy => ?_
  rotate_left
  · clear hx10o
    by_cases hp13 : s10 < (s3.1.length : Int)
    · rw [if_pos hp13] at hx16
      have hp13b : ilt s10 (s3.1.length : Int) = true := by simpa [ieq, ilt, ile] using hp13
      have hp13s := hp13b
      try simp at hp13s
      obtain ⟨v14, hv14, hx16⟩ := bind_some hx16
      obtain ⟨hv14a, hv14b, hv14c, hv14d⟩ := idx_some hv14
      obtain ⟨v15, hv15, hx16⟩ := bind_some hx16
      obtain ⟨hv15a, hv15b, hv15c, hv15d⟩ := idx_some hv15
      cases hx16
      refine VW.ws tau_ok Sound.none [some 18, some 19, some 20, some 21, some 22, some 23, some 24, some 25, some 26, some 27, some 28, some 29, some 30, some 31] _ rfl ?_ hy
      simp [hp13b, hp13s, hv14a, hv14b, hv14c, hv14d, hv15a, hv15b, hv15c, hv15d] <;> simp [ieq, ilt, ile]
    · rw [if_neg hp13] at hx16
      have hp13b : ilt s10 (s3.1.length : Int) = false := by simpa [ieq, ilt, ile] using hp13
      have hp13s := hp13b
      try simp at hp13s
      cases hx16
      refine VW.ws tau_ok Sound.none [some 18, some 19, some 20, some 21, some 22, some 23, some 24, some 25, some 26, some 27, some 28, some 29, some 30, some 31] _ rfl ?_ hy
      simp [hp13b, hp13s] <;> simp [ieq, ilt, ile]
  refine VW.cond rfl (fun hb17 => ?_) (fun hb17 => ?_)
  rotate_left
  ·
    replace hb17 : ¬ (x16 = true) := by simpa [ieq, ilt, ile] using hb17
    rw [if_neg hb17] at hx10o
    refine VW.exit ?_
    cases hx10o
    have hq := hx10b _ rfl
    subst hq
    exact Fits.of rfl
  replace hb17 : x16 = true := by simpa [ieq, ilt, ile] using hb17
  rw [if_pos hb17] at hx10o
  refine VW.skip ?_
  refine hK12 _ ?_
  refine VW.block ?_
  -- region 7
  refine VW.wr tau_ok Sound.none [some 32, some 33, some 8] [(0, .val (i64 a0)), (5, .ref 5 [] false (dM s3.1)), (6, .val (i64 s3.2.1)), (7, .val (i64 s3.2.2)), (8, .val (i64 (w64 (s10 + 1)))), (13, .val (i64 (v1.length : Int))), (14, .val (i64 s3.2.2))] rfl ?_ ?_
  · simp <;> simp [ieq, ilt, ile]
  cases hx10o
  exact ⟨_, rfl, Fits.of rfl⟩

theorem i_Determinant_ok {a0 : Int} {a1 : List (List Int)} {r : Int × Int} (h : i_Determinant a0 a1 = some r) :
    VCall Try.prog 41 [i64 a0, dM a1] [.sc (i64 r.1), .sc (i64 r.2)] := by
  unfold i_Determinant at h
  refine VCall.enter Try.call41 Try.func41 rfl 16 Try.ntmps41 (by simp) [.tmp 4, .tmp 5] rfl ?_
  show VW _ _ _ (mk [(0, .val (i64 a0)), (1, .val (dM a1))]) _
  -- region 0
  refine VW.ws tau_ok Sound.none [some 4, some 5] [(0, .val (i64 a0)), (1, .val (dM a1))] rfl ?_ ?_
  · simp <;> simp [ieq, ilt, ile]
  refine VW.sqc fun K1 hK1 hCK1 => ?_
  -- region 1
  obtain ⟨v2, hv2, h⟩ := bind_some h
  refine VW.ws tau_ok (Sound.none.add 9 (i_checkSquare_ok hv2) rfl) [some 7, some 8, some 9, some 6] [(0, .val (i64 a0)), (1, .val (dM a1)), (6, .val (i64 v2))] rfl ?_ ?_
  · simp <;> simp [ieq, ilt, ile]
  -- region 2
  refine VW.ws tau_ok Sound.none [some 10, some 11] [(0, .val (i64 a0)), (1, .val (dM a1)), (6, .val (i64 v2)), (11, .val (.bool (!(ieq v2 0))))] rfl ?_ ?_
  · simp <;> simp [ieq, ilt, ile]
  refine VW.cond rfl (fun hb3 => ?_) (fun hb3 => ?_)
  ·
    replace hb3 : ¬ v2 = 0 := by simpa [ieq, ilt, ile] using hb3
    rw [if_pos hb3] at h
    -- region 3
    refine VW.ws tau_ok Sound.none [some 12, some 4, some 5] [(4, .val (i64 0)), (5, .val (i64 v2))] rfl ?_ ?_
    · simp <;> simp [ieq, ilt, ile]
    cases h
    refine VW.ret ?_
    simp [Post, PostM, PostC, PostC2, Nx, Bk]
  replace hb3 : ¬ (¬ v2 = 0) := by simpa [ieq, ilt, ile] using hb3
  rw [if_neg hb3] at h
  refine VW.skip ?_
  refine hK1 _ ?_
  -- region 4
  obtain ⟨v4, hv4, h⟩ := bind_some h
  refine VW.ws tau_ok (Sound.none.add 15 (i_field_determinant_ok hv4) rfl) [some 13, some 14, some 15, some 4, some 5] [(4, .val (i64 v4)), (5, .val (i64 0))] rfl ?_ ?_
  · simp <;> simp [ieq, ilt, ile]
  cases h
  refine VW.ret ?_
  simp [Post, PostM, PostC, PostC2, Nx, Bk]
end Go.Vam
