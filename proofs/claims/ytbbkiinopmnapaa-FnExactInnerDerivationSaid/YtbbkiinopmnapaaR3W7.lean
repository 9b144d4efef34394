import Derived.Test.YtbbkiinopmnapaaR3T
import Derived.Test.YtbbkiinopmnapaaFnD
import Derived.Test.YtbbkiinopmnapaaR3W1
import Derived.Test.YtbbkiinopmnapaaR3W2
import Derived.Test.YtbbkiinopmnapaaR3W3
import Derived.Test.YtbbkiinopmnapaaR3W6
namespace Go.Vam
open Go Go.RowKit Go.Proofs
set_option maxRecDepth 100000
set_option linter.unusedSimpArgs false
set_option linter.unusedVariables false

theorem s_l02Basis_ok {a0 : Int} {a1 : List (List Int)} {r : List (List Int)} (h : s_l02Basis a0 a1 = some r) :
    VCall Try.prog 181 [i64 a0, dM a1] [.own false (dM r)] := by
  unfold s_l02Basis at h
  refine VCall.enter Try.call181 Try.func181 rfl 106 Try.ntmps181 (by simp) [.tmp 4] rfl ?_
  show VW _ _ _ (mk [(0, .val (i64 a0)), (1, .val (dM a1))]) _
  -- region 0
  refine VW.ws tau_ok Sound.none [some 4] [(0, .val (i64 a0)), (1, .val (dM a1))] rfl ?_ ?_
  · simp <;> simp [ieq, ilt, ile]
  -- region 1
  obtain ⟨v1, hv1, h⟩ := bind_some h
  refine VW.ws tau_ok (Sound.none.add 12 (s_l01Own2_ok hv1) rfl) [some 11, some 12, some 5] [(0, .val (i64 a0)), (5, .ref 5 [] true (dM v1))] rfl ?_ ?_
  · simp <;> simp [ieq, ilt, ile]
  -- region 2
  refine VW.ws tau_ok Sound.none [some 6] [(0, .val (i64 a0)), (5, .ref 5 [] true (dM v1)), (6, .val (i64 0))] rfl ?_ ?_
  · simp <;> simp [ieq, ilt, ile]
  refine VW.sqc fun K2 hK2 hCK2 => ?_
  -- region 3
  refine VW.ws tau_ok Sound.none [some 7] [(0, .val (i64 a0)), (5, .ref 5 [] true (dM v1)), (6, .val (i64 0)), (7, .val (i64 0))] rfl ?_ ?_
  · simp <;> simp [ieq, ilt, ile]
  obtain ⟨x3, hx3, h⟩ := bind_some h
  refine VW.tlE [(5, .ref 5 [] false (dM x3.1)), (6, .val (i64 x3.2))] (hCK2) ?_ ?_
  · clear hx3
    refine hK2 _ ?_
    -- region 20
    obtain ⟨hc43, h⟩ := chk_some h
    have hc43s := hc43
    try simp at hc43s
    refine VW.ws tau_ok Sound.none [some 103, some 104, some 105, some 4] [(4, .ref 4 [] false (dM (x3.1.take x3.2.toNat)))] rfl ?_ ?_
    · simp [hc43, hc43s] <;> simp [ieq, ilt, ile]
    cases h
    refine VW.ret ?_
    simp [Post, PostM, PostC, PostC2, Nx, Bk]
  refine VW.block ?_
  refine VW.loopF (s_l02Basis_L0 a0) (fun s3 => [(0, .val (i64 a0)), (5, .ref 5 [] false (dM s3.1)), (6, .val (i64 s3.2.1)), (7, .val (i64 s3.2.2))]) hx3 (Fits.weak (s := 5) rfl (by simp) (Fits.of rfl)) ?_
  clear hx3
  intro s3 ox3 hx3o hx3b
  unfold s_l02Basis_L0 at hx3o
  refine VW.sqc fun K5 hK5 hCK5 => ?_
  -- region 4
  obtain ⟨x8, hx8, hx3o⟩ := bind_some hx3o
  refine VW.cut [(0, .val (i64 a0)), (5, .ref 5 [] false (dM s3.1)), (6, .val (i64 s3.2.1)), (7, .val (i64 s3.2.2)), (23, .val (.bool x8))] ?_ fun hy => ?_
  rotate_left
  · clear hx3o
    by_cases hp6 : 0 < (s3.1.length : Int)
    · rw [if_pos hp6] at hx8
      have hp6b : ilt 0 (s3.1.length : Int) = true := by simpa [ieq, ilt, ile] using hp6
      have hp6s := hp6b
      try simp at hp6s
      obtain ⟨v7, hv7, hx8⟩ := bind_some hx8
      obtain ⟨hv7a, hv7b, hv7c, hv7d⟩ := idx_some hv7
      replace hv7b : 0 < s3.1.length := hv7b
      replace hv7c : s3.1[0]? = some v7 := hv7c
      replace hv7d : ∀ h, s3.1[0]'h = v7 := hv7d
      cases hx8
      refine VW.ws tau_ok Sound.none [some 13, some 14, some 15, some 16, some 17, some 18, some 19, some 20, some 21, some 22, some 23] _ rfl ?_ hy
      simp [hp6b, hp6s, hv7a, hv7b, hv7c, hv7d] <;> simp [ieq, ilt, ile]
    · rw [if_neg hp6] at hx8
      have hp6b : ilt 0 (s3.1.length : Int) = false := by simpa [ieq, ilt, ile] using hp6
      have hp6s := hp6b
      try simp at hp6s
      cases hx8
      refine VW.ws tau_ok Sound.none [some 13, some 14, some 15, some 16, some 17, some 18, some 19, some 20, some 21, some 22, some 23] _ rfl ?_ hy
      simp [hp6b, hp6s] <;> simp [ieq, ilt, ile]
  refine VW.cond rfl (fun hb9 => ?_) (fun hb9 => ?_)
  rotate_left
  ·
    replace hb9 : ¬ (x8 = true) := by simpa [ieq, ilt, ile] using hb9
    rw [if_neg hb9] at hx3o
    refine VW.exit ?_
    cases hx3o
    have hq := hx3b _ rfl
    subst hq
    exact Fits.of rfl
  replace hb9 : x8 = true := by simpa [ieq, ilt, ile] using hb9
  rw [if_pos hb9] at hx3o
  refine VW.skip ?_
  refine hK5 _ ?_
  refine VW.sqc fun K10 hK10 hCK10 => ?_
  obtain ⟨x11, hx11, hx3o⟩ := bind_some hx3o
  refine VW.tlE [(0, .val (i64 a0)), (5, .ref 5 [] false (dM x11.1)), (6, .val (i64 x11.2)), (7, .val (i64 s3.2.2))] (hCK10) ?_ ?_
  · clear hx11
    refine hK10 _ ?_
    -- region 5
    refine VW.wr tau_ok Sound.none [some 24, some 25, some 7] [(0, .val (i64 a0)), (5, .ref 5 [] false (dM x11.1)), (6, .val (i64 x11.2)), (7, .val (i64 (w64 (s3.2.2 + 1))))] rfl ?_ ?_
    · simp <;> simp [ieq, ilt, ile]
    cases hx3o
    exact ⟨_, rfl, Fits.of rfl⟩
  refine VW.block ?_
  -- region 6
  refine VW.ws tau_ok Sound.none [some 26, some 8] [(0, .val (i64 a0)), (5, .ref 5 [] false (dM s3.1)), (6, .val (i64 s3.2.1)), (7, .val (i64 s3.2.2)), (8, .val (i64 s3.2.1))] rfl ?_ ?_
  · simp <;> simp [ieq, ilt, ile]
  refine VW.sqc fun K13 hK13 hCK13 => ?_
  obtain ⟨x14, hx14, hx11⟩ := bind_some hx11
  refine VW.tlE [(0, .val (i64 a0)), (5, .ref 5 [] false (dM s3.1)), (6, .val (i64 s3.2.1)), (7, .val (i64 s3.2.2)), (8, .val (i64 x14))] (hCK13) ?_ ?_
  · clear hx14
    refine hK13 _ ?_
    refine VW.sqc fun K22 hK22 hCK22 => ?_
    -- region 9
    refine VW.ws tau_ok Sound.none [some 43, some 44, some 45, some 46] [(0, .val (i64 a0)), (5, .ref 5 [] false (dM s3.1)), (6, .val (i64 s3.2.1)), (7, .val (i64 s3.2.2)), (8, .val (i64 x14)), (46, .val (.bool (ieq x14 (s3.1.length : Int))))] rfl ?_ ?_
    · simp <;> simp [ieq, ilt, ile]
    refine VW.cond rfl (fun hb23 => ?_) (fun hb23 => ?_)
    ·
      replace hb23 : x14 = (s3.1.length : Int) := by simpa [ieq, ilt, ile] using hb23
      rw [if_pos hb23] at hx11
      refine VW.exit ?_
      cases hx11
      exact Fits.of rfl
    replace hb23 : ¬ (x14 = (s3.1.length : Int)) := by simpa [ieq, ilt, ile] using hb23
    rw [if_neg hb23] at hx11
    refine VW.skip ?_
    refine hK22 _ ?_
    -- region 10
    obtain ⟨v24, hv24, hx11⟩ := bind_some hx11
    obtain ⟨hv24a, hv24b, hv24c, hv24d⟩ := idx_some hv24
    refine VW.ws tau_ok Sound.none [some 47, some 48, some 49, some 50, some 9] [(0, .val (i64 a0)), (5, .ref 5 [] false (dM s3.1)), (6, .val (i64 s3.2.1)), (7, .val (i64 s3.2.2)), (8, .val (i64 x14)), (9, .val (dI v24))] rfl ?_ ?_
    · simp [hv24a, hv24b, hv24c, hv24d] <;> simp [ieq, ilt, ile]
    -- region 11
    obtain ⟨v25, hv25, hx11⟩ := bind_some hx11
    obtain ⟨hv25a, hv25b, hv25c, hv25d⟩ := idx_some hv25
    refine VW.ws tau_ok Sound.none [some 51, some 52, some 53, some 54, some 55, some 56, some 57, none] [(0, .val (i64 a0)), (5, .ref 5 [] false (dM (s3.1.set x14.toNat v25))), (6, .val (i64 s3.2.1)), (7, .val (i64 s3.2.2)), (9, .val (dI v24))] rfl ?_ ?_
    · simp [hv25a, hv25b, hv25c, hv25d, hv24a, hv24b, hv24c, hv24d] <;> simp [ieq, ilt, ile]
    -- region 12
    obtain ⟨v26, hv26, hx11⟩ := bind_some hx11
    obtain ⟨hv26a, hv26b, hv26c, hv26d⟩ := idx_some hv26
    obtain ⟨v27, hv27, hx11⟩ := bind_some hx11
    obtain ⟨v28, hv28, hx11⟩ := bind_some hx11
    refine VW.ws tau_ok ((Sound.none.add 65 (s_l01Inv_ok hv27) rfl).add 66 (s_l02Scale_ok hv28) rfl) [some 58, some 59, some 60, some 61, some 62, some 63, some 64, some 65, some 66, some 9] [(0, .val (i64 a0)), (5, .ref 5 [] false (dM (s3.1.set x14.toNat v25))), (6, .val (i64 s3.2.1)), (7, .val (i64 s3.2.2)), (9, .ref 9 [] true (dI v28))] rfl ?_ ?_
    · simp [hv26a, hv26b, hv26c, hv26d] <;> simp [ieq, ilt, ile]
    refine VW.fits (fl' := [(0, .val (i64 a0)), (5, .ref 5 [] false (dM (s3.1.set x14.toNat v25))), (6, .val (i64 s3.2.1)), (7, .val (i64 s3.2.2)), (9, .val (dI v28))]) (Fits.freeze (s := 9) rfl (by simp) (Fits.of rfl)) ?_
    obtain ⟨l29, hl29, hx11⟩ := bind_some hx11
    rw [Option.some.inj hl29]
    -- region 13
    obtain ⟨v30, hv30, hx11⟩ := bind_some hx11
    obtain ⟨hv30a, hv30b, hv30c, hv30d⟩ := idx_some hv30
    refine VW.ws tau_ok Sound.none [some 67, some 68, some 69, some 70, none] [(0, .val (i64 a0)), (5, .ref 5 [] false (dM (l29.set s3.2.1.toNat v28))), (6, .val (i64 s3.2.1)), (7, .val (i64 s3.2.2)), (9, .val (dI v28))] rfl ?_ ?_
    · simp [hv30a, hv30b, hv30c, hv30d] <;> simp [ieq, ilt, ile]
    refine VW.sqc fun K31 hK31 hCK31 => ?_
    -- region 14
    refine VW.ws tau_ok Sound.none [some 10] [(0, .val (i64 a0)), (5, .ref 5 [] false (dM (l29.set s3.2.1.toNat v28))), (6, .val (i64 s3.2.1)), (7, .val (i64 s3.2.2)), (9, .val (dI v28)), (10, .val (i64 0))] rfl ?_ ?_
    · simp <;> simp [ieq, ilt, ile]
    obtain ⟨x32, hx32, hx11⟩ := bind_some hx11
    refine VW.tlE [(0, .val (i64 a0)), (5, .ref 5 [] false (dM x32)), (6, .val (i64 s3.2.1)), (7, .val (i64 s3.2.2))] (hCK31) ?_ ?_
    · clear hx32
      refine hK31 _ ?_
      -- region 19
      refine VW.wr tau_ok Sound.none [some 101, some 102, some 6] [(0, .val (i64 a0)), (5, .ref 5 [] false (dM x32)), (6, .val (i64 (w64 (s3.2.1 + 1)))), (7, .val (i64 s3.2.2))] rfl ?_ ?_
      · simp <;> simp [ieq, ilt, ile]
      cases hx11
      exact Fits.of rfl
    refine VW.block ?_
    refine VW.loopF (s_l02Basis_L2 a0 s3 v28) (fun s32 => [(0, .val (i64 a0)), (5, .ref 5 [] false (dM s32.1)), (6, .val (i64 s3.2.1)), (7, .val (i64 s3.2.2)), (9, .val (dI v28)), (10, .val (i64 s32.2))]) hx32 (Fits.of rfl) ?_
    clear hx32
    intro s32 ox32 hx32o hx32b
    unfold s_l02Basis_L2 at hx32o
    refine VW.sqc fun K34 hK34 hCK34 => ?_
    -- region 15
    refine VW.ws tau_ok Sound.none [some 71, some 72, some 73, some 74] [(0, .val (i64 a0)), (5, .ref 5 [] false (dM s32.1)), (6, .val (i64 s3.2.1)), (7, .val (i64 s3.2.2)), (9, .val (dI v28)), (10, .val (i64 s32.2)), (74, .val (.bool (ilt s32.2 (s32.1.length : Int))))] rfl ?_ ?_
    · simp <;> simp [ieq, ilt, ile]
    refine VW.cond rfl (fun hb35 => ?_) (fun hb35 => ?_)
    rotate_left
    ·
      replace hb35 : ¬ (s32.2 < (s32.1.length : Int)) := by simpa [ieq, ilt, ile] using hb35
      rw [if_neg hb35] at hx32o
      refine VW.exit ?_
      cases hx32o
      have hq := hx32b _ rfl
      subst hq
      exact Fits.of rfl
    replace hb35 : s32.2 < (s32.1.length : Int) := by simpa [ieq, ilt, ile] using hb35
    rw [if_pos hb35] at hx32o
    refine VW.skip ?_
    refine hK34 _ ?_
    obtain ⟨x36, hx36, hx32o⟩ := bind_some hx32o
    refine VW.sqE [(0, .val (i64 a0)), (5, .ref 5 [] false (dM x36)), (6, .val (i64 s3.2.1)), (7, .val (i64 s3.2.2)), (9, .val (dI v28)), (10, .val (i64 s32.2))] ?_ ?_
    · clear hx36
      -- region 16
      refine VW.wr tau_ok Sound.none [some 75, some 76, some 10] [(0, .val (i64 a0)), (5, .ref 5 [] false (dM x36)), (6, .val (i64 s3.2.1)), (7, .val (i64 s3.2.2)), (9, .val (dI v28)), (10, .val (i64 (w64 (s32.2 + 1))))] rfl ?_ ?_
      · simp <;> simp [ieq, ilt, ile]
      cases hx32o
      exact ⟨_, rfl, Fits.of rfl⟩
    refine VW.block ?_
    -- region 17
    refine VW.ws tau_ok Sound.none [some 77, some 78, some 79] [(0, .val (i64 a0)), (5, .ref 5 [] false (dM s32.1)), (6, .val (i64 s3.2.1)), (7, .val (i64 s3.2.2)), (9, .val (dI v28)), (10, .val (i64 s32.2)), (79, .val (.bool (!(ieq s32.2 s3.2.1))))] rfl ?_ ?_
    · simp <;> simp [ieq, ilt, ile]
    refine VW.cond rfl (fun hb38 => ?_) (fun hb38 => ?_)
    rotate_left
    ·
      replace hb38 : ¬ (¬ s32.2 = s3.2.1) := by simpa [ieq, ilt, ile] using hb38
      rw [if_neg hb38] at hx36
      refine VW.skip ?_
      cases hx36
      exact Fits.of rfl
    replace hb38 : ¬ s32.2 = s3.2.1 := by simpa [ieq, ilt, ile] using hb38
    rw [if_pos hb38] at hx36
    -- region 18
    obtain ⟨v39, hv39, hx36⟩ := bind_some hx36
    obtain ⟨hv39a, hv39b, hv39c, hv39d⟩ := idx_some hv39
    obtain ⟨v40, hv40, hx36⟩ := bind_some hx36
    obtain ⟨hv40a, hv40b, hv40c, hv40d⟩ := idx_some hv40
    obtain ⟨hc41, hx36⟩ := chk_some hx36
    have hc41s := hc41
    try simp at hc41s
    obtain ⟨v42, hv42, hx36⟩ := bind_some hx36
    refine VW.wdr tau_ok (Sound.none.add 99 (s_l02Plus_ok hv42) rfl) try_mixed [some 80, some 81, some 82, some 83, some 84, some 85, some 86, some 87, some 88, some 89, some 90, some 91, some 92, some 93, some 94, some 95, some 96, some 97, some 98, some 99, some 100, none] [(0, .val (i64 a0)), (5, .ref 5 [] false (dM (s32.1.set s32.2.toNat v42))), (6, .val (i64 s3.2.1)), (7, .val (i64 s3.2.2)), (9, .val (dI v28)), (10, .val (i64 s32.2))] 21 rfl (by kernel_rfl) (by rfl) ?_ ?_
    · simp [hv39a, hv39b, hv39c, hv39d, hv40a, hv40b, hv40c, hv40d, hc41, hc41s] <;> simp [ieq, ilt, ile]
    cases hx36
    exact Fits.of rfl
  refine VW.block ?_
  refine VW.loopF (s_l02Basis_L1 s3) (fun s14 => [(0, .val (i64 a0)), (5, .ref 5 [] false (dM s3.1)), (6, .val (i64 s3.2.1)), (7, .val (i64 s3.2.2)), (8, .val (i64 s14))]) hx14 (Fits.of rfl) ?_
  clear hx14
  intro s14 ox14 hx14o hx14b
  unfold s_l02Basis_L1 at hx14o
  refine VW.sqc fun K16 hK16 hCK16 => ?_
  -- region 7
  obtain ⟨x20, hx20, hx14o⟩ := bind_some hx14o
  refine VW.cut [(0, .val (i64 a0)), (5, .ref 5 [] false (dM s3.1)), (6, .val (i64 s3.2.1)), (7, .val (i64 s3.2.2)), (8, .val (i64 s14)), (40, .val (.bool x20))] ?_ fun hy => ?_
  rotate_left
  · clear hx14o
    by_cases hp17 : s14 < (s3.1.length : Int)
    · rw [if_pos hp17] at hx20
      have hp17b : ilt s14 (s3.1.length : Int) = true := by simpa [ieq, ilt, ile] using hp17
      have hp17s := hp17b
      try simp at hp17s
      obtain ⟨v18, hv18, hx20⟩ := bind_some hx20
      obtain ⟨hv18a, hv18b, hv18c, hv18d⟩ := idx_some hv18
      obtain ⟨v19, hv19, hx20⟩ := bind_some hx20
      obtain ⟨hv19a, hv19b, hv19c, hv19d⟩ := idx_some hv19
      cases hx20
      refine VW.ws tau_ok Sound.none [some 27, some 28, some 29, some 30, some 31, some 32, some 33, some 34, some 35, some 36, some 37, some 38, some 39, some 40] _ rfl ?_ hy
      simp [hp17b, hp17s, hv18a, hv18b, hv18c, hv18d, hv19a, hv19b, hv19c, hv19d] <;> simp [ieq, ilt, ile]
    · rw [if_neg hp17] at hx20
      have hp17b : ilt s14 (s3.1.length : Int) = false := by simpa [ieq, ilt, ile] using hp17
      have hp17s := hp17b
      try simp at hp17s
      cases hx20
      refine VW.ws tau_ok Sound.none [some 27, some 28, some 29, some 30, some 31, some 32, some 33, some 34, some 35, some 36, some 37, some 38, some 39, some 40] _ rfl ?_ hy
      simp [hp17b, hp17s] <;> simp [ieq, ilt, ile]
  refine VW.cond rfl (fun hb21 => ?_) (fun hb21 => ?_)
  rotate_left
  ·
    replace hb21 : ¬ (x20 = true) := by simpa [ieq, ilt, ile] using hb21
    rw [if_neg hb21] at hx14o
    refine VW.exit ?_
    cases hx14o
    have hq := hx14b _ rfl
    subst hq
    exact Fits.of rfl
  replace hb21 : x20 = true := by simpa [ieq, ilt, ile] using hb21
  rw [if_pos hb21] at hx14o
  refine VW.skip ?_
  refine hK16 _ ?_
  refine VW.block ?_
  -- region 8
  refine VW.wr tau_ok Sound.none [some 41, some 42, some 8] [(0, .val (i64 a0)), (5, .ref 5 [] false (dM s3.1)), (6, .val (i64 s3.2.1)), (7, .val (i64 s3.2.2)), (8, .val (i64 (w64 (s14 + 1))))] rfl ?_ ?_
  · simp <;> simp [ieq, ilt, ile]
  cases hx14o
  exact ⟨_, rfl, Fits.of rfl⟩

theorem s_l02First_ok {a0 : List Int} {r : Int} (h : s_l02First a0 = some r) :
    VCall Try.prog 182 [dI a0] [.sc (i64 r)] := by
  unfold s_l02First at h
  refine VCall.enter Try.call182 Try.func182 rfl 16 Try.ntmps182 (by simp) [.tmp 2] rfl ?_
  show VW _ _ _ (mk [(0, .val (dI a0))]) _
  -- region 0
  refine VW.ws tau_ok Sound.none [some 2] [(0, .val (dI a0))] rfl ?_ ?_
  · simp <;> simp [ieq, ilt, ile]
  refine VW.sqc fun K1 hK1 hCK1 => ?_
  -- region 1
  refine VW.ws tau_ok Sound.none [some 3] [(0, .val (dI a0)), (3, .val (i64 0))] rfl ?_ ?_
  · simp <;> simp [ieq, ilt, ile]
  obtain ⟨x2, hx2, h⟩ := bind_some h
  refine VW.tlO (fun y4 => []) x2 (hCK1) ?_ ?_
  · clear hx2
    rintro y4 rfl
    dsimp only at h
    refine hK1 _ ?_
    -- region 6
    refine VW.ws tau_ok Sound.none [some 2] [(2, .val (i64 (-1)))] rfl ?_ ?_
    · simp <;> simp [ieq, ilt, ile]
    cases h
    refine VW.ret ?_
    simp [Post, PostM, PostC, PostC2, Nx, Bk]
  refine VW.block ?_
  refine VW.loopF (s_l02First_L0 a0) (fun s2 => [(0, .val (dI a0)), (3, .val (i64 s2))]) hx2 (Fits.of rfl) ?_
  clear hx2
  intro s2 ox2 hx2o hx2b
  unfold s_l02First_L0 at hx2o
  refine VW.sqc fun K5 hK5 hCK5 => ?_
  -- region 2
  refine VW.ws tau_ok Sound.none [some 4, some 5, some 6, some 7] [(0, .val (dI a0)), (3, .val (i64 s2)), (7, .val (.bool (ilt s2 (a0.length : Int))))] rfl ?_ ?_
  · simp <;> simp [ieq, ilt, ile]
  refine VW.cond rfl (fun hb6 => ?_) (fun hb6 => ?_)
  rotate_left
  ·
    replace hb6 : ¬ (s2 < (a0.length : Int)) := by simpa [ieq, ilt, ile] using hb6
    rw [if_neg hb6] at hx2o
    refine VW.exit ?_
    cases hx2o
    have hq := hx2b _ rfl
    subst hq
    exact ⟨_, rfl, Fits.of rfl⟩
  replace hb6 : s2 < (a0.length : Int) := by simpa [ieq, ilt, ile] using hb6
  rw [if_pos hb6] at hx2o
  refine VW.skip ?_
  refine hK5 _ ?_
  refine VW.sqc fun K7 hK7 hCK7 => ?_
  refine VW.block ?_
  -- region 4
  obtain ⟨v8, hv8, hx2o⟩ := bind_some hx2o
  obtain ⟨hv8a, hv8b, hv8c, hv8d⟩ := idx_some hv8
  refine VW.ws tau_ok Sound.none [some 10, some 11, some 12, some 13, some 14] [(0, .val (dI a0)), (3, .val (i64 s2)), (14, .val (.bool (!(ieq v8 0))))] rfl ?_ ?_
  · simp [hv8a, hv8b, hv8c, hv8d] <;> simp [ieq, ilt, ile]
  refine VW.cond rfl (fun hb9 => ?_) (fun hb9 => ?_)
  rotate_left
  ·
    replace hb9 : ¬ (¬ v8 = 0) := by simpa [ieq, ilt, ile] using hb9
    rw [if_neg hb9] at hx2o
    refine VW.skip ?_
    refine hK7 _ ?_
    -- region 3
    refine VW.wr tau_ok Sound.none [some 8, some 9, some 3] [(0, .val (dI a0)), (3, .val (i64 (w64 (s2 + 1))))] rfl ?_ ?_
    · simp <;> simp [ieq, ilt, ile]
    cases hx2o
    exact ⟨_, rfl, Fits.of rfl⟩
  replace hb9 : ¬ v8 = 0 := by simpa [ieq, ilt, ile] using hb9
  rw [if_pos hb9] at hx2o
  -- region 5
  refine VW.ws tau_ok Sound.none [some 15, some 2] [(2, .val (i64 s2))] rfl ?_ ?_
  · simp <;> simp [ieq, ilt, ile]
  cases hx2o
  have hq := hx2b _ rfl
  subst hq
  dsimp only at h
  cases h
  refine VW.ret ?_
  simp [Post, PostM, PostC, PostC2, Nx, Bk]

theorem s_l02Solve_ok {a0 : Int} {a1 : List (List Int)} {a2 : List Int} {r : (List Int) × Bool} (h : s_l02Solve a0 a1 a2 = some r) :
    VCall Try.prog 113 [i64 a0, dM a1, dI a2] [.own true (dI r.1), .sc (.bool r.2)] := by
  unfold s_l02Solve at h
  refine VCall.enter Try.call113 Try.func113 rfl 69 Try.ntmps113 (by simp) [.tmp 6, .tmp 7] rfl ?_
  show VW _ _ _ (mk [(0, .val (i64 a0)), (1, .val (dM a1)), (2, .val (dI a2))]) _
  -- region 0
  refine VW.ws tau_ok Sound.none [some 6, some 7] [(0, .val (i64 a0)), (1, .val (dM a1)), (2, .val (dI a2))] rfl ?_ ?_
  · simp <;> simp [ieq, ilt, ile]
  -- region 1
  refine VW.ws tau_ok Sound.none [some 14, some 8] [(0, .val (i64 a0)), (1, .val (dM a1)), (2, .val (dI a2)), (8, .ref 8 [] true (dM []))] rfl ?_ ?_
  · simp <;> simp [ieq, ilt, ile]
  refine VW.sqc fun K1 hK1 hCK1 => ?_
  -- region 2
  refine VW.ws tau_ok Sound.none [some 9] [(0, .val (i64 a0)), (1, .val (dM a1)), (2, .val (dI a2)), (8, .ref 8 [] true (dM [])), (9, .val (i64 0))] rfl ?_ ?_
  · simp <;> simp [ieq, ilt, ile]
  obtain ⟨x2, hx2, h⟩ := bind_some h
  refine VW.tlE [(0, .val (i64 a0)), (1, .val (dM a1)), (8, .ref 8 [] true (dM x2))] (hCK1) ?_ ?_
  · clear hx2
    refine hK1 _ ?_
    -- region 6
    obtain ⟨v12, hv12, h⟩ := bind_some h
    refine VW.ws tau_ok (Sound.none.add 37 (s_l02Basis_ok hv12) rfl) [some 35, some 36, some 37, some 8] [(1, .val (dM a1)), (8, .ref 8 [] false (dM v12))] rfl ?_ ?_
    · simp <;> simp [ieq, ilt, ile]
    -- region 7
    obtain ⟨v13, hv13, h⟩ := bind_some h
    obtain ⟨hv13a, hv13b, hv13c, hv13d⟩ := idx_some hv13
    replace hv13b : 0 < a1.length := hv13b
    replace hv13c : a1[0]? = some v13 := hv13c
    replace hv13d : ∀ h, a1[0]'h = v13 := hv13d
    refine VW.ws tau_ok Sound.none [some 38, some 39, some 40, some 41, some 10] [(8, .ref 8 [] false (dM v12)), (10, .val (i64 (v13.length : Int)))] rfl ?_ ?_
    · simp [hv13a, hv13b, hv13c, hv13d] <;> simp [ieq, ilt, ile]
    -- region 8
    obtain ⟨hc14, h⟩ := chk_some h
    have hc14s := hc14
    try simp at hc14s
    refine VW.ws tau_ok Sound.none [some 42, some 43, some 11] [(8, .ref 8 [] false (dM v12)), (10, .val (i64 (v13.length : Int))), (11, .ref 11 [] true (dI (List.replicate (v13.length : Int).toNat 0)))] rfl ?_ ?_
    · simp [hc14, hc14s] <;> simp [ieq, ilt, ile]
    refine VW.sqc fun K15 hK15 hCK15 => ?_
    -- region 9
    refine VW.ws tau_ok Sound.none [some 12] [(8, .ref 8 [] false (dM v12)), (10, .val (i64 (v13.length : Int))), (11, .ref 11 [] true (dI (List.replicate (v13.length : Int).toNat 0))), (12, .val (i64 0))] rfl ?_ ?_
    · simp <;> simp [ieq, ilt, ile]
    obtain ⟨x16, hx16, h⟩ := bind_some h
    refine VW.tlO (fun y18 => [(11, .ref 11 [] true (dI y18))]) x16 (hCK15) ?_ ?_
    · clear hx16
      rintro y18 rfl
      dsimp only at h
      refine hK15 _ ?_
      -- region 16
      refine VW.ws tau_ok Sound.none [some 68, some 6, some 7] [(6, .ref 6 [] true (dI y18)), (7, .val (.bool true))] rfl ?_ ?_
      · simp <;> simp [ieq, ilt, ile]
      cases h
      refine VW.ret ?_
      simp [Post, PostM, PostC, PostC2, Nx, Bk]
    refine VW.block ?_
    refine VW.loopF (s_l02Solve_L1 v12 v13) (fun s16 => [(8, .ref 8 [] false (dM v12)), (10, .val (i64 (v13.length : Int))), (11, .ref 11 [] true (dI s16.1)), (12, .val (i64 s16.2))]) hx16 (Fits.of rfl) ?_
    clear hx16
    intro s16 ox16 hx16o hx16b
    unfold s_l02Solve_L1 at hx16o
    refine VW.sqc fun K19 hK19 hCK19 => ?_
    -- region 10
    refine VW.ws tau_ok Sound.none [some 44, some 45, some 46, some 47] [(8, .ref 8 [] false (dM v12)), (10, .val (i64 (v13.length : Int))), (11, .ref 11 [] true (dI s16.1)), (12, .val (i64 s16.2)), (47, .val (.bool (ilt s16.2 (v12.length : Int))))] rfl ?_ ?_
    · simp <;> simp [ieq, ilt, ile]
    refine VW.cond rfl (fun hb20 => ?_) (fun hb20 => ?_)
    rotate_left
    ·
      replace hb20 : ¬ (s16.2 < (v12.length : Int)) := by simpa [ieq, ilt, ile] using hb20
      rw [if_neg hb20] at hx16o
      refine VW.exit ?_
      cases hx16o
      have hq := hx16b _ rfl
      subst hq
      exact ⟨_, rfl, Fits.of rfl⟩
    replace hb20 : s16.2 < (v12.length : Int) := by simpa [ieq, ilt, ile] using hb20
    rw [if_pos hb20] at hx16o
    refine VW.skip ?_
    refine hK19 _ ?_
    refine VW.sqc fun K21 hK21 hCK21 => ?_
    refine VW.block ?_
    -- region 12
    obtain ⟨v22, hv22, hx16o⟩ := bind_some hx16o
    obtain ⟨hv22a, hv22b, hv22c, hv22d⟩ := idx_some hv22
    obtain ⟨v23, hv23, hx16o⟩ := bind_some hx16o
    refine VW.ws tau_ok (Sound.none.add 54 (s_l02First_ok hv23) rfl) [some 50, some 51, some 52, some 53, some 54, some 13] [(8, .ref 8 [] false (dM v12)), (10, .val (i64 (v13.length : Int))), (11, .ref 11 [] true (dI s16.1)), (12, .val (i64 s16.2)), (13, .val (i64 v23))] rfl ?_ ?_
    · simp [hv22a, hv22b, hv22c, hv22d] <;> simp [ieq, ilt, ile]
    refine VW.sqc fun K24 hK24 hCK24 => ?_
    -- region 13
    refine VW.ws tau_ok Sound.none [some 55, some 56, some 57] [(8, .ref 8 [] false (dM v12)), (10, .val (i64 (v13.length : Int))), (11, .ref 11 [] true (dI s16.1)), (12, .val (i64 s16.2)), (13, .val (i64 v23)), (57, .val (.bool (ieq v23 (v13.length : Int))))] rfl ?_ ?_
    · simp <;> simp [ieq, ilt, ile]
    refine VW.cond rfl (fun hb25 => ?_) (fun hb25 => ?_)
    ·
      replace hb25 : v23 = (v13.length : Int) := by simpa [ieq, ilt, ile] using hb25
      rw [if_pos hb25] at hx16o
      -- region 14
      refine VW.ws tau_ok Sound.none [some 6, some 7] [(6, .ref 6 [] true (.list [])), (7, .val (.bool false))] rfl ?_ ?_
      · simp <;> simp [ieq, ilt, ile]
      cases hx16o
      have hq := hx16b _ rfl
      subst hq
      dsimp only at h
      cases h
      refine VW.ret ?_
      simp [Post, PostM, PostC, PostC2, Nx, Bk]
    replace hb25 : ¬ (v23 = (v13.length : Int)) := by simpa [ieq, ilt, ile] using hb25
    rw [if_neg hb25] at hx16o
    refine VW.skip ?_
    refine hK24 _ ?_
    -- region 15
    obtain ⟨v26, hv26, hx16o⟩ := bind_some hx16o
    obtain ⟨hv26a, hv26b, hv26c, hv26d⟩ := idx_some hv26
    replace hv26b : v13.length < v22.length := hv26b
    replace hv26c : v22[v13.length]? = some v26 := hv26c
    replace hv26d : ∀ h, v22[v13.length]'h = v26 := hv26d
    obtain ⟨v27, hv27, hx16o⟩ := bind_some hx16o
    obtain ⟨hv27a, hv27b, hv27c, hv27d⟩ := idx_some hv27
    refine VW.wr tau_ok Sound.none [some 58, some 59, some 60, some 61, some 62, some 63, some 64, some 65, some 66, some 67, none] [(8, .ref 8 [] false (dM v12)), (10, .val (i64 (v13.length : Int))), (11, .ref 11 [] true (dI (s16.1.set v23.toNat v26))), (12, .val (i64 s16.2))] rfl ?_ ?_
    · simp [hv22a, hv22b, hv22c, hv22d, hv26a, hv26b, hv26c, hv26d, hv27a, hv27b, hv27c, hv27d] <;> simp [ieq, ilt, ile]
    refine hK21 _ ?_
    -- region 11
    refine VW.wr tau_ok Sound.none [some 48, some 49, some 12] [(8, .ref 8 [] false (dM v12)), (10, .val (i64 (v13.length : Int))), (11, .ref 11 [] true (dI (s16.1.set v23.toNat v26))), (12, .val (i64 (w64 (s16.2 + 1))))] rfl ?_ ?_
    · simp <;> simp [ieq, ilt, ile]
    cases hx16o
    exact ⟨_, rfl, Fits.of rfl⟩
  refine VW.block ?_
  refine VW.loopF (s_l02Solve_L0 a1 a2) (fun s2 => [(0, .val (i64 a0)), (1, .val (dM a1)), (2, .val (dI a2)), (8, .ref 8 [] true (dM s2.1)), (9, .val (i64 s2.2))]) hx2 (Fits.of rfl) ?_
  clear hx2
  intro s2 ox2 hx2o hx2b
  unfold s_l02Solve_L0 at hx2o
  refine VW.sqc fun K4 hK4 hCK4 => ?_
  -- region 3
  refine VW.ws tau_ok Sound.none [some 15, some 16, some 17, some 18] [(0, .val (i64 a0)), (1, .val (dM a1)), (2, .val (dI a2)), (8, .ref 8 [] true (dM s2.1)), (9, .val (i64 s2.2)), (18, .val (.bool (ilt s2.2 (a1.length : Int))))] rfl ?_ ?_
  · simp <;> simp [ieq, ilt, ile]
  refine VW.cond rfl (fun hb5 => ?_) (fun hb5 => ?_)
  rotate_left
  ·
    replace hb5 : ¬ (s2.2 < (a1.length : Int)) := by simpa [ieq, ilt, ile] using hb5
    rw [if_neg hb5] at hx2o
    refine VW.exit ?_
    cases hx2o
    have hq := hx2b _ rfl
    subst hq
    exact Fits.of rfl
  replace hb5 : s2.2 < (a1.length : Int) := by simpa [ieq, ilt, ile] using hb5
  rw [if_pos hb5] at hx2o
  refine VW.skip ?_
  refine hK4 _ ?_
  refine VW.sqc fun K6 hK6 hCK6 => ?_
  refine VW.block ?_
  -- region 5
  obtain ⟨v7, hv7, hx2o⟩ := bind_some hx2o
  obtain ⟨hv7a, hv7b, hv7c, hv7d⟩ := idx_some hv7
  obtain ⟨v8, hv8, hx2o⟩ := bind_some hx2o
  obtain ⟨v9, hv9, hx2o⟩ := bind_some hx2o
  obtain ⟨hv9a, hv9b, hv9c, hv9d⟩ := idx_some hv9
  obtain ⟨hc10, hx2o⟩ := chk_some hx2o
  have hc10s := hc10
  try simp at hc10s
  obtain ⟨hc11, hx2o⟩ := chk_some hx2o
  have hc11s := hc11
  try simp at hc11s
  refine VW.wdr tau_ok (Sound.none.add 26 (s_l01Own_ok hv8) rfl) try_mixed [some 21, some 22, some 23, some 24, some 25, some 26, some 27, some 28, some 29, some 30, some 31, some 32, some 33, some 34, some 8] [(0, .val (i64 a0)), (1, .val (dM a1)), (2, .val (dI a2)), (8, .ref 8 [] true (dM (s2.1 ++ [v8 ++ [v9]]))), (9, .val (i64 s2.2))] 11 rfl (by kernel_rfl) (by rfl) ?_ ?_
  · simp [hv7a, hv7b, hv7c, hv7d, hv9a, hv9b, hv9c, hv9d, hc10, hc10s, hc11, hc11s] <;> simp [ieq, ilt, ile]
  refine hK6 _ ?_
  -- region 4
  refine VW.wr tau_ok Sound.none [some 19, some 20, some 9] [(0, .val (i64 a0)), (1, .val (dM a1)), (2, .val (dI a2)), (8, .ref 8 [] true (dM (s2.1 ++ [v8 ++ [v9]]))), (9, .val (i64 (w64 (s2.2 + 1))))] rfl ?_ ?_
  · simp <;> simp [ieq, ilt, ile]
  cases hx2o
  exact ⟨_, rfl, Fits.of rfl⟩

theorem s_SolveMatrix_ok {a0 : Int} {a1 : List (List Int)} {a2 : List Int} {r : (List Int) × Int} (h : s_SolveMatrix a0 a1 a2 = some r) :
    VCall Try.prog 51 [i64 a0, dM a1, dI a2] [.own true (dI r.1), .sc (i64 r.2)] := by
  unfold s_SolveMatrix at h
  refine VCall.enter Try.call51 Try.func51 rfl 35 Try.ntmps51 (by simp) [.tmp 6, .tmp 7] rfl ?_
  show VW _ _ _ (mk [(0, .val (i64 a0)), (1, .val (dM a1)), (2, .val (dI a2))]) _
  -- region 0
  refine VW.ws tau_ok Sound.none [some 6, some 7] [(0, .val (i64 a0)), (1, .val (dM a1)), (2, .val (dI a2))] rfl ?_ ?_
  · simp <;> simp [ieq, ilt, ile]
  refine VW.sqc fun K1 hK1 hCK1 => ?_
  -- region 1
  obtain ⟨v2, hv2, h⟩ := bind_some h
  refine VW.ws tau_ok (Sound.none.add 12 (s_l02Is_ok hv2) rfl) [some 10, some 11, some 12, some 13] [(0, .val (i64 a0)), (1, .val (dM a1)), (2, .val (dI a2)), (13, .val (.bool (!v2)))] rfl ?_ ?_
  · simp <;> simp [ieq, ilt, ile]
  refine VW.cond rfl (fun hb3 => ?_) (fun hb3 => ?_)
  ·
    replace hb3 : v2 = false := by simpa [ieq, ilt, ile] using hb3
    rw [if_pos hb3] at h
    -- region 2
    refine VW.ws tau_ok Sound.none [some 6, some 7] [(6, .ref 6 [] true (.list [])), (7, .val (i64 1))] rfl ?_ ?_
    · simp <;> simp [ieq, ilt, ile]
    cases h
    refine VW.ret ?_
    simp [Post, PostM, PostC, PostC2, Nx, Bk]
  replace hb3 : ¬ (v2 = false) := by simpa [ieq, ilt, ile] using hb3
  rw [if_neg hb3] at h
  refine VW.skip ?_
  refine hK1 _ ?_
  refine VW.sqc fun K4 hK4 hCK4 => ?_
  -- region 3
  obtain ⟨x7, hx7, h⟩ := bind_some h
  refine VW.cut [(0, .val (i64 a0)), (1, .val (dM a1)), (2, .val (dI a2)), (24, .val (.bool x7))] ?_ fun hy => ?_
  rotate_left
  · clear h
    by_cases hp5 : ¬ (a2.length : Int) = (a1.length : Int)
    · rw [if_pos hp5] at hx7
      have hp5b : ieq (a2.length : Int) (a1.length : Int) = false := by simpa [ieq, ilt, ile] using hp5
      have hp5s := hp5b
      try simp at hp5s
      cases hx7
      refine VW.ws tau_ok Sound.none [some 14, some 15, some 16, some 17, some 18, some 19, some 20, some 21, some 22, some 23, some 24] _ rfl ?_ hy
      simp [hp5b, hp5s] <;> simp [ieq, ilt, ile]
    · rw [if_neg hp5] at hx7
      have hp5b : ieq (a2.length : Int) (a1.length : Int) = true := by simpa [ieq, ilt, ile] using hp5
      have hp5s := hp5b
      try simp at hp5s
      obtain ⟨v6, hv6, hx7⟩ := bind_some hx7
      cases hx7
      refine VW.ws tau_ok (Sound.none.add 22 (s_l01Numbers_ok hv6) rfl) [some 14, some 15, some 16, some 17, some 18, some 19, some 20, some 21, some 22, some 23, some 24] _ rfl ?_ hy
      simp [hp5b, hp5s] <;> simp [ieq, ilt, ile]
  refine VW.cond rfl (fun hb8 => ?_) (fun hb8 => ?_)
  ·
    replace hb8 : x7 = true := by simpa [ieq, ilt, ile] using hb8
    rw [if_pos hb8] at h
    -- region 4
    refine VW.ws tau_ok Sound.none [some 6, some 7] [(6, .ref 6 [] true (.list [])), (7, .val (i64 2))] rfl ?_ ?_
    · simp <;> simp [ieq, ilt, ile]
    cases h
    refine VW.ret ?_
    simp [Post, PostM, PostC, PostC2, Nx, Bk]
  replace hb8 : ¬ (x7 = true) := by simpa [ieq, ilt, ile] using hb8
  rw [if_neg hb8] at h
  refine VW.skip ?_
  refine hK4 _ ?_
  -- region 5
  obtain ⟨v9, hv9, h⟩ := bind_some h
  refine VW.ws tau_ok (Sound.none.add 29 (s_l02Solve_ok hv9) rfl) [some 26, some 27, some 28, some 29, some 25, some 30, some 31, some 8, some 9] [(8, .ref 8 [] true (dI v9.1)), (9, .val (.bool v9.2))] rfl ?_ ?_
  · simp <;> simp [ieq, ilt, ile]
  refine VW.sqc fun K10 hK10 hCK10 => ?_
  -- region 6
  refine VW.ws tau_ok Sound.none [some 32, some 33] [(8, .ref 8 [] true (dI v9.1)), (33, .val (.bool (!v9.2)))] rfl ?_ ?_
  · simp <;> simp [ieq, ilt, ile]
  refine VW.cond rfl (fun hb11 => ?_) (fun hb11 => ?_)
  ·
    replace hb11 : v9.2 = false := by simpa [ieq, ilt, ile] using hb11
    rw [if_pos hb11] at h
    -- region 7
    refine VW.ws tau_ok Sound.none [some 6, some 7] [(6, .ref 6 [] true (.list [])), (7, .val (i64 4))] rfl ?_ ?_
    · simp <;> simp [ieq, ilt, ile]
    cases h
    refine VW.ret ?_
    simp [Post, PostM, PostC, PostC2, Nx, Bk]
  replace hb11 : ¬ (v9.2 = false) := by simpa [ieq, ilt, ile] using hb11
  rw [if_neg hb11] at h
  refine VW.skip ?_
  refine hK10 _ ?_
  -- region 8
  refine VW.ws tau_ok Sound.none [some 34, some 6, some 7] [(6, .ref 6 [] true (dI v9.1)), (7, .val (i64 0))] rfl ?_ ?_
  · simp <;> simp [ieq, ilt, ile]
  cases h
  refine VW.ret ?_
  simp [Post, PostM, PostC, PostC2, Nx, Bk]

theorem i_checkMatrices_c1_ok {a0 : List (List Int)} {a1_0 : Int} {r : Bool} (h : i_checkMatrices_c1 a0 a1_0 = some r) :
    VCall Try.prog 184 [dM a0, .ptr [i64 a1_0]] [.sc (.bool r)] := by
  unfold i_checkMatrices_c1 at h
  refine VCall.enter Try.call184 Try.func184 rfl 8 Try.ntmps184 (by simp) [.tmp 3] rfl ?_
  show VW _ _ _ (mk [(0, .val (dM a0)), (1, .val (.ptr [i64 a1_0]))]) _
  -- region 0
  refine VW.ws tau_ok Sound.none [some 3] [(0, .val (dM a0)), (1, .val (.ptr [i64 a1_0]))] rfl ?_ ?_
  · simp <;> simp [ieq, ilt, ile]
  -- region 1
  obtain ⟨v1, hv1, h⟩ := bind_some h
  refine VW.ws tau_ok (Sound.none.add 6 (i_field_isMatrix_ok hv1) rfl) [some 4, some 5, some 6, some 7, some 3] [(3, .val (.bool (!v1)))] rfl ?_ ?_
  · simp <;> simp [ieq, ilt, ile]
  cases h
  refine VW.ret ?_
  simp [Post, PostM, PostC, PostC2, Nx, Bk]

theorem g_slices_IndexFunc_LLLI_LLI_of_i_checkMatrices_c1_ok {a0 : List (List (List Int))} {a1_0_0 : Int} {r : Int} (h : g_slices_IndexFunc_LLLI_LLI_of_i_checkMatrices_c1 a0 a1_0_0 = some r) :
    VCall Try.prog 218 [dC a0, .fn 184 [.ptr [i64 a1_0_0]]] [.sc (i64 r)] := by
  unfold g_slices_IndexFunc_LLLI_LLI_of_i_checkMatrices_c1 at h
  refine VCall.enter Try.call218 Try.func218 rfl 19 Try.ntmps218 (by simp) [.tmp 4] rfl ?_
  show VW _ _ _ (mk [(0, .val (dC a0)), (1, .val (.fn 184 [.ptr [i64 a1_0_0]]))]) _
  -- region 0
  refine VW.ws tau_ok Sound.none [some 4] [(0, .val (dC a0)), (1, .val (.fn 184 [.ptr [i64 a1_0_0]]))] rfl ?_ ?_
  · simp <;> simp [ieq, ilt, ile]
  refine VW.sqc fun K1 hK1 hCK1 => ?_
  -- region 1
  refine VW.ws tau_ok Sound.none [some 6, some 7, some 8] [(0, .val (dC a0)), (1, .val (.fn 184 [.ptr [i64 a1_0_0]])), (7, .val (i64 (a0.length : Int))), (8, .val (i64 0))] rfl ?_ ?_
  · simp <;> simp [ieq, ilt, ile]
  obtain ⟨x2, hx2, h⟩ := bind_some h
  refine VW.tlO (fun y4 => []) x2 (hCK1) ?_ ?_
  · clear hx2
    rintro y4 rfl
    dsimp only at h
    refine hK1 _ ?_
    -- region 7
    refine VW.ws tau_ok Sound.none [some 4] [(4, .val (i64 (-1)))] rfl ?_ ?_
    · simp <;> simp [ieq, ilt, ile]
    cases h
    refine VW.ret ?_
    simp [Post, PostM, PostC, PostC2, Nx, Bk]
  refine VW.block ?_
  refine VW.loopF (g_slices_IndexFunc_LLLI_LLI_of_i_checkMatrices_c1_L0 a0 a1_0_0) (fun s2 => [(0, .val (dC a0)), (1, .val (.fn 184 [.ptr [i64 a1_0_0]])), (7, .val (i64 (a0.length : Int))), (8, .val (i64 s2))]) hx2 (Fits.of rfl) ?_
  clear hx2
  intro s2 ox2 hx2o hx2b
  unfold g_slices_IndexFunc_LLLI_LLI_of_i_checkMatrices_c1_L0 at hx2o
  -- region 2
  refine VW.ws tau_ok Sound.none [some 9] [(0, .val (dC a0)), (1, .val (.fn 184 [.ptr [i64 a1_0_0]])), (7, .val (i64 (a0.length : Int))), (8, .val (i64 s2)), (9, .val (.bool (ilt s2 (a0.length : Int))))] rfl ?_ ?_
  · simp <;> simp [ieq, ilt, ile]
  refine VW.sqc fun K5 hK5 hCK5 => ?_
  refine VW.cond rfl (fun hb6 => ?_) (fun hb6 => ?_)
  rotate_left
  ·
    replace hb6 : ¬ (s2 < (a0.length : Int)) := by simpa [ieq, ilt, ile] using hb6
    rw [if_neg hb6] at hx2o
    refine VW.exit ?_
    cases hx2o
    have hq := hx2b _ rfl
    subst hq
    exact ⟨_, rfl, Fits.of rfl⟩
  replace hb6 : s2 < (a0.length : Int) := by simpa [ieq, ilt, ile] using hb6
  rw [if_pos hb6] at hx2o
  refine VW.skip ?_
  refine hK5 _ ?_
  refine VW.sqc fun K7 hK7 hCK7 => ?_
  refine VW.block ?_
  -- region 3
  refine VW.ws tau_ok Sound.none [some 10, some 5] [(0, .val (dC a0)), (1, .val (.fn 184 [.ptr [i64 a1_0_0]])), (5, .val (i64 s2)), (7, .val (i64 (a0.length : Int))), (8, .val (i64 s2))] rfl ?_ ?_
  · simp <;> simp [ieq, ilt, ile]
  -- region 4
  obtain ⟨v8, hv8, hx2o⟩ := bind_some hx2o
  obtain ⟨hv8a, hv8b, hv8c, hv8d⟩ := idx_some hv8
  obtain ⟨v9, hv9, hx2o⟩ := bind_some hx2o
  refine VW.ws tau_ok (Sound.none.add 16 (i_checkMatrices_c1_ok hv9) rfl) [some 11, some 12, some 13, some 14, some 15, some 16] [(0, .val (dC a0)), (1, .val (.fn 184 [.ptr [i64 a1_0_0]])), (5, .val (i64 s2)), (7, .val (i64 (a0.length : Int))), (8, .val (i64 s2)), (16, .val (.bool v9))] rfl ?_ ?_
  · simp [hv8a, hv8b, hv8c, hv8d] <;> simp [ieq, ilt, ile]
  refine VW.cond rfl (fun hb10 => ?_) (fun hb10 => ?_)
  rotate_left
  ·
    replace hb10 : ¬ (v9 = true) := by simpa [ieq, ilt, ile] using hb10
    rw [if_neg hb10] at hx2o
    refine VW.skip ?_
    refine hK7 _ ?_
    -- region 6
    refine VW.wr tau_ok Sound.none [some 18, some 8] [(0, .val (dC a0)), (1, .val (.fn 184 [.ptr [i64 a1_0_0]])), (7, .val (i64 (a0.length : Int))), (8, .val (i64 (w64 (s2 + 1))))] rfl ?_ ?_
    · simp <;> simp [ieq, ilt, ile]
    cases hx2o
    exact ⟨_, rfl, Fits.of rfl⟩
  replace hb10 : v9 = true := by simpa [ieq, ilt, ile] using hb10
  rw [if_pos hb10] at hx2o
  -- region 5
  refine VW.ws tau_ok Sound.none [some 17, some 4] [(4, .val (i64 s2))] rfl ?_ ?_
  · simp <;> simp [ieq, ilt, ile]
  cases hx2o
  have hq := hx2b _ rfl
  subst hq
  dsimp only at h
  cases h
  refine VW.ret ?_
  simp [Post, PostM, PostC, PostC2, Nx, Bk]

theorem g_slices_ContainsFunc_LLLI_LLI_of_i_checkMatrices_c1_ok {a0 : List (List (List Int))} {a1_0_0 : Int} {r : Bool} (h : g_slices_ContainsFunc_LLLI_LLI_of_i_checkMatrices_c1 a0 a1_0_0 = some r) :
    VCall Try.prog 161 [dC a0, .fn 184 [.ptr [i64 a1_0_0]]] [.sc (.bool r)] := by
  unfold g_slices_ContainsFunc_LLLI_LLI_of_i_checkMatrices_c1 at h
  refine VCall.enter Try.call161 Try.func161 rfl 9 Try.ntmps161 (by simp) [.tmp 4] rfl ?_
  show VW _ _ _ (mk [(0, .val (dC a0)), (1, .val (.fn 184 [.ptr [i64 a1_0_0]]))]) _
  -- region 0
  refine VW.ws tau_ok Sound.none [some 4] [(0, .val (dC a0)), (1, .val (.fn 184 [.ptr [i64 a1_0_0]]))] rfl ?_ ?_
  · simp <;> simp [ieq, ilt, ile]
  -- region 1
  obtain ⟨v1, hv1, h⟩ := bind_some h
  refine VW.ws tau_ok (Sound.none.add 7 (g_slices_IndexFunc_LLLI_LLI_of_i_checkMatrices_c1_ok hv1) rfl) [some 5, some 6, some 7, some 8, some 4] [(4, .val (.bool (ile 0 v1)))] rfl ?_ ?_
  · simp <;> simp [ieq, ilt, ile]
  cases h
  refine VW.ret ?_
  simp [Post, PostM, PostC, PostC2, Nx, Bk]

theorem i_checkMatrices_ok {a0 : Int} {a1 : List (List (List Int))} {r : Int} (h : i_checkMatrices a0 a1 = some r) :
    VCall Try.prog 114 [i64 a0, dC a1] [.sc (i64 r)] := by
  unfold i_checkMatrices at h
  refine VCall.enter Try.call114 Try.func114 rfl 13 Try.ntmps114 (by simp) [.tmp 4] rfl ?_
  show VW _ _ _ (mk [(0, .val (i64 a0)), (1, .val (dC a1))]) _
  -- region 0
  refine VW.ws tau_ok Sound.none [some 2, some 4] [(1, .val (dC a1)), (2, .val (.ptr [i64 a0]))] rfl ?_ ?_
  · simp <;> simp [ieq, ilt, ile]
  refine VW.sqc fun K1 hK1 hCK1 => ?_
  -- region 1
  obtain ⟨x5, hx5, h⟩ := bind_some h
  refine VW.cut [(12, .val (.bool x5))] ?_ fun hy => ?_
  rotate_left
  · clear h
    obtain ⟨v2, hv2, hx5⟩ := bind_some hx5
    by_cases hp3 : v2 = false
    · rw [if_pos hp3] at hx5
      have hp3b : v2 = false := by simpa [ieq, ilt, ile] using hp3
      have hp3s := hp3b
      try simp at hp3s
      cases hx5
      refine VW.ws tau_ok (Sound.none.add 6 (i_IsPrime_ok hv2) rfl) [some 5, some 6, some 7, some 8, some 9, some 10, some 11, some 12] _ rfl ?_ hy
      simp [hp3b, hp3s] <;> simp [ieq, ilt, ile]
    · rw [if_neg hp3] at hx5
      have hp3b : v2 = true := by simpa [ieq, ilt, ile] using hp3
      have hp3s := hp3b
      try simp at hp3s
      obtain ⟨v4, hv4, hx5⟩ := bind_some hx5
      cases hx5
      refine VW.ws tau_ok ((Sound.none.add 6 (i_IsPrime_ok hv2) rfl).add 11 (g_slices_ContainsFunc_LLLI_LLI_of_i_checkMatrices_c1_ok hv4) rfl) [some 5, some 6, some 7, some 8, some 9, some 10, some 11, some 12] _ rfl ?_ hy
      simp [hp3b, hp3s] <;> simp [ieq, ilt, ile]
  refine VW.cond rfl (fun hb6 => ?_) (fun hb6 => ?_)
  ·
    replace hb6 : x5 = true := by simpa [ieq, ilt, ile] using hb6
    rw [if_pos hb6] at h
    -- region 2
    refine VW.ws tau_ok Sound.none [some 4] [(4, .val (i64 1))] rfl ?_ ?_
    · simp <;> simp [ieq, ilt, ile]
    cases h
    refine VW.ret ?_
    simp [Post, PostM, PostC, PostC2, Nx, Bk]
  replace hb6 : ¬ (x5 = true) := by simpa [ieq, ilt, ile] using hb6
  rw [if_neg hb6] at h
  refine VW.skip ?_
  refine hK1 _ ?_
  -- region 3
  refine VW.ws tau_ok Sound.none [some 4] [(4, .val (i64 0))] rfl ?_ ?_
  · simp <;> simp [ieq, ilt, ile]
  cases h
  refine VW.ret ?_
  simp [Post, PostM, PostC, PostC2, Nx, Bk]
end Go.Vam
