import Derived.Test.YtijmfifejmgeaaaR9T
import Derived.Test.YtijmfifejmgeaaaFmG0
import Derived.Test.YtijmfifejmgeaaaR9EW1
import Derived.Test.YtijmfifejmgeaaaR9EW2
namespace Go.Vam
open Go Go.RowKit Go.Proofs
set_option maxRecDepth 100000
set_option linter.unusedSimpArgs false
set_option linter.unusedVariables false

theorem s_l12Put_ok {a0 : Int} {a1 : List (List Int)} {a2 : List Int} {r : List (List Int)} (h : s_l12Put a0 a1 a2 = some r) :
    VCall Try.prog 228 [i64 a0, dM a1, dI a2] [.shr (dM r)] := by
  unfold s_l12Put at h
  refine VCall.enter Try.call228 Try.func228 rfl 80 Try.ntmps228 (by simp) [.tmp 6] rfl ?_
  show VW _ _ _ (mk [(0, .val (i64 a0)), (1, .val (dM a1)), (2, .val (dI a2))]) _
  refine VW.ws tau_ok Sound.none [some 6] [(0, .val (i64 a0)), (1, .val (dM a1)), (2, .val (dI a2))] rfl ?_ ?_
  · simp <;> simp [ieq, ilt, ile]
  obtain ⟨v1, hv1, h⟩ := bind_some h
  refine VW.ws tau_ok (Sound.none.add 15 (s_l12Rest_ok hv1) rfl) [some 12, some 13, some 14, some 15, some 7] [(0, .val (i64 a0)), (1, .val (dM a1)), (7, .ref 7 [] true (dI v1))] rfl ?_ ?_
  · simp <;> simp [ieq, ilt, ile]
  obtain ⟨v2, hv2, h⟩ := bind_some h
  refine VW.ws tau_ok (Sound.none.add 17 (s_l12First_ok hv2) rfl) [some 16, some 17, some 8] [(0, .val (i64 a0)), (1, .val (dM a1)), (7, .ref 7 [] true (dI v1)), (8, .val (i64 v2))] rfl ?_ ?_
  · simp <;> simp [ieq, ilt, ile]
  refine VW.sqc fun K3 hK3 hCK3 => ?_
  refine VW.ws tau_ok Sound.none [some 18, some 19, some 20, some 21] [(0, .val (i64 a0)), (1, .val (dM a1)), (7, .ref 7 [] true (dI v1)), (8, .val (i64 v2)), (21, .val (.bool (ieq v2 (v1.length : Int))))] rfl ?_ ?_
  · simp <;> simp [ieq, ilt, ile]
  refine VW.cond rfl (fun hb4 => ?_) (fun hb4 => ?_)
  ·
    replace hb4 : v2 = (v1.length : Int) := by simpa [ieq, ilt, ile] using hb4
    rw [if_pos hb4] at h
    refine VW.ws tau_ok Sound.none [some 22, some 6] [(6, .val (dM a1))] rfl ?_ ?_
    · simp <;> simp [ieq, ilt, ile]
    cases h
    refine VW.ret ?_
    simp [Post, PostM, PostC, PostC2, Nx, Bk]
  replace hb4 : ¬ (v2 = (v1.length : Int)) := by simpa [ieq, ilt, ile] using hb4
  rw [if_neg hb4] at h
  refine VW.skip ?_
  refine hK3 _ ?_
  obtain ⟨v5, hv5, h⟩ := bind_some h
  obtain ⟨hv5a, hv5b, hv5c, hv5d⟩ := idx_some hv5
  obtain ⟨v6, hv6, h⟩ := bind_some h
  obtain ⟨v7, hv7, h⟩ := bind_some h
  refine VW.ws tau_ok ((Sound.none.add 29 (s_l01Inv_ok hv6) rfl).add 31 (s_l11Scale_ok hv7) rfl) [some 23, some 24, some 25, some 26, some 27, some 28, some 29, some 30, some 31, some 7] [(0, .val (i64 a0)), (1, .val (dM a1)), (7, .ref 7 [] true (dI v7)), (8, .val (i64 v2))] rfl ?_ ?_
  · simp [hv5a, hv5b, hv5c, hv5d] <;> simp [ieq, ilt, ile]
  refine VW.ws tau_ok Sound.none [some 32, some 9, some 10] [(0, .val (i64 a0)), (1, .val (dM a1)), (7, .ref 7 [] true (dI v7)), (8, .val (i64 v2)), (9, .ref 9 [] true (dM [])), (10, .val (.bool false))] rfl ?_ ?_
  · simp <;> simp [ieq, ilt, ile]
  refine VW.sqc fun K8 hK8 hCK8 => ?_
  refine VW.ws tau_ok Sound.none [some 11] [(0, .val (i64 a0)), (1, .val (dM a1)), (7, .ref 7 [] true (dI v7)), (8, .val (i64 v2)), (9, .ref 9 [] true (dM [])), (10, .val (.bool false)), (11, .val (i64 0))] rfl ?_ ?_
  · simp <;> simp [ieq, ilt, ile]
  obtain ⟨x9, hx9, h⟩ := bind_some h
  refine VW.tlE [(7, .val (dI v7)), (9, .ref 9 [] false (dM x9.1)), (10, .val (.bool x9.2))] (hCK8) ?_ ?_
  · clear hx9
    refine hK8 _ ?_
    refine VW.sqc fun K28 hK28 hCK28 => ?_
    refine VW.ws tau_ok Sound.none [some 73, some 74] [(7, .val (dI v7)), (9, .ref 9 [] false (dM x9.1)), (74, .val (.bool (!x9.2)))] rfl ?_ ?_
    · simp <;> simp [ieq, ilt, ile]
    obtain ⟨x29, hx29, h⟩ := bind_some h
    refine VW.tlE [(9, .ref 9 [] false (dM x29))] (hCK28) ?_ ?_
    · clear hx29
      refine hK28 _ ?_
      refine VW.ws tau_ok Sound.none [some 79, some 6] [(6, .ref 6 [] false (dM x29))] rfl ?_ ?_
      · simp <;> simp [ieq, ilt, ile]
      have hr0 := Option.some.inj h
      subst hr0
      refine VW.fits (fl' := [(6, .val (dM x29))]) (Fits.freeze (s := 6) rfl (by simp) (Fits.of rfl)) ?_
      refine VW.ret ?_
      simp [Post, PostM, PostC, PostC2, Nx, Bk]
    refine VW.cond rfl (fun hb31 => ?_) (fun hb31 => ?_)
    rotate_left
    ·
      replace hb31 : ¬ (x9.2 = false) := by simpa [ieq, ilt, ile] using hb31
      rw [if_neg hb31] at hx29
      refine VW.skip ?_
      cases hx29
      exact Fits.of rfl
    replace hb31 : x9.2 = false := by simpa [ieq, ilt, ile] using hb31
    rw [if_pos hb31] at hx29
    obtain ⟨hc32, hx29⟩ := chk_some hx29
    have hc32s := hc32
    try simp at hc32s
    refine VW.wr tau_ok Sound.none [some 75, some 76, some 77, some 78, some 9] [(9, .ref 9 [] false (dM (x9.1 ++ [v7])))] rfl ?_ ?_
    · simp [hc32, hc32s] <;> simp [ieq, ilt, ile]
    cases hx29
    exact Fits.of rfl
  refine VW.block ?_
  refine VW.loopF (s_l12Put_L0 a0 a1 v2 v7) (fun s9 => [(0, .val (i64 a0)), (1, .val (dM a1)), (7, .val (dI v7)), (8, .val (i64 v2)), (9, .ref 9 [] false (dM s9.1)), (10, .val (.bool s9.2.1)), (11, .val (i64 s9.2.2))]) hx9 (Fits.freeze (s := 7) rfl (by simp) (Fits.weak (s := 9) rfl (by simp) (Fits.of rfl))) ?_
  clear hx9
  intro s9 ox9 hx9o hx9b
  unfold s_l12Put_L0 at hx9o
  refine VW.sqc fun K11 hK11 hCK11 => ?_
  refine VW.ws tau_ok Sound.none [some 33, some 34, some 35, some 36] [(0, .val (i64 a0)), (1, .val (dM a1)), (7, .val (dI v7)), (8, .val (i64 v2)), (9, .ref 9 [] false (dM s9.1)), (10, .val (.bool s9.2.1)), (11, .val (i64 s9.2.2)), (36, .val (.bool (ilt s9.2.2 (a1.length : Int))))] rfl ?_ ?_
  · simp <;> simp [ieq, ilt, ile]
  refine VW.cond rfl (fun hb12 => ?_) (fun hb12 => ?_)
  rotate_left
  ·
    replace hb12 : ¬ (s9.2.2 < (a1.length : Int)) := by simpa [ieq, ilt, ile] using hb12
    rw [if_neg hb12] at hx9o
    refine VW.exit ?_
    cases hx9o
    have hq := hx9b _ rfl
    subst hq
    exact Fits.of rfl
  replace hb12 : s9.2.2 < (a1.length : Int) := by simpa [ieq, ilt, ile] using hb12
  rw [if_pos hb12] at hx9o
  refine VW.skip ?_
  refine hK11 _ ?_
  refine VW.sqc fun K13 hK13 hCK13 => ?_
  refine VW.block ?_
  refine VW.sqc fun K14 hK14 hCK14 => ?_
  obtain ⟨x18, hx18, hx9o⟩ := bind_some hx9o
  refine VW.cut [(0, .val (i64 a0)), (1, .val (dM a1)), (7, .val (dI v7)), (8, .val (i64 v2)), (9, .ref 9 [] false (dM s9.1)), (10, .val (.bool s9.2.1)), (11, .val (i64 s9.2.2)), (49, .val (.bool x18))] ?_ fun hy => ?_
  rotate_left
  · clear hx9o
    by_cases hp15 : s9.2.1 = false
    · rw [if_pos hp15] at hx18
      have hp15b : s9.2.1 = false := by simpa [ieq, ilt, ile] using hp15
      have hp15s := hp15b
      try simp at hp15s
      obtain ⟨v16, hv16, hx18⟩ := bind_some hx18
      obtain ⟨hv16a, hv16b, hv16c, hv16d⟩ := idx_some hv16
      obtain ⟨v17, hv17, hx18⟩ := bind_some hx18
      cases hx18
      refine VW.ws tau_ok (Sound.none.add 46 (s_l12First_ok hv17) rfl) [some 39, some 40, some 41, some 42, some 43, some 44, some 45, some 46, some 47, some 48, some 49] _ rfl ?_ hy
      simp [hp15b, hp15s, hv16a, hv16b, hv16c, hv16d] <;> simp [ieq, ilt, ile]
    · rw [if_neg hp15] at hx18
      have hp15b : s9.2.1 = true := by simpa [ieq, ilt, ile] using hp15
      have hp15s := hp15b
      try simp at hp15s
      cases hx18
      refine VW.ws tau_ok Sound.none [some 39, some 40, some 41, some 42, some 43, some 44, some 45, some 46, some 47, some 48, some 49] _ rfl ?_ hy
      simp [hp15b, hp15s] <;> simp [ieq, ilt, ile]
  obtain ⟨x19, hx19, hx9o⟩ := bind_some hx9o
  refine VW.tlE [(0, .val (i64 a0)), (1, .val (dM a1)), (7, .val (dI v7)), (8, .val (i64 v2)), (9, .ref 9 [] false (dM x19.1)), (10, .val (.bool x19.2)), (11, .val (i64 s9.2.2))] (hCK14) ?_ ?_
  · clear hx19
    refine hK14 _ ?_
    obtain ⟨v23, hv23, hx9o⟩ := bind_some hx9o
    obtain ⟨hv23a, hv23b, hv23c, hv23d⟩ := idx_some hv23
    obtain ⟨v24, hv24, hx9o⟩ := bind_some hx9o
    obtain ⟨hv24a, hv24b, hv24c, hv24d⟩ := idx_some hv24
    obtain ⟨v25, hv25, hx9o⟩ := bind_some hx9o
    obtain ⟨v26, hv26, hx9o⟩ := bind_some hx9o
    obtain ⟨hc27, hx9o⟩ := chk_some hx9o
    have hc27s := hc27
    try simp at hc27s
    refine VW.wdr tau_ok ((Sound.none.add 69 (s_l11Scale_ok hv25) rfl).add 70 (s_l11Minus_ok hv26) rfl) try_mixed [some 54, some 55, some 56, some 57, some 58, some 59, some 60, some 61, some 62, some 63, some 64, some 65, some 66, some 67, some 68, some 69, some 70, some 71, some 72, some 9] [(0, .val (i64 a0)), (1, .val (dM a1)), (7, .val (dI v7)), (8, .val (i64 v2)), (9, .ref 9 [] false (dM (x19.1 ++ [v26]))), (10, .val (.bool x19.2)), (11, .val (i64 s9.2.2))] 17 rfl (by kernel_rfl) (by rfl) ?_ ?_
    · simp [hv23a, hv23b, hv23c, hv23d, hv24a, hv24b, hv24c, hv24d, hc27, hc27s] <;> simp [ieq, ilt, ile]
    refine hK13 _ ?_
    refine VW.wr tau_ok Sound.none [some 37, some 38, some 11] [(0, .val (i64 a0)), (1, .val (dM a1)), (7, .val (dI v7)), (8, .val (i64 v2)), (9, .ref 9 [] false (dM (x19.1 ++ [v26]))), (10, .val (.bool x19.2)), (11, .val (i64 (w64 (s9.2.2 + 1))))] rfl ?_ ?_
    · simp <;> simp [ieq, ilt, ile]
    cases hx9o
    exact ⟨_, rfl, Fits.of rfl⟩
  refine VW.cond rfl (fun hb21 => ?_) (fun hb21 => ?_)
  rotate_left
  ·
    replace hb21 : ¬ (x18 = true) := by simpa [ieq, ilt, ile] using hb21
    rw [if_neg hb21] at hx19
    refine VW.skip ?_
    cases hx19
    exact Fits.of rfl
  replace hb21 : x18 = true := by simpa [ieq, ilt, ile] using hb21
  rw [if_pos hb21] at hx19
  obtain ⟨hc22, hx19⟩ := chk_some hx19
  have hc22s := hc22
  try simp at hc22s
  refine VW.ws tau_ok Sound.none [some 50, some 51, some 52, some 53, some 9] [(0, .val (i64 a0)), (1, .val (dM a1)), (7, .val (dI v7)), (8, .val (i64 v2)), (9, .ref 9 [] false (dM (s9.1 ++ [v7]))), (11, .val (i64 s9.2.2))] rfl ?_ ?_
  · simp [hc22, hc22s] <;> simp [ieq, ilt, ile]
  refine VW.wr tau_ok Sound.none [some 10] [(0, .val (i64 a0)), (1, .val (dM a1)), (7, .val (dI v7)), (8, .val (i64 v2)), (9, .ref 9 [] false (dM (s9.1 ++ [v7]))), (10, .val (.bool true)), (11, .val (i64 s9.2.2))] rfl ?_ ?_
  · simp <;> simp [ieq, ilt, ile]
  cases hx19
  exact Fits.of rfl

theorem s_l12Reduced_ok {a0 : Int} {a1 : List (List Int)} {r : List (List Int)} (h : s_l12Reduced a0 a1 = some r) :
    VCall Try.prog 191 [i64 a0, dM a1] [.shr (dM r)] := by
  unfold s_l12Reduced at h
  refine VCall.enter Try.call191 Try.func191 rfl 22 Try.ntmps191 (by simp) [.tmp 4] rfl ?_
  show VW _ _ _ (mk [(0, .val (i64 a0)), (1, .val (dM a1))]) _
  refine VW.ws tau_ok Sound.none [some 4] [(0, .val (i64 a0)), (1, .val (dM a1))] rfl ?_ ?_
  · simp <;> simp [ieq, ilt, ile]
  refine VW.ws tau_ok Sound.none [some 7, some 5] [(0, .val (i64 a0)), (1, .val (dM a1)), (5, .ref 5 [] true (dM []))] rfl ?_ ?_
  · simp <;> simp [ieq, ilt, ile]
  refine VW.sqc fun K1 hK1 hCK1 => ?_
  refine VW.ws tau_ok Sound.none [some 6] [(0, .val (i64 a0)), (1, .val (dM a1)), (5, .ref 5 [] true (dM [])), (6, .val (i64 0))] rfl ?_ ?_
  · simp <;> simp [ieq, ilt, ile]
  obtain ⟨x2, hx2, h⟩ := bind_some h
  refine VW.tlE [(5, .val (dM x2))] (hCK1) ?_ ?_
  · clear hx2
    refine hK1 _ ?_
    refine VW.ws tau_ok Sound.none [some 21, some 4] [(4, .val (dM x2))] rfl ?_ ?_
    · simp <;> simp [ieq, ilt, ile]
    cases h
    refine VW.ret ?_
    simp [Post, PostM, PostC, PostC2, Nx, Bk]
  refine VW.block ?_
  refine VW.loopF (s_l12Reduced_L0 a0 a1) (fun s2 => [(0, .val (i64 a0)), (1, .val (dM a1)), (5, .val (dM s2.1)), (6, .val (i64 s2.2))]) hx2 (Fits.freeze (s := 5) rfl (by simp) (Fits.of rfl)) ?_
  clear hx2
  intro s2 ox2 hx2o hx2b
  unfold s_l12Reduced_L0 at hx2o
  refine VW.sqc fun K4 hK4 hCK4 => ?_
  refine VW.ws tau_ok Sound.none [some 8, some 9, some 10, some 11] [(0, .val (i64 a0)), (1, .val (dM a1)), (5, .val (dM s2.1)), (6, .val (i64 s2.2)), (11, .val (.bool (ilt s2.2 (a1.length : Int))))] rfl ?_ ?_
  · simp <;> simp [ieq, ilt, ile]
  refine VW.cond rfl (fun hb5 => ?_) (fun hb5 => ?_)
  rotate_left
  ·
    replace hb5 : ¬ (s2.2 < (a1.length : Int)) := by simpa [ieq, ilt, ile] using hb5
    rw [if_neg hb5] at hx2o
    refine VW.exit ?_
    cases hx2o
    have hq := hx2b _ rfl
    subst hq
    exact Fits.of rfl
  replace hb5 : s2.2 < (a1.length : Int) := by simpa [ieq, ilt, ile] using hb5
  rw [if_pos hb5] at hx2o
  refine VW.skip ?_
  refine hK4 _ ?_
  refine VW.sqc fun K6 hK6 hCK6 => ?_
  refine VW.block ?_
  obtain ⟨v7, hv7, hx2o⟩ := bind_some hx2o
  obtain ⟨hv7a, hv7b, hv7c, hv7d⟩ := idx_some hv7
  obtain ⟨v8, hv8, hx2o⟩ := bind_some hx2o
  refine VW.wr tau_ok (Sound.none.add 20 (s_l12Put_ok hv8) rfl) [some 14, some 15, some 16, some 17, some 18, some 19, some 20, some 5] [(0, .val (i64 a0)), (1, .val (dM a1)), (5, .val (dM v8)), (6, .val (i64 s2.2))] rfl ?_ ?_
  · simp [hv7a, hv7b, hv7c, hv7d] <;> simp [ieq, ilt, ile]
  refine hK6 _ ?_
  refine VW.wr tau_ok Sound.none [some 12, some 13, some 6] [(0, .val (i64 a0)), (1, .val (dM a1)), (5, .val (dM v8)), (6, .val (i64 (w64 (s2.2 + 1))))] rfl ?_ ?_
  · simp <;> simp [ieq, ilt, ile]
  cases hx2o
  exact ⟨_, rfl, Fits.of rfl⟩

theorem s_l01Index_ok {a0 : List Int} {a1 : Int} {r : Int} (h : s_l01Index a0 a1 = some r) :
    VCall Try.prog 229 [dI a0, i64 a1] [.sc (i64 r)] := by
  unfold s_l01Index at h
  refine VCall.enter Try.call229 Try.func229 rfl 19 Try.ntmps229 (by simp) [.tmp 4] rfl ?_
  show VW _ _ _ (mk [(0, .val (dI a0)), (1, .val (i64 a1))]) _
  refine VW.ws tau_ok Sound.none [some 4] [(0, .val (dI a0)), (1, .val (i64 a1))] rfl ?_ ?_
  · simp <;> simp [ieq, ilt, ile]
  refine VW.sqc fun K1 hK1 hCK1 => ?_
  refine VW.ws tau_ok Sound.none [some 5] [(0, .val (dI a0)), (1, .val (i64 a1)), (5, .val (i64 0))] rfl ?_ ?_
  · simp <;> simp [ieq, ilt, ile]
  obtain ⟨x2, hx2, h⟩ := bind_some h
  refine VW.tlO (fun y4 => []) x2 (hCK1) ?_ ?_
  · clear hx2
    rintro y4 rfl
    dsimp only at h
    refine hK1 _ ?_
    refine VW.ws tau_ok Sound.none [some 4] [(4, .val (i64 (-1)))] rfl ?_ ?_
    · simp <;> simp [ieq, ilt, ile]
    cases h
    refine VW.ret ?_
    simp [Post, PostM, PostC, PostC2, Nx, Bk]
  refine VW.block ?_
  refine VW.loopF (s_l01Index_L0 a0 a1) (fun s2 => [(0, .val (dI a0)), (1, .val (i64 a1)), (5, .val (i64 s2))]) hx2 (Fits.of rfl) ?_
  clear hx2
  intro s2 ox2 hx2o hx2b
  unfold s_l01Index_L0 at hx2o
  refine VW.sqc fun K5 hK5 hCK5 => ?_
  refine VW.ws tau_ok Sound.none [some 6, some 7, some 8, some 9] [(0, .val (dI a0)), (1, .val (i64 a1)), (5, .val (i64 s2)), (9, .val (.bool (ilt s2 (a0.length : Int))))] rfl ?_ ?_
  · simp <;> simp [ieq, ilt, ile]
  refine VW.cond rfl (fun hb6 => ?_) (fun hb6 => ?_)
  rotate_left
  ·
    replace hb6 : ¬ (s2 < (a0.length : Int)) := by simpa [ieq, ilt, ile] using hb6
    rw [if_neg hb6] at hx2o
    refine VW.exit ?_
    cases hx2o
    have hq := hx2b _ rfl
    subst hq
    exact ⟨_, rfl, Fits.of rfl⟩
  replace hb6 : s2 < (a0.length : Int) := by simpa [ieq, ilt, ile] using hb6
  rw [if_pos hb6] at hx2o
  refine VW.skip ?_
  refine hK5 _ ?_
  refine VW.sqc fun K7 hK7 hCK7 => ?_
  refine VW.block ?_
  obtain ⟨v8, hv8, hx2o⟩ := bind_some hx2o
  obtain ⟨hv8a, hv8b, hv8c, hv8d⟩ := idx_some hv8
  refine VW.ws tau_ok Sound.none [some 12, some 13, some 14, some 15, some 16, some 17] [(0, .val (dI a0)), (1, .val (i64 a1)), (5, .val (i64 s2)), (17, .val (.bool (ieq v8 a1)))] rfl ?_ ?_
  · simp [hv8a, hv8b, hv8c, hv8d] <;> simp [ieq, ilt, ile]
  refine VW.cond rfl (fun hb9 => ?_) (fun hb9 => ?_)
  rotate_left
  ·
    replace hb9 : ¬ (v8 = a1) := by simpa [ieq, ilt, ile] using hb9
    rw [if_neg hb9] at hx2o
    refine VW.skip ?_
    refine hK7 _ ?_
    refine VW.wr tau_ok Sound.none [some 10, some 11, some 5] [(0, .val (dI a0)), (1, .val (i64 a1)), (5, .val (i64 (w64 (s2 + 1))))] rfl ?_ ?_
    · simp <;> simp [ieq, ilt, ile]
    cases hx2o
    exact ⟨_, rfl, Fits.of rfl⟩
  replace hb9 : v8 = a1 := by simpa [ieq, ilt, ile] using hb9
  rw [if_pos hb9] at hx2o
  refine VW.ws tau_ok Sound.none [some 18, some 4] [(4, .val (i64 s2))] rfl ?_ ?_
  · simp <;> simp [ieq, ilt, ile]
  cases hx2o
  have hq := hx2b _ rfl
  subst hq
  dsimp only at h
  cases h
  refine VW.ret ?_
  simp [Post, PostM, PostC, PostC2, Nx, Bk]

theorem s_l01Has_ok {a0 : List Int} {a1 : Int} {r : Bool} (h : s_l01Has a0 a1 = some r) :
    VCall Try.prog 193 [dI a0, i64 a1] [.sc (.bool r)] := by
  unfold s_l01Has at h
  refine VCall.enter Try.call193 Try.func193 rfl 9 Try.ntmps193 (by simp) [.tmp 4] rfl ?_
  show VW _ _ _ (mk [(0, .val (dI a0)), (1, .val (i64 a1))]) _
  refine VW.ws tau_ok Sound.none [some 4] [(0, .val (dI a0)), (1, .val (i64 a1))] rfl ?_ ?_
  · simp <;> simp [ieq, ilt, ile]
  obtain ⟨v1, hv1, h⟩ := bind_some h
  refine VW.ws tau_ok (Sound.none.add 7 (s_l01Index_ok hv1) rfl) [some 5, some 6, some 7, some 8, some 4] [(4, .val (.bool (ile 0 v1)))] rfl ?_ ?_
  · simp <;> simp [ieq, ilt, ile]
  cases h
  refine VW.ret ?_
  simp [Post, PostM, PostC, PostC2, Nx, Bk]

theorem s_l12Kernel_ok {a0 : Int} {a1 : Int} {a2 : List (List Int)} {r : List (List Int)} (h : s_l12Kernel a0 a1 a2 = some r) :
    VCall Try.prog 122 [i64 a0, i64 a1, dM a2] [.shr (dM r)] := by
  unfold s_l12Kernel at h
  refine VCall.enter Try.call122 Try.func122 rfl 75 Try.ntmps122 (by simp) [.tmp 6] rfl ?_
  show VW _ _ _ (mk [(0, .val (i64 a0)), (1, .val (i64 a1)), (2, .val (dM a2))]) _
  refine VW.ws tau_ok Sound.none [some 6] [(0, .val (i64 a0)), (1, .val (i64 a1)), (2, .val (dM a2))] rfl ?_ ?_
  · simp <;> simp [ieq, ilt, ile]
  obtain ⟨v1, hv1, h⟩ := bind_some h
  refine VW.ws tau_ok (Sound.none.add 16 (s_l12Reduced_ok hv1) rfl) [some 14, some 15, some 16, some 17, some 7, some 8] [(0, .val (i64 a0)), (1, .val (i64 a1)), (7, .val (dM v1)), (8, .ref 8 [] true (dM []))] rfl ?_ ?_
  · simp <;> simp [ieq, ilt, ile]
  refine VW.ws tau_ok Sound.none [some 18, some 9] [(0, .val (i64 a0)), (1, .val (i64 a1)), (7, .val (dM v1)), (8, .ref 8 [] true (dM [])), (9, .ref 9 [] true (dI []))] rfl ?_ ?_
  · simp <;> simp [ieq, ilt, ile]
  refine VW.sqc fun K2 hK2 hCK2 => ?_
  refine VW.ws tau_ok Sound.none [some 10] [(0, .val (i64 a0)), (1, .val (i64 a1)), (7, .val (dM v1)), (8, .ref 8 [] true (dM [])), (9, .ref 9 [] true (dI [])), (10, .val (i64 0))] rfl ?_ ?_
  · simp <;> simp [ieq, ilt, ile]
  obtain ⟨x3, hx3, h⟩ := bind_some h
  refine VW.tlE [(0, .val (i64 a0)), (1, .val (i64 a1)), (7, .val (dM v1)), (8, .ref 8 [] true (dM [])), (9, .ref 9 [] true (dI x3))] (hCK2) ?_ ?_
  · clear hx3
    refine hK2 _ ?_
    refine VW.sqc fun K11 hK11 hCK11 => ?_
    refine VW.ws tau_ok Sound.none [some 11] [(0, .val (i64 a0)), (1, .val (i64 a1)), (7, .val (dM v1)), (8, .ref 8 [] true (dM [])), (9, .ref 9 [] true (dI x3)), (11, .val (i64 0))] rfl ?_ ?_
    · simp <;> simp [ieq, ilt, ile]
    obtain ⟨x12, hx12, h⟩ := bind_some h
    refine VW.tlE [(0, .val (i64 a0)), (8, .ref 8 [] true (dM x12))] (hCK11) ?_ ?_
    · clear hx12
      refine hK11 _ ?_
      obtain ⟨v37, hv37, h⟩ := bind_some h
      refine VW.ws tau_ok (Sound.none.add 74 (s_l12Reduced_ok hv37) rfl) [some 72, some 73, some 74, some 6] [(6, .val (dM v37))] rfl ?_ ?_
      · simp <;> simp [ieq, ilt, ile]
      cases h
      refine VW.ret ?_
      simp [Post, PostM, PostC, PostC2, Nx, Bk]
    refine VW.block ?_
    refine VW.loopF (s_l12Kernel_L1 a0 a1 v1 x3) (fun s12 => [(0, .val (i64 a0)), (1, .val (i64 a1)), (7, .val (dM v1)), (8, .ref 8 [] true (dM s12.1)), (9, .ref 9 [] true (dI x3)), (11, .val (i64 s12.2))]) hx12 (Fits.of rfl) ?_
    clear hx12
    intro s12 ox12 hx12o hx12b
    unfold s_l12Kernel_L1 at hx12o
    refine VW.sqc fun K14 hK14 hCK14 => ?_
    refine VW.ws tau_ok Sound.none [some 33, some 34, some 35] [(0, .val (i64 a0)), (1, .val (i64 a1)), (7, .val (dM v1)), (8, .ref 8 [] true (dM s12.1)), (9, .ref 9 [] true (dI x3)), (11, .val (i64 s12.2)), (35, .val (.bool (ilt s12.2 a1)))] rfl ?_ ?_
    · simp <;> simp [ieq, ilt, ile]
    refine VW.cond rfl (fun hb15 => ?_) (fun hb15 => ?_)
    rotate_left
    ·
      replace hb15 : ¬ (s12.2 < a1) := by simpa [ieq, ilt, ile] using hb15
      rw [if_neg hb15] at hx12o
      refine VW.exit ?_
      cases hx12o
      have hq := hx12b _ rfl
      subst hq
      exact Fits.of rfl
    replace hb15 : s12.2 < a1 := by simpa [ieq, ilt, ile] using hb15
    rw [if_pos hb15] at hx12o
    refine VW.skip ?_
    refine hK14 _ ?_
    refine VW.sqc fun K16 hK16 hCK16 => ?_
    obtain ⟨x17, hx17, hx12o⟩ := bind_some hx12o
    refine VW.tlE [(0, .val (i64 a0)), (1, .val (i64 a1)), (7, .val (dM v1)), (8, .ref 8 [] true (dM x17)), (9, .ref 9 [] true (dI x3)), (11, .val (i64 s12.2))] (hCK16) ?_ ?_
    · clear hx17
      refine hK16 _ ?_
      refine VW.wr tau_ok Sound.none [some 36, some 37, some 11] [(0, .val (i64 a0)), (1, .val (i64 a1)), (7, .val (dM v1)), (8, .ref 8 [] true (dM x17)), (9, .ref 9 [] true (dI x3)), (11, .val (i64 (w64 (s12.2 + 1))))] rfl ?_ ?_
      · simp <;> simp [ieq, ilt, ile]
      cases hx12o
      exact ⟨_, rfl, Fits.of rfl⟩
    refine VW.block ?_
    refine VW.sqc fun K19 hK19 hCK19 => ?_
    obtain ⟨v20, hv20, hx17⟩ := bind_some hx17
    refine VW.ws tau_ok (Sound.none.add 40 (s_l01Has_ok hv20) rfl) [some 38, some 39, some 40] [(0, .val (i64 a0)), (1, .val (i64 a1)), (7, .val (dM v1)), (8, .ref 8 [] true (dM s12.1)), (9, .ref 9 [] true (dI x3)), (11, .val (i64 s12.2)), (40, .val (.bool v20))] rfl ?_ ?_
    · simp <;> simp [ieq, ilt, ile]
    refine VW.cond rfl (fun hb21 => ?_) (fun hb21 => ?_)
    ·
      replace hb21 : v20 = true := by simpa [ieq, ilt, ile] using hb21
      rw [if_pos hb21] at hx17
      refine VW.exit ?_
      cases hx17
      exact Fits.of rfl
    replace hb21 : ¬ (v20 = true) := by simpa [ieq, ilt, ile] using hb21
    rw [if_neg hb21] at hx17
    refine VW.skip ?_
    refine hK19 _ ?_
    obtain ⟨hc22, hx17⟩ := chk_some hx17
    have hc22s := hc22
    try simp at hc22s
    refine VW.ws tau_ok Sound.none [some 41, some 42, some 12] [(0, .val (i64 a0)), (1, .val (i64 a1)), (7, .val (dM v1)), (8, .ref 8 [] true (dM s12.1)), (9, .ref 9 [] true (dI x3)), (11, .val (i64 s12.2)), (12, .ref 12 [] true (dI (List.replicate a1.toNat 0)))] rfl ?_ ?_
    · simp [hc22, hc22s] <;> simp [ieq, ilt, ile]
    obtain ⟨l23, hl23, hx17⟩ := bind_some hx17
    rw [Option.some.inj hl23]
    obtain ⟨v24, hv24, hx17⟩ := bind_some hx17
    obtain ⟨hv24a, hv24b, hv24c, hv24d⟩ := idx_some hv24
    refine VW.ws tau_ok Sound.none [some 43, some 44, some 45, none] [(0, .val (i64 a0)), (1, .val (i64 a1)), (7, .val (dM v1)), (8, .ref 8 [] true (dM s12.1)), (9, .ref 9 [] true (dI x3)), (11, .val (i64 s12.2)), (12, .ref 12 [] true (dI (l23.set s12.2.toNat 1)))] rfl ?_ ?_
    · simp [hv24a, hv24b, hv24c, hv24d] <;> simp [ieq, ilt, ile]
    refine VW.sqc fun K25 hK25 hCK25 => ?_
    refine VW.ws tau_ok Sound.none [some 13] [(0, .val (i64 a0)), (1, .val (i64 a1)), (7, .val (dM v1)), (8, .ref 8 [] true (dM s12.1)), (9, .ref 9 [] true (dI x3)), (11, .val (i64 s12.2)), (12, .ref 12 [] true (dI (l23.set s12.2.toNat 1))), (13, .val (i64 0))] rfl ?_ ?_
    · simp <;> simp [ieq, ilt, ile]
    obtain ⟨x26, hx26, hx17⟩ := bind_some hx17
    refine VW.tlE [(0, .val (i64 a0)), (1, .val (i64 a1)), (7, .val (dM v1)), (8, .ref 8 [] true (dM s12.1)), (9, .ref 9 [] true (dI x3)), (11, .val (i64 s12.2)), (12, .ref 12 [] true (dI x26))] (hCK25) ?_ ?_
    · clear hx26
      refine hK25 _ ?_
      obtain ⟨hc36, hx17⟩ := chk_some hx17
      have hc36s := hc36
      try simp at hc36s
      refine VW.wr tau_ok Sound.none [some 68, some 69, some 70, some 71, some 8] [(0, .val (i64 a0)), (1, .val (i64 a1)), (7, .val (dM v1)), (8, .ref 8 [] true (dM (s12.1 ++ [x26]))), (9, .ref 9 [] true (dI x3)), (11, .val (i64 s12.2))] rfl ?_ ?_
      · simp [hc36, hc36s] <;> simp [ieq, ilt, ile]
      cases hx17
      exact Fits.of rfl
    refine VW.block ?_
    refine VW.loopF (s_l12Kernel_L2 a0 v1 x3 s12) (fun s26 => [(0, .val (i64 a0)), (1, .val (i64 a1)), (7, .val (dM v1)), (8, .ref 8 [] true (dM s12.1)), (9, .ref 9 [] true (dI x3)), (11, .val (i64 s12.2)), (12, .ref 12 [] true (dI s26.1)), (13, .val (i64 s26.2))]) hx26 (Fits.of rfl) ?_
    clear hx26
    intro s26 ox26 hx26o hx26b
    unfold s_l12Kernel_L2 at hx26o
    refine VW.sqc fun K28 hK28 hCK28 => ?_
    refine VW.ws tau_ok Sound.none [some 46, some 47, some 48, some 49] [(0, .val (i64 a0)), (1, .val (i64 a1)), (7, .val (dM v1)), (8, .ref 8 [] true (dM s12.1)), (9, .ref 9 [] true (dI x3)), (11, .val (i64 s12.2)), (12, .ref 12 [] true (dI s26.1)), (13, .val (i64 s26.2)), (49, .val (.bool (ilt s26.2 (v1.length : Int))))] rfl ?_ ?_
    · simp <;> simp [ieq, ilt, ile]
    refine VW.cond rfl (fun hb29 => ?_) (fun hb29 => ?_)
    rotate_left
    ·
      replace hb29 : ¬ (s26.2 < (v1.length : Int)) := by simpa [ieq, ilt, ile] using hb29
      rw [if_neg hb29] at hx26o
      refine VW.exit ?_
      cases hx26o
      have hq := hx26b _ rfl
      subst hq
      exact Fits.of rfl
    replace hb29 : s26.2 < (v1.length : Int) := by simpa [ieq, ilt, ile] using hb29
    rw [if_pos hb29] at hx26o
    refine VW.skip ?_
    refine hK28 _ ?_
    refine VW.sqc fun K30 hK30 hCK30 => ?_
    refine VW.block ?_
    obtain ⟨v31, hv31, hx26o⟩ := bind_some hx26o
    obtain ⟨hv31a, hv31b, hv31c, hv31d⟩ := idx_some hv31
    obtain ⟨v32, hv32, hx26o⟩ := bind_some hx26o
    obtain ⟨hv32a, hv32b, hv32c, hv32d⟩ := idx_some hv32
    obtain ⟨v33, hv33, hx26o⟩ := bind_some hx26o
    obtain ⟨hv33a, hv33b, hv33c, hv33d⟩ := idx_some hv33
    obtain ⟨v34, hv34, hx26o⟩ := bind_some hx26o
    obtain ⟨v35, hv35, hx26o⟩ := bind_some hx26o
    obtain ⟨hv35a, hv35b, hv35c, hv35d⟩ := idx_some hv35
    refine VW.wdr tau_ok (Sound.none.add 66 (s_l01Mod_ok hv34) rfl) try_mixed [some 52, some 53, some 54, some 55, some 56, some 57, some 58, some 59, some 60, some 61, some 62, some 63, some 64, some 65, some 66, some 67, none] [(0, .val (i64 a0)), (1, .val (i64 a1)), (7, .val (dM v1)), (8, .ref 8 [] true (dM s12.1)), (9, .ref 9 [] true (dI x3)), (11, .val (i64 s12.2)), (12, .ref 12 [] true (dI (s26.1.set v31.toNat v34))), (13, .val (i64 s26.2))] 16 rfl (by kernel_rfl) (by rfl) ?_ ?_
    · simp [hv31a, hv31b, hv31c, hv31d, hv32a, hv32b, hv32c, hv32d, hv33a, hv33b, hv33c, hv33d, hv35a, hv35b, hv35c, hv35d] <;> simp [ieq, ilt, ile]
    refine hK30 _ ?_
    refine VW.wr tau_ok Sound.none [some 50, some 51, some 13] [(0, .val (i64 a0)), (1, .val (i64 a1)), (7, .val (dM v1)), (8, .ref 8 [] true (dM s12.1)), (9, .ref 9 [] true (dI x3)), (11, .val (i64 s12.2)), (12, .ref 12 [] true (dI (s26.1.set v31.toNat v34))), (13, .val (i64 (w64 (s26.2 + 1))))] rfl ?_ ?_
    · simp <;> simp [ieq, ilt, ile]
    cases hx26o
    exact ⟨_, rfl, Fits.of rfl⟩
  refine VW.block ?_
  refine VW.loopF (s_l12Kernel_L0 v1) (fun s3 => [(0, .val (i64 a0)), (1, .val (i64 a1)), (7, .val (dM v1)), (8, .ref 8 [] true (dM [])), (9, .ref 9 [] true (dI s3.1)), (10, .val (i64 s3.2))]) hx3 (Fits.of rfl) ?_
  clear hx3
  intro s3 ox3 hx3o hx3b
  unfold s_l12Kernel_L0 at hx3o
  refine VW.sqc fun K5 hK5 hCK5 => ?_
  refine VW.ws tau_ok Sound.none [some 19, some 20, some 21, some 22] [(0, .val (i64 a0)), (1, .val (i64 a1)), (7, .val (dM v1)), (8, .ref 8 [] true (dM [])), (9, .ref 9 [] true (dI s3.1)), (10, .val (i64 s3.2)), (22, .val (.bool (ilt s3.2 (v1.length : Int))))] rfl ?_ ?_
  · simp <;> simp [ieq, ilt, ile]
  refine VW.cond rfl (fun hb6 => ?_) (fun hb6 => ?_)
  rotate_left
  ·
    replace hb6 : ¬ (s3.2 < (v1.length : Int)) := by simpa [ieq, ilt, ile] using hb6
    rw [if_neg hb6] at hx3o
    refine VW.exit ?_
    cases hx3o
    have hq := hx3b _ rfl
    subst hq
    exact Fits.of rfl
  replace hb6 : s3.2 < (v1.length : Int) := by simpa [ieq, ilt, ile] using hb6
  rw [if_pos hb6] at hx3o
  refine VW.skip ?_
  refine hK5 _ ?_
  refine VW.sqc fun K7 hK7 hCK7 => ?_
  refine VW.block ?_
  obtain ⟨v8, hv8, hx3o⟩ := bind_some hx3o
  obtain ⟨hv8a, hv8b, hv8c, hv8d⟩ := idx_some hv8
  obtain ⟨v9, hv9, hx3o⟩ := bind_some hx3o
  obtain ⟨hc10, hx3o⟩ := chk_some hx3o
  have hc10s := hc10
  try simp at hc10s
  refine VW.wr tau_ok (Sound.none.add 30 (s_l12First_ok hv9) rfl) [some 25, some 26, some 27, some 28, some 29, some 30, some 31, some 32, some 9] [(0, .val (i64 a0)), (1, .val (i64 a1)), (7, .val (dM v1)), (8, .ref 8 [] true (dM [])), (9, .ref 9 [] true (dI (s3.1 ++ [v9]))), (10, .val (i64 s3.2))] rfl ?_ ?_
  · simp [hv8a, hv8b, hv8c, hv8d, hc10, hc10s] <;> simp [ieq, ilt, ile]
  refine hK7 _ ?_
  refine VW.wr tau_ok Sound.none [some 23, some 24, some 10] [(0, .val (i64 a0)), (1, .val (i64 a1)), (7, .val (dM v1)), (8, .ref 8 [] true (dM [])), (9, .ref 9 [] true (dI (s3.1 ++ [v9]))), (10, .val (i64 (w64 (s3.2 + 1))))] rfl ?_ ?_
  · simp <;> simp [ieq, ilt, ile]
  cases hx3o
  exact ⟨_, rfl, Fits.of rfl⟩

theorem s_FixingDimension_ok {a0_0 : Int} {a0_1 : List Int} {a1 : List Int} {r : Int × Int} (h : s_FixingDimension a0_0 a0_1 a1 = some r) :
    VCall Try.prog 52 [.agg [i64 a0_0, dI a0_1], dI a1] [.sc (i64 r.1), .sc (i64 r.2)] := by
  unfold s_FixingDimension at h
  refine VCall.enter Try.call52 Try.func52 rfl 60 Try.ntmps52 (by simp) [.tmp 4, .tmp 5] rfl ?_
  show VW _ _ _ (mk [(0, .val (.agg [i64 a0_0, dI a0_1])), (1, .val (dI a1))]) _
  refine VW.ws tau_ok Sound.none [some 2, some 4, some 5] [(1, .val (dI a1)), (2, .val (.ptr [i64 a0_0, dI a0_1]))] rfl ?_ ?_
  · simp <;> simp [ieq, ilt, ile]
  refine VW.sqc fun K1 hK1 hCK1 => ?_
  obtain ⟨v2, hv2, h⟩ := bind_some h
  refine VW.ws tau_ok (Sound.none.add 15 (s_l14Elements_ok hv2) rfl) [some 12, some 13, some 14, some 15, some 6] [(1, .val (dI a1)), (2, .val (.ptr [i64 a0_0, dI a0_1])), (6, .val (i64 v2))] rfl ?_ ?_
  · simp <;> simp [ieq, ilt, ile]
  refine VW.ws tau_ok Sound.none [some 16, some 17] [(1, .val (dI a1)), (2, .val (.ptr [i64 a0_0, dI a0_1])), (6, .val (i64 v2)), (17, .val (.bool (!(ieq v2 0))))] rfl ?_ ?_
  · simp <;> simp [ieq, ilt, ile]
  refine VW.cond rfl (fun hb3 => ?_) (fun hb3 => ?_)
  ·
    replace hb3 : ¬ v2 = 0 := by simpa [ieq, ilt, ile] using hb3
    rw [if_pos hb3] at h
    refine VW.ws tau_ok Sound.none [some 18, some 4, some 5] [(4, .val (i64 0)), (5, .val (i64 v2))] rfl ?_ ?_
    · simp <;> simp [ieq, ilt, ile]
    cases h
    refine VW.ret ?_
    simp [Post, PostM, PostC, PostC2, Nx, Bk]
  replace hb3 : ¬ (¬ v2 = 0) := by simpa [ieq, ilt, ile] using hb3
  rw [if_neg hb3] at h
  refine VW.skip ?_
  refine hK1 _ ?_
  obtain ⟨v4, hv4, h⟩ := bind_some h
  refine VW.ws tau_ok (Sound.none.add 20 (s_l11Size_ok hv4) rfl) [some 19, some 20, some 7] [(1, .val (dI a1)), (2, .val (.ptr [i64 a0_0, dI a0_1])), (7, .val (i64 v4))] rfl ?_ ?_
  · simp <;> simp [ieq, ilt, ile]
  obtain ⟨v5, hv5, h⟩ := bind_some h
  refine VW.ws tau_ok (Sound.none.add 22 (s_l14Equations_ok hv5) rfl) [some 21, some 22, some 8] [(1, .val (dI a1)), (2, .val (.ptr [i64 a0_0, dI a0_1])), (7, .val (i64 v4)), (8, .ref 8 [] true (dM v5))] rfl ?_ ?_
  · simp <;> simp [ieq, ilt, ile]
  refine VW.sqc fun K6 hK6 hCK6 => ?_
  refine VW.ws tau_ok Sound.none [some 9] [(1, .val (dI a1)), (2, .val (.ptr [i64 a0_0, dI a0_1])), (7, .val (i64 v4)), (8, .ref 8 [] true (dM v5)), (9, .val (i64 0))] rfl ?_ ?_
  · simp <;> simp [ieq, ilt, ile]
  obtain ⟨x7, hx7, h⟩ := bind_some h
  refine VW.tlE [(2, .val (.ptr [i64 a0_0, dI a0_1])), (7, .val (i64 v4)), (8, .ref 8 [] true (dM x7))] (hCK6) ?_ ?_
  · clear hx7
    refine hK6 _ ?_
    obtain ⟨v22, hv22, h⟩ := bind_some h
    refine VW.ws tau_ok (Sound.none.add 58 (s_l12Kernel_ok hv22) rfl) [some 52, some 53, some 54, some 55, some 56, some 57, some 58, some 59, some 4, some 5] [(4, .val (i64 (v22.length : Int))), (5, .val (i64 0))] rfl ?_ ?_
    · simp <;> simp [ieq, ilt, ile]
    cases h
    refine VW.ret ?_
    simp [Post, PostM, PostC, PostC2, Nx, Bk]
  refine VW.block ?_
  refine VW.loopF (s_FixingDimension_L0 a1 v4) (fun s7 => [(1, .val (dI a1)), (2, .val (.ptr [i64 a0_0, dI a0_1])), (7, .val (i64 v4)), (8, .ref 8 [] true (dM s7.1)), (9, .val (i64 s7.2))]) hx7 (Fits.of rfl) ?_
  clear hx7
  intro s7 ox7 hx7o hx7b
  unfold s_FixingDimension_L0 at hx7o
  refine VW.sqc fun K9 hK9 hCK9 => ?_
  refine VW.ws tau_ok Sound.none [some 23, some 24, some 25] [(1, .val (dI a1)), (2, .val (.ptr [i64 a0_0, dI a0_1])), (7, .val (i64 v4)), (8, .ref 8 [] true (dM s7.1)), (9, .val (i64 s7.2)), (25, .val (.bool (ilt s7.2 v4)))] rfl ?_ ?_
  · simp <;> simp [ieq, ilt, ile]
  refine VW.cond rfl (fun hb10 => ?_) (fun hb10 => ?_)
  rotate_left
  ·
    replace hb10 : ¬ (s7.2 < v4) := by simpa [ieq, ilt, ile] using hb10
    rw [if_neg hb10] at hx7o
    refine VW.exit ?_
    cases hx7o
    have hq := hx7b _ rfl
    subst hq
    exact Fits.of rfl
  replace hb10 : s7.2 < v4 := by simpa [ieq, ilt, ile] using hb10
  rw [if_pos hb10] at hx7o
  refine VW.skip ?_
  refine hK9 _ ?_
  refine VW.sqc fun K11 hK11 hCK11 => ?_
  refine VW.block ?_
  obtain ⟨hc12, hx7o⟩ := chk_some hx7o
  have hc12s := hc12
  try simp at hc12s
  refine VW.ws tau_ok Sound.none [some 28, some 29, some 30, some 31, some 10] [(1, .val (dI a1)), (2, .val (.ptr [i64 a0_0, dI a0_1])), (7, .val (i64 v4)), (8, .ref 8 [] true (dM s7.1)), (9, .val (i64 s7.2)), (10, .ref 10 [] true (dI (List.replicate (w64 (v4 * v4)).toNat 0)))] rfl ?_ ?_
  · simp [hc12, hc12s] <;> simp [ieq, ilt, ile]
  refine VW.sqc fun K13 hK13 hCK13 => ?_
  refine VW.ws tau_ok Sound.none [some 11] [(1, .val (dI a1)), (2, .val (.ptr [i64 a0_0, dI a0_1])), (7, .val (i64 v4)), (8, .ref 8 [] true (dM s7.1)), (9, .val (i64 s7.2)), (10, .ref 10 [] true (dI (List.replicate (w64 (v4 * v4)).toNat 0))), (11, .val (i64 0))] rfl ?_ ?_
  · simp <;> simp [ieq, ilt, ile]
  obtain ⟨x14, hx14, hx7o⟩ := bind_some hx7o
  refine VW.tlE [(1, .val (dI a1)), (2, .val (.ptr [i64 a0_0, dI a0_1])), (7, .val (i64 v4)), (8, .ref 8 [] true (dM s7.1)), (9, .val (i64 s7.2)), (10, .ref 10 [] true (dI x14))] (hCK13) ?_ ?_
  · clear hx14
    refine hK13 _ ?_
    obtain ⟨hc21, hx7o⟩ := chk_some hx7o
    have hc21s := hc21
    try simp at hc21s
    refine VW.wr tau_ok Sound.none [some 48, some 49, some 50, some 51, some 8] [(1, .val (dI a1)), (2, .val (.ptr [i64 a0_0, dI a0_1])), (7, .val (i64 v4)), (8, .ref 8 [] true (dM (s7.1 ++ [x14]))), (9, .val (i64 s7.2))] rfl ?_ ?_
    · simp [hc21, hc21s] <;> simp [ieq, ilt, ile]
    refine hK11 _ ?_
    refine VW.wr tau_ok Sound.none [some 26, some 27, some 9] [(1, .val (dI a1)), (2, .val (.ptr [i64 a0_0, dI a0_1])), (7, .val (i64 v4)), (8, .ref 8 [] true (dM (s7.1 ++ [x14]))), (9, .val (i64 (w64 (s7.2 + 1))))] rfl ?_ ?_
    · simp <;> simp [ieq, ilt, ile]
    cases hx7o
    exact ⟨_, rfl, Fits.of rfl⟩
  refine VW.block ?_
  refine VW.loopF (s_FixingDimension_L1 a1 v4 s7) (fun s14 => [(1, .val (dI a1)), (2, .val (.ptr [i64 a0_0, dI a0_1])), (7, .val (i64 v4)), (8, .ref 8 [] true (dM s7.1)), (9, .val (i64 s7.2)), (10, .ref 10 [] true (dI s14.1)), (11, .val (i64 s14.2))]) hx14 (Fits.of rfl) ?_
  clear hx14
  intro s14 ox14 hx14o hx14b
  unfold s_FixingDimension_L1 at hx14o
  refine VW.sqc fun K16 hK16 hCK16 => ?_
  refine VW.ws tau_ok Sound.none [some 32, some 33, some 34] [(1, .val (dI a1)), (2, .val (.ptr [i64 a0_0, dI a0_1])), (7, .val (i64 v4)), (8, .ref 8 [] true (dM s7.1)), (9, .val (i64 s7.2)), (10, .ref 10 [] true (dI s14.1)), (11, .val (i64 s14.2)), (34, .val (.bool (ilt s14.2 v4)))] rfl ?_ ?_
  · simp <;> simp [ieq, ilt, ile]
  refine VW.cond rfl (fun hb17 => ?_) (fun hb17 => ?_)
  rotate_left
  ·
    replace hb17 : ¬ (s14.2 < v4) := by simpa [ieq, ilt, ile] using hb17
    rw [if_neg hb17] at hx14o
    refine VW.exit ?_
    cases hx14o
    have hq := hx14b _ rfl
    subst hq
    exact Fits.of rfl
  replace hb17 : s14.2 < v4 := by simpa [ieq, ilt, ile] using hb17
  rw [if_pos hb17] at hx14o
  refine VW.skip ?_
  refine hK16 _ ?_
  refine VW.sqc fun K18 hK18 hCK18 => ?_
  refine VW.block ?_
  obtain ⟨v19, hv19, hx14o⟩ := bind_some hx14o
  obtain ⟨hv19a, hv19b, hv19c, hv19d⟩ := idx_some hv19
  obtain ⟨v20, hv20, hx14o⟩ := bind_some hx14o
  obtain ⟨hv20a, hv20b, hv20c, hv20d⟩ := idx_some hv20
  refine VW.wr tau_ok Sound.none [some 37, some 38, some 39, some 40, some 41, some 42, some 43, some 44, some 45, some 46, some 47, none] [(1, .val (dI a1)), (2, .val (.ptr [i64 a0_0, dI a0_1])), (7, .val (i64 v4)), (8, .ref 8 [] true (dM s7.1)), (9, .val (i64 s7.2)), (10, .ref 10 [] true (dI (s14.1.set (w64 ((w64 (s7.2 * v4)) + s14.2)).toNat v19))), (11, .val (i64 s14.2))] rfl ?_ ?_
  · simp [hv19a, hv19b, hv19c, hv19d, hv20a, hv20b, hv20c, hv20d] <;> simp [ieq, ilt, ile]
  refine hK18 _ ?_
  refine VW.wr tau_ok Sound.none [some 35, some 36, some 11] [(1, .val (dI a1)), (2, .val (.ptr [i64 a0_0, dI a0_1])), (7, .val (i64 v4)), (8, .ref 8 [] true (dM s7.1)), (9, .val (i64 s7.2)), (10, .ref 10 [] true (dI (s14.1.set (w64 ((w64 (s7.2 * v4)) + s14.2)).toNat v19))), (11, .val (i64 (w64 (s14.2 + 1))))] rfl ?_ ?_
  · simp <;> simp [ieq, ilt, ile]
  cases hx14o
  exact ⟨_, rfl, Fits.of rfl⟩

theorem i_length_LI_ok {a0 : List (List Int)} {r : Int} (h : i_length_LI a0 = some r) :
    VCall Try.prog 81 [dM a0] [.sc (i64 r)] := by
  unfold i_length_LI at h
  refine VCall.enter Try.call81 Try.func81 rfl 5 Try.ntmps81 (by simp) [.tmp 2] rfl ?_
  show VW _ _ _ (mk [(0, .val (dM a0))]) _
  refine VW.ws tau_ok Sound.none [some 2] [(0, .val (dM a0))] rfl ?_ ?_
  · simp <;> simp [ieq, ilt, ile]
  refine VW.ws tau_ok Sound.none [some 3, some 4, some 2] [(2, .val (i64 (a0.length : Int)))] rfl ?_ ?_
  · simp <;> simp [ieq, ilt, ile]
  cases h
  refine VW.ret ?_
  simp [Post, PostM, PostC, PostC2, Nx, Bk]

theorem i_DerivationDimension_ok {a0_0 : Int} {a0_1 : List Int} {r : Int × Int} (h : i_DerivationDimension a0_0 a0_1 = some r) :
    VCall Try.prog 53 [.agg [i64 a0_0, dI a0_1]] [.sc (i64 r.1), .sc (i64 r.2)] := by
  unfold i_DerivationDimension at h
  refine VCall.enter Try.call53 Try.func53 rfl 13 Try.ntmps53 (by simp) [.tmp 2, .tmp 3] rfl ?_
  show VW _ _ _ (mk [(0, .val (.agg [i64 a0_0, dI a0_1]))]) _
  refine VW.ws tau_ok Sound.none [some 1, some 2, some 3] [(1, .val (.ptr [i64 a0_0, dI a0_1]))] rfl ?_ ?_
  · simp <;> simp [ieq, ilt, ile]
  refine VW.sqc fun K1 hK1 hCK1 => ?_
  obtain ⟨v2, hv2, h⟩ := bind_some h
  refine VW.ws tau_ok (Sound.none.add 6 (i_checkThree_ok hv2) rfl) [some 5, some 6, some 4] [(1, .val (.ptr [i64 a0_0, dI a0_1])), (4, .val (i64 v2))] rfl ?_ ?_
  · simp <;> simp [ieq, ilt, ile]
  refine VW.ws tau_ok Sound.none [some 7, some 8] [(1, .val (.ptr [i64 a0_0, dI a0_1])), (4, .val (i64 v2)), (8, .val (.bool (!(ieq v2 0))))] rfl ?_ ?_
  · simp <;> simp [ieq, ilt, ile]
  refine VW.cond rfl (fun hb3 => ?_) (fun hb3 => ?_)
  ·
    replace hb3 : ¬ v2 = 0 := by simpa [ieq, ilt, ile] using hb3
    rw [if_pos hb3] at h
    refine VW.ws tau_ok Sound.none [some 9, some 2, some 3] [(2, .val (i64 0)), (3, .val (i64 v2))] rfl ?_ ?_
    · simp <;> simp [ieq, ilt, ile]
    cases h
    refine VW.ret ?_
    simp [Post, PostM, PostC, PostC2, Nx, Bk]
  replace hb3 : ¬ (¬ v2 = 0) := by simpa [ieq, ilt, ile] using hb3
  rw [if_neg hb3] at h
  refine VW.skip ?_
  refine hK1 _ ?_
  obtain ⟨v4, hv4, h⟩ := bind_some h
  obtain ⟨v5, hv5, h⟩ := bind_some h
  refine VW.ws tau_ok ((Sound.none.add 11 (i_Doubling_derivations_ok hv4) rfl).add 12 (i_length_LI_ok hv5) rfl) [some 10, some 11, some 12, some 2, some 3] [(2, .val (i64 v5)), (3, .val (i64 0))] rfl ?_ ?_
  · simp <;> simp [ieq, ilt, ile]
  cases h
  refine VW.ret ?_
  simp [Post, PostM, PostC, PostC2, Nx, Bk]

theorem i_Doubling_element_ok {a0_0 : Int} {a0_1 : List Int} {a1 : Int} {r : List Int} (h : i_Doubling_element a0_0 a0_1 a1 = some r) :
    VCall Try.prog 123 [.agg [i64 a0_0, dI a0_1], i64 a1] [.own true (dI r)] := by
  unfold i_Doubling_element at h
  refine VCall.enter Try.call123 Try.func123 rfl 11 Try.ntmps123 (by simp) [.tmp 4] rfl ?_
  show VW _ _ _ (mk [(0, .val (.agg [i64 a0_0, dI a0_1])), (1, .val (i64 a1))]) _
  refine VW.ws tau_ok Sound.none [some 2, some 4] [(1, .val (i64 a1)), (2, .val (.ptr [i64 a0_0, dI a0_1]))] rfl ?_ ?_
  · simp <;> simp [ieq, ilt, ile]
  obtain ⟨v1, hv1, h⟩ := bind_some h
  obtain ⟨v2, hv2, h⟩ := bind_some h
  obtain ⟨v3, hv3, h⟩ := bind_some h
  obtain ⟨hv3a, hv3b, hv3c, hv3d⟩ := idx_some hv3
  refine VW.ws tau_ok ((Sound.none.add 6 (i_Doubling_size_ok hv1) rfl).add 7 (i_unit_ok hv2) rfl) [some 5, some 6, some 7, some 8, some 9, some 10, some 4] [(4, .ref 7 [a1.toNat] true (dI v3))] rfl ?_ ?_
  · simp [hv3a, hv3b, hv3c, hv3d] <;> simp [ieq, ilt, ile]
  have hr0 := Option.some.inj h
  subst hr0
  refine VW.fits (fl' := [(4, .ref 4 [] true (dI v3))]) (Fits.part (s := 4) rfl (by decide) (Fits.of rfl)) ?_
  refine VW.ret ?_
  simp [Post, PostM, PostC, PostC2, Nx, Bk]

theorem i_DoubleUnit_ok {a0_0 : Int} {a0_1 : List Int} {r : (List Int) × Int} (h : i_DoubleUnit a0_0 a0_1 = some r) :
    VCall Try.prog 54 [.agg [i64 a0_0, dI a0_1]] [.own true (dI r.1), .sc (i64 r.2)] := by
  unfold i_DoubleUnit at h
  refine VCall.enter Try.call54 Try.func54 rfl 9 Try.ntmps54 (by simp) [.tmp 2, .tmp 3] rfl ?_
  show VW _ _ _ (mk [(0, .val (.agg [i64 a0_0, dI a0_1]))]) _
  refine VW.ws tau_ok Sound.none [some 1, some 2, some 3] [(1, .val (.ptr [i64 a0_0, dI a0_1]))] rfl ?_ ?_
  · simp <;> simp [ieq, ilt, ile]
  refine VW.sqc fun K1 hK1 hCK1 => ?_
  obtain ⟨v2, hv2, h⟩ := bind_some h
  refine VW.ws tau_ok (Sound.none.add 5 (i_IsDoubling_ok hv2) rfl) [some 4, some 5, some 6] [(1, .val (.ptr [i64 a0_0, dI a0_1])), (6, .val (.bool (!v2)))] rfl ?_ ?_
  · simp <;> simp [ieq, ilt, ile]
  refine VW.cond rfl (fun hb3 => ?_) (fun hb3 => ?_)
  ·
    replace hb3 : v2 = false := by simpa [ieq, ilt, ile] using hb3
    rw [if_pos hb3] at h
    refine VW.ws tau_ok Sound.none [some 2, some 3] [(2, .ref 2 [] true (.list [])), (3, .val (i64 1))] rfl ?_ ?_
    · simp <;> simp [ieq, ilt, ile]
    cases h
    refine VW.ret ?_
    simp [Post, PostM, PostC, PostC2, Nx, Bk]
  replace hb3 : ¬ (v2 = false) := by simpa [ieq, ilt, ile] using hb3
  rw [if_neg hb3] at h
  refine VW.skip ?_
  refine hK1 _ ?_
  obtain ⟨v4, hv4, h⟩ := bind_some h
  refine VW.ws tau_ok (Sound.none.add 8 (i_Doubling_element_ok hv4) rfl) [some 7, some 8, some 2, some 3] [(2, .ref 2 [] true (dI v4)), (3, .val (i64 0))] rfl ?_ ?_
  · simp <;> simp [ieq, ilt, ile]
  cases h
  refine VW.ret ?_
  simp [Post, PostM, PostC, PostC2, Nx, Bk]

theorem i_Doubling_norm_ok {a0_0 : Int} {a0_1 : List Int} {a1 : List Int} {r : Int} (h : i_Doubling_norm a0_0 a0_1 a1 = some r) :
    VCall Try.prog 125 [.agg [i64 a0_0, dI a0_1], dI a1] [.sc (i64 r)] := by
  unfold i_Doubling_norm at h
  refine VCall.enter Try.call125 Try.func125 rfl 14 Try.ntmps125 (by simp) [.tmp 4] rfl ?_
  show VW _ _ _ (mk [(0, .val (.agg [i64 a0_0, dI a0_1])), (1, .val (dI a1))]) _
  refine VW.ws tau_ok Sound.none [some 2, some 4] [(1, .val (dI a1)), (2, .val (.ptr [i64 a0_0, dI a0_1]))] rfl ?_ ?_
  · simp <;> simp [ieq, ilt, ile]
  obtain ⟨v1, hv1, h⟩ := bind_some h
  obtain ⟨v2, hv2, h⟩ := bind_some h
  obtain ⟨v3, hv3, h⟩ := bind_some h
  obtain ⟨v4, hv4, h⟩ := bind_some h
  obtain ⟨hv4a, hv4b, hv4c, hv4d⟩ := idx_some hv4
  replace hv4b : 0 < v3.length := hv4b
  replace hv4c : v3[0]? = some v4 := hv4c
  replace hv4d : ∀ h, v3[0]'h = v4 := hv4d
  refine VW.wds tau_ok (((Sound.none.add 8 (i_Doubling_field_ok hv1) rfl).add 10 (i_field_conjugate_ok hv2) rfl).add 11 (i_Doubling_times_ok hv3) rfl) try_mixed [some 5, some 6, some 7, some 8, some 9, some 10, some 11, some 12, some 13, some 4] [(4, .val (i64 v4))] 10 rfl (by kernel_rfl) (by rfl) ?_ ?_
  · simp [hv4a, hv4b, hv4c, hv4d] <;> simp [ieq, ilt, ile]
  cases h
  refine VW.ret ?_
  simp [Post, PostM, PostC, PostC2, Nx, Bk]

theorem i_DoubleNorm_ok {a0_0 : Int} {a0_1 : List Int} {a1 : List Int} {r : Int × Int} (h : i_DoubleNorm a0_0 a0_1 a1 = some r) :
    VCall Try.prog 55 [.agg [i64 a0_0, dI a0_1], dI a1] [.sc (i64 r.1), .sc (i64 r.2)] := by
  unfold i_DoubleNorm at h
  refine VCall.enter Try.call55 Try.func55 rfl 17 Try.ntmps55 (by simp) [.tmp 4, .tmp 5] rfl ?_
  show VW _ _ _ (mk [(0, .val (.agg [i64 a0_0, dI a0_1])), (1, .val (dI a1))]) _
  refine VW.ws tau_ok Sound.none [some 2, some 4, some 5] [(1, .val (dI a1)), (2, .val (.ptr [i64 a0_0, dI a0_1]))] rfl ?_ ?_
  · simp <;> simp [ieq, ilt, ile]
  refine VW.sqc fun K1 hK1 hCK1 => ?_
  obtain ⟨v2, hv2, h⟩ := bind_some h
  refine VW.ws tau_ok (Sound.none.add 10 (i_checkElements_ok hv2) rfl) [some 7, some 8, some 9, some 10, some 6] [(1, .val (dI a1)), (2, .val (.ptr [i64 a0_0, dI a0_1])), (6, .val (i64 v2))] rfl ?_ ?_
  · simp <;> simp [ieq, ilt, ile]
  refine VW.ws tau_ok Sound.none [some 11, some 12] [(1, .val (dI a1)), (2, .val (.ptr [i64 a0_0, dI a0_1])), (6, .val (i64 v2)), (12, .val (.bool (!(ieq v2 0))))] rfl ?_ ?_
  · simp <;> simp [ieq, ilt, ile]
  refine VW.cond rfl (fun hb3 => ?_) (fun hb3 => ?_)
  ·
    replace hb3 : ¬ v2 = 0 := by simpa [ieq, ilt, ile] using hb3
    rw [if_pos hb3] at h
    refine VW.ws tau_ok Sound.none [some 13, some 4, some 5] [(4, .val (i64 0)), (5, .val (i64 v2))] rfl ?_ ?_
    · simp <;> simp [ieq, ilt, ile]
    cases h
    refine VW.ret ?_
    simp [Post, PostM, PostC, PostC2, Nx, Bk]
  replace hb3 : ¬ (¬ v2 = 0) := by simpa [ieq, ilt, ile] using hb3
  rw [if_neg hb3] at h
  refine VW.skip ?_
  refine hK1 _ ?_
  obtain ⟨v4, hv4, h⟩ := bind_some h
  refine VW.ws tau_ok (Sound.none.add 16 (i_Doubling_norm_ok hv4) rfl) [some 14, some 15, some 16, some 4, some 5] [(4, .val (i64 v4)), (5, .val (i64 0))] rfl ?_ ?_
  · simp <;> simp [ieq, ilt, ile]
  cases h
  refine VW.ret ?_
  simp [Post, PostM, PostC, PostC2, Nx, Bk]

theorem l_FnFixingDerivations_ok {a0 : List Int} {r : Bool} (h : l_FnFixingDerivations a0 = some r) :
    VCall Try.prog 8 [.list (a0.map (D.int .u8))] [.sc (.bool r)] := by
  unfold l_FnFixingDerivations at h
  refine VCall.enter Try.call8 Try.func8 rfl 114 Try.ntmps8 (by simp) [.tmp 2] rfl ?_
  show VW _ _ _ (mk [(0, .val (.list (a0.map (D.int .u8))))]) _
  refine VW.ws tau_ok Sound.none [some 2] [(0, .val (.list (a0.map (D.int .u8))))] rfl ?_ ?_
  · simp <;> simp [ieq, ilt, ile]
  refine VW.sqc fun K1 hK1 hCK1 => ?_
  obtain ⟨v2, hv2, h⟩ := bind_some h
  refine VW.ws tau_ok (Sound.none.add 18 (l_big_ok hv2) rfl) [some 17, some 18] [(0, .val (.list (a0.map (D.int .u8)))), (18, .val (.bool v2))] rfl ?_ ?_
  · simp <;> simp [ieq, ilt, ile]
  refine VW.cond rfl (fun hb3 => ?_) (fun hb3 => ?_)
  ·
    replace hb3 : v2 = true := by simpa [ieq, ilt, ile] using hb3
    rw [if_pos hb3] at h
    refine VW.ws tau_ok Sound.none [some 2] [(2, .val (.bool true))] rfl ?_ ?_
    · simp <;> simp [ieq, ilt, ile]
    cases h
    refine VW.ret ?_
    simp [Post, PostM, PostC, PostC2, Nx, Bk]
  replace hb3 : ¬ (v2 = true) := by simpa [ieq, ilt, ile] using hb3
  rw [if_neg hb3] at h
  refine VW.skip ?_
  refine hK1 _ ?_
  obtain ⟨v4, hv4, h⟩ := bind_some h
  refine VW.ws tau_ok (Sound.none.add 21 (s_DrawFixingDimension_ok hv4) rfl) [some 20, some 21, some 19, some 22, some 23, some 3, none, some 4] [(3, .val (.ptr [i64 v4.1.1, dI v4.1.2])), (4, .val (dI v4.2))] rfl ?_ ?_
  · simp <;> simp [ieq, ilt, ile]
  obtain ⟨v5, hv5, h⟩ := bind_some h
  refine VW.ws tau_ok (Sound.none.add 27 (i_FixingDimension_ok hv5) rfl) [some 25, some 26, some 27, some 24, some 28, some 29, some 5, some 6] [(3, .val (.ptr [i64 v4.1.1, dI v4.1.2])), (4, .val (dI v4.2)), (5, .val (i64 v5.1)), (6, .val (i64 v5.2))] rfl ?_ ?_
  · simp <;> simp [ieq, ilt, ile]
  refine VW.sqc fun K6 hK6 hCK6 => ?_
  obtain ⟨v7, hv7, h⟩ := bind_some h
  refine VW.ws tau_ok (Sound.none.add 33 (s_FixingDimension_ok hv7) rfl) [some 31, some 32, some 33, some 30, some 34, some 35, some 7, some 8] [(3, .val (.ptr [i64 v4.1.1, dI v4.1.2])), (4, .val (dI v4.2)), (5, .val (i64 v5.1)), (6, .val (i64 v5.2)), (7, .val (i64 v7.1)), (8, .val (i64 v7.2))] rfl ?_ ?_
  · simp <;> simp [ieq, ilt, ile]
  obtain ⟨x9, hx9, h⟩ := bind_some h
  refine VW.cut [(3, .val (.ptr [i64 v4.1.1, dI v4.1.2])), (4, .val (dI v4.2)), (5, .val (i64 v5.1)), (6, .val (i64 v5.2)), (43, .val (.bool x9))] ?_ fun hy => ?_
  rotate_left
  · clear h
    by_cases hp8 : ¬ v5.2 = v7.2
    · rw [if_pos hp8] at hx9
      have hp8b : ieq v5.2 v7.2 = false := by simpa [ieq, ilt, ile] using hp8
      have hp8s := hp8b
      try simp at hp8s
      cases hx9
      refine VW.ws tau_ok Sound.none [some 36, some 37, some 38, some 39, some 40, some 41, some 42, some 43] _ rfl ?_ hy
      simp [hp8b, hp8s] <;> simp [ieq, ilt, ile]
    · rw [if_neg hp8] at hx9
      have hp8b : ieq v5.2 v7.2 = true := by simpa [ieq, ilt, ile] using hp8
      have hp8s := hp8b
      try simp at hp8s
      cases hx9
      refine VW.ws tau_ok Sound.none [some 36, some 37, some 38, some 39, some 40, some 41, some 42, some 43] _ rfl ?_ hy
      simp [hp8b, hp8s] <;> simp [ieq, ilt, ile]
  refine VW.cond rfl (fun hb10 => ?_) (fun hb10 => ?_)
  ·
    replace hb10 : x9 = true := by simpa [ieq, ilt, ile] using hb10
    rw [if_pos hb10] at h
    refine VW.ws tau_ok Sound.none [some 2] [(2, .val (.bool false))] rfl ?_ ?_
    · simp <;> simp [ieq, ilt, ile]
    cases h
    refine VW.ret ?_
    simp [Post, PostM, PostC, PostC2, Nx, Bk]
  replace hb10 : ¬ (x9 = true) := by simpa [ieq, ilt, ile] using hb10
  rw [if_neg hb10] at h
  refine VW.skip ?_
  refine hK6 _ ?_
  refine VW.sqc fun K11 hK11 hCK11 => ?_
  refine VW.ws tau_ok Sound.none [some 44, some 45] [(3, .val (.ptr [i64 v4.1.1, dI v4.1.2])), (4, .val (dI v4.2)), (5, .val (i64 v5.1)), (45, .val (.bool (!(ieq v5.2 0))))] rfl ?_ ?_
  · simp <;> simp [ieq, ilt, ile]
  refine VW.cond rfl (fun hb12 => ?_) (fun hb12 => ?_)
  ·
    replace hb12 : ¬ v5.2 = 0 := by simpa [ieq, ilt, ile] using hb12
    rw [if_pos hb12] at h
    refine VW.ws tau_ok Sound.none [some 46, some 47, some 2] [(2, .val (.bool (ieq v5.1 0)))] rfl ?_ ?_
    · simp <;> simp [ieq, ilt, ile]
    cases h
    refine VW.ret ?_
    simp [Post, PostM, PostC, PostC2, Nx, Bk]
  replace hb12 : ¬ (¬ v5.2 = 0) := by simpa [ieq, ilt, ile] using hb12
  rw [if_neg hb12] at h
  refine VW.skip ?_
  refine hK11 _ ?_
  obtain ⟨v13, hv13, h⟩ := bind_some h
  refine VW.ws tau_ok (Sound.none.add 50 (i_DerivationDimension_ok hv13) rfl) [some 49, some 50, some 48, some 51, some 52, some 9, some 10] [(3, .val (.ptr [i64 v4.1.1, dI v4.1.2])), (4, .val (dI v4.2)), (5, .val (i64 v5.1)), (9, .val (i64 v13.1)), (10, .val (i64 v13.2))] rfl ?_ ?_
  · simp <;> simp [ieq, ilt, ile]
  obtain ⟨v14, hv14, h⟩ := bind_some h
  refine VW.ws tau_ok (Sound.none.add 55 (i_DoubleUnit_ok hv14) rfl) [some 54, some 55, some 53, some 56, some 57, some 11, some 12] [(3, .val (.ptr [i64 v4.1.1, dI v4.1.2])), (4, .val (dI v4.2)), (5, .val (i64 v5.1)), (9, .val (i64 v13.1)), (10, .val (i64 v13.2)), (11, .ref 11 [] true (dI v14.1)), (12, .val (i64 v14.2))] rfl ?_ ?_
  · simp <;> simp [ieq, ilt, ile]
  obtain ⟨v15, hv15, h⟩ := bind_some h
  refine VW.ws tau_ok (Sound.none.add 61 (i_FixingDimension_ok hv15) rfl) [some 59, some 60, some 61, some 58, some 62, some 63, some 13, some 14] [(3, .val (.ptr [i64 v4.1.1, dI v4.1.2])), (4, .val (dI v4.2)), (5, .val (i64 v5.1)), (9, .val (i64 v13.1)), (10, .val (i64 v13.2)), (12, .val (i64 v14.2)), (13, .val (i64 v15.1)), (14, .val (i64 v15.2))] rfl ?_ ?_
  · simp <;> simp [ieq, ilt, ile]
  obtain ⟨hc16, h⟩ := chk_some h
  have hc16s := hc16
  try simp at hc16s
  obtain ⟨hc17, h⟩ := chk_some h
  have hc17s := hc17
  try simp at hc17s
  obtain ⟨v18, hv18, h⟩ := bind_some h
  refine VW.wxs tau_ok (Sound.none.add 70 (i_DoubleNorm_ok hv18) rfl) try_mixed [some 65, some 66, some 67, some 68, some 69, some 70, some 64, some 71, some 72, some 15, some 16] [(3, .val (.ptr [i64 v4.1.1, dI v4.1.2])), (5, .val (i64 v5.1)), (9, .val (i64 v13.1)), (10, .val (i64 v13.2)), (12, .val (i64 v14.2)), (13, .val (i64 v15.1)), (14, .val (i64 v15.2)), (15, .val (i64 v18.1)), (16, .val (i64 v18.2))] [1, 0, 0, 0, 2, 3, 0, 0, 1, 2, 3] [[3], [], [4], [67], [66, 68], [65, 69], [70], [64], [64], [71], [72]] [66, 69] rfl rfl (by kernel_rfl) (by rfl) ?_ ?_
  · simp [hc16, hc16s, hc17, hc17s] <;> simp [ieq, ilt, ile]
  refine VW.sqc fun K19 hK19 hCK19 => ?_
  obtain ⟨x25, hx25, h⟩ := bind_some h
  refine VW.cut [(3, .val (.ptr [i64 v4.1.1, dI v4.1.2])), (5, .val (i64 v5.1)), (15, .val (i64 v18.1)), (96, .val (.bool x25))] ?_ fun hy => ?_
  rotate_left
  · clear h
    by_cases hp20 : ¬ v13.2 = 0
    · rw [if_pos hp20] at hx25
      have hp20b : ieq v13.2 0 = false := by simpa [ieq, ilt, ile] using hp20
      have hp20s := hp20b
      try simp at hp20s
      cases hx25
      refine VW.ws tau_ok Sound.none [some 73, some 74, some 75, some 76, some 77, some 78, some 79, some 80, some 81, some 82, some 83, some 84, some 85, some 86, some 87, some 88, some 89, some 90, some 91, some 92, some 93, some 94, some 95, some 96] _ rfl ?_ hy
      simp [hp20b, hp20s] <;> simp [ieq, ilt, ile]
    · rw [if_neg hp20] at hx25
      have hp20b : ieq v13.2 0 = true := by simpa [ieq, ilt, ile] using hp20
      have hp20s := hp20b
      try simp at hp20s
      by_cases hp21 : ¬ v14.2 = 0
      · rw [if_pos hp21] at hx25
        have hp21b : ieq v14.2 0 = false := by simpa [ieq, ilt, ile] using hp21
        have hp21s := hp21b
        try simp at hp21s
        cases hx25
        refine VW.ws tau_ok Sound.none [some 73, some 74, some 75, some 76, some 77, some 78, some 79, some 80, some 81, some 82, some 83, some 84, some 85, some 86, some 87, some 88, some 89, some 90, some 91, some 92, some 93, some 94, some 95, some 96] _ rfl ?_ hy
        simp [hp20b, hp20s, hp21b, hp21s] <;> simp [ieq, ilt, ile]
      · rw [if_neg hp21] at hx25
        have hp21b : ieq v14.2 0 = true := by simpa [ieq, ilt, ile] using hp21
        have hp21s := hp21b
        try simp at hp21s
        by_cases hp22 : ¬ v15.2 = 0
        · rw [if_pos hp22] at hx25
          have hp22b : ieq v15.2 0 = false := by simpa [ieq, ilt, ile] using hp22
          have hp22s := hp22b
          try simp at hp22s
          cases hx25
          refine VW.ws tau_ok Sound.none [some 73, some 74, some 75, some 76, some 77, some 78, some 79, some 80, some 81, some 82, some 83, some 84, some 85, some 86, some 87, some 88, some 89, some 90, some 91, some 92, some 93, some 94, some 95, some 96] _ rfl ?_ hy
          simp [hp20b, hp20s, hp21b, hp21s, hp22b, hp22s] <;> simp [ieq, ilt, ile]
        · rw [if_neg hp22] at hx25
          have hp22b : ieq v15.2 0 = true := by simpa [ieq, ilt, ile] using hp22
          have hp22s := hp22b
          try simp at hp22s
          by_cases hp23 : ¬ v18.2 = 0
          · rw [if_pos hp23] at hx25
            have hp23b : ieq v18.2 0 = false := by simpa [ieq, ilt, ile] using hp23
            have hp23s := hp23b
            try simp at hp23s
            cases hx25
            refine VW.ws tau_ok Sound.none [some 73, some 74, some 75, some 76, some 77, some 78, some 79, some 80, some 81, some 82, some 83, some 84, some 85, some 86, some 87, some 88, some 89, some 90, some 91, some 92, some 93, some 94, some 95, some 96] _ rfl ?_ hy
            simp [hp20b, hp20s, hp21b, hp21s, hp22b, hp22s, hp23b, hp23s] <;> simp [ieq, ilt, ile]
          · rw [if_neg hp23] at hx25
            have hp23b : ieq v18.2 0 = true := by simpa [ieq, ilt, ile] using hp23
            have hp23s := hp23b
            try simp at hp23s
            by_cases hp24 : v13.1 < v5.1
            · rw [if_pos hp24] at hx25
              have hp24b : ilt v13.1 v5.1 = true := by simpa [ieq, ilt, ile] using hp24
              have hp24s := hp24b
              try simp at hp24s
              cases hx25
              refine VW.ws tau_ok Sound.none [some 73, some 74, some 75, some 76, some 77, some 78, some 79, some 80, some 81, some 82, some 83, some 84, some 85, some 86, some 87, some 88, some 89, some 90, some 91, some 92, some 93, some 94, some 95, some 96] _ rfl ?_ hy
              simp [hp20b, hp20s, hp21b, hp21s, hp22b, hp22s, hp23b, hp23s, hp24b, hp24s] <;> simp [ieq, ilt, ile]
            · rw [if_neg hp24] at hx25
              have hp24b : ilt v13.1 v5.1 = false := by simpa [ieq, ilt, ile] using hp24
              have hp24s := hp24b
              try simp at hp24s
              cases hx25
              refine VW.ws tau_ok Sound.none [some 73, some 74, some 75, some 76, some 77, some 78, some 79, some 80, some 81, some 82, some 83, some 84, some 85, some 86, some 87, some 88, some 89, some 90, some 91, some 92, some 93, some 94, some 95, some 96] _ rfl ?_ hy
              simp [hp20b, hp20s, hp21b, hp21s, hp22b, hp22s, hp23b, hp23s, hp24b, hp24s] <;> simp [ieq, ilt, ile]
  refine VW.cond rfl (fun hb26 => ?_) (fun hb26 => ?_)
  ·
    replace hb26 : x25 = true := by simpa [ieq, ilt, ile] using hb26
    rw [if_pos hb26] at h
    refine VW.ws tau_ok Sound.none [some 2] [(2, .val (.bool false))] rfl ?_ ?_
    · simp <;> simp [ieq, ilt, ile]
    cases h
    refine VW.ret ?_
    simp [Post, PostM, PostC, PostC2, Nx, Bk]
  replace hb26 : ¬ (x25 = true) := by simpa [ieq, ilt, ile] using hb26
  rw [if_neg hb26] at h
  refine VW.skip ?_
  refine hK19 _ ?_
  obtain ⟨x30, hx30, h⟩ := bind_some h
  refine VW.cut [(2, .val (.bool x30))] ?_ fun hy => ?_
  rotate_left
  · clear h
    by_cases hp27 : ¬ (v4.1.2.length : Int) = 3
    · rw [if_pos hp27] at hx30
      have hp27b : ieq (v4.1.2.length : Int) 3 = false := by simpa [ieq, ilt, ile] using hp27
      have hp27s := hp27b
      try simp at hp27s
      cases hx30
      refine VW.ws tau_ok Sound.none [some 97, some 98, some 99, some 100, some 101, some 102, some 103, some 104, some 105, some 106, some 107, some 108, some 109, some 110, some 111, some 112, some 113, some 2] _ rfl ?_ hy
      simp [hp27b, hp27s] <;> simp [ieq, ilt, ile]
    · rw [if_neg hp27] at hx30
      have hp27b : ieq (v4.1.2.length : Int) 3 = true := by simpa [ieq, ilt, ile] using hp27
      have hp27s := hp27b
      try simp at hp27s
      by_cases hp28 : v4.1.1 = 3
      · rw [if_pos hp28] at hx30
        have hp28b : ieq v4.1.1 3 = true := by simpa [ieq, ilt, ile] using hp28
        have hp28s := hp28b
        try simp at hp28s
        cases hx30
        refine VW.ws tau_ok Sound.none [some 97, some 98, some 99, some 100, some 101, some 102, some 103, some 104, some 105, some 106, some 107, some 108, some 109, some 110, some 111, some 112, some 113, some 2] _ rfl ?_ hy
        simp [hp27b, hp27s, hp28b, hp28s] <;> simp [ieq, ilt, ile]
      · rw [if_neg hp28] at hx30
        have hp28b : ieq v4.1.1 3 = false := by simpa [ieq, ilt, ile] using hp28
        have hp28s := hp28b
        try simp at hp28s
        by_cases hp29 : v18.1 = 0
        · rw [if_pos hp29] at hx30
          have hp29b : ieq v18.1 0 = true := by simpa [ieq, ilt, ile] using hp29
          have hp29s := hp29b
          try simp at hp29s
          cases hx30
          refine VW.ws tau_ok Sound.none [some 97, some 98, some 99, some 100, some 101, some 102, some 103, some 104, some 105, some 106, some 107, some 108, some 109, some 110, some 111, some 112, some 113, some 2] _ rfl ?_ hy
          simp [hp27b, hp27s, hp28b, hp28s, hp29b, hp29s] <;> simp [ieq, ilt, ile]
        · rw [if_neg hp29] at hx30
          have hp29b : ieq v18.1 0 = false := by simpa [ieq, ilt, ile] using hp29
          have hp29s := hp29b
          try simp at hp29s
          cases hx30
          refine VW.ws tau_ok Sound.none [some 97, some 98, some 99, some 100, some 101, some 102, some 103, some 104, some 105, some 106, some 107, some 108, some 109, some 110, some 111, some 112, some 113, some 2] _ rfl ?_ hy
          simp [hp27b, hp27s, hp28b, hp28s, hp29b, hp29s] <;> simp [ieq, ilt, ile]
  cases h
  refine VW.ret ?_
  simp [Post, PostM, PostC, PostC2, Nx, Bk]
end Go.Vam
