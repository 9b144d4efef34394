import Derived.Test.YtcijfjeeggfgmaaR8T
import Derived.Test.YtcijfjeeggfgmaaFnP
import Derived.Test.YtcijfjeeggfgmaaR8CW1
namespace Go.Vam
open Go Go.RowKit Go.Proofs
set_option maxRecDepth 100000
set_option linter.unusedSimpArgs false
set_option linter.unusedVariables false

set_option maxHeartbeats 4000000 in
theorem i_field_characteristic_ok {a0 : Int} {a1 : List (List Int)} {r : List Int} (h : i_field_characteristic a0 a1 = some r) :
    VCall Try.prog 146 [i64 a0, dM a1] [.own true (dI r)] := by
  unfold i_field_characteristic at h
  refine VCall.enter Try.call146 Try.func146 rfl 260 Try.ntmps146 (by simp) [.tmp 4] rfl ?_
  show VW _ _ _ (mk [(0, .val (i64 a0)), (1, .val (dM a1))]) _
  -- region 0
  refine VW.ws tau_ok Sound.none [some 4] [(0, .val (i64 a0)), (1, .val (dM a1))] rfl ?_ ?_
  · simp <;> simp [ieq, ilt, ile]
  -- region 1
  refine VW.ws tau_ok Sound.none [some 19, some 20, some 5] [(0, .val (i64 a0)), (1, .val (dM a1)), (5, .val (i64 (a1.length : Int)))] rfl ?_ ?_
  · simp <;> simp [ieq, ilt, ile]
  -- region 2
  obtain ⟨hc1, h⟩ := chk_some h
  have hc1s := hc1
  try simp at hc1s
  refine VW.ws tau_ok Sound.none [some 21, some 22, some 23, some 6] [(0, .val (i64 a0)), (1, .val (dM a1)), (5, .val (i64 (a1.length : Int))), (6, .ref 6 [] true (dI (List.replicate (w64 ((a1.length : Int) + 1)).toNat 0)))] rfl ?_ ?_
  · simp [hc1, hc1s] <;> simp [ieq, ilt, ile]
  -- region 3
  obtain ⟨v2, hv2, h⟩ := bind_some h
  refine VW.ws tau_ok (Sound.none.add 25 (i_cloneRows_ok hv2) rfl) [some 24, some 25, some 7] [(0, .val (i64 a0)), (5, .val (i64 (a1.length : Int))), (6, .ref 6 [] true (dI (List.replicate (w64 ((a1.length : Int) + 1)).toNat 0))), (7, .ref 7 [] true (dM v2))] rfl ?_ ?_
  · simp <;> simp [ieq, ilt, ile]
  refine VW.sqc fun K3 hK3 hCK3 => ?_
  -- region 4
  refine VW.ws tau_ok Sound.none [some 8] [(0, .val (i64 a0)), (5, .val (i64 (a1.length : Int))), (6, .ref 6 [] true (dI (List.replicate (w64 ((a1.length : Int) + 1)).toNat 0))), (7, .ref 7 [] true (dM v2)), (8, .val (i64 1))] rfl ?_ ?_
  · simp <;> simp [ieq, ilt, ile]
  obtain ⟨x4, hx4, h⟩ := bind_some h
  refine VW.tlE [(0, .val (i64 a0)), (5, .val (i64 (a1.length : Int))), (6, .ref 6 [] true (dI (List.replicate (w64 ((a1.length : Int) + 1)).toNat 0))), (7, .ref 7 [] true (dM x4))] (hCK3) ?_ ?_
  · clear hx4
    refine hK3 _ ?_
    -- region 27
    refine VW.ws tau_ok Sound.none [some 172, some 173, some 14] [(0, .val (i64 a0)), (5, .val (i64 (a1.length : Int))), (6, .ref 6 [] true (dI (List.replicate (w64 ((a1.length : Int) + 1)).toNat 0))), (7, .ref 7 [] true (dM x4)), (14, .ref 14 [] true (dM [[1]]))] rfl ?_ ?_
    · simp <;> simp [ieq, ilt, ile]
    refine VW.sqc fun K56 hK56 hCK56 => ?_
    -- region 28
    refine VW.ws tau_ok Sound.none [some 15] [(0, .val (i64 a0)), (5, .val (i64 (a1.length : Int))), (6, .ref 6 [] true (dI (List.replicate (w64 ((a1.length : Int) + 1)).toNat 0))), (7, .ref 7 [] true (dM x4)), (14, .ref 14 [] true (dM [[1]])), (15, .val (i64 1))] rfl ?_ ?_
    · simp <;> simp [ieq, ilt, ile]
    obtain ⟨x57, hx57, h⟩ := bind_some h
    refine VW.tlE [(5, .val (i64 (a1.length : Int))), (6, .ref 6 [] true (dI (List.replicate (w64 ((a1.length : Int) + 1)).toNat 0))), (14, .ref 14 [] true (dM x57))] (hCK56) ?_ ?_
    · clear hx57
      refine hK56 _ ?_
      -- region 40
      obtain ⟨v81, hv81, h⟩ := bind_some h
      obtain ⟨hv81a, hv81b, hv81c, hv81d⟩ := idx_some hv81
      replace hv81b : a1.length < x57.length := hv81b
      replace hv81c : x57[a1.length]? = some v81 := hv81c
      replace hv81d : ∀ h, x57[a1.length]'h = v81 := hv81d
      refine VW.mid tau_ok Sound.none [some 253, some 254, some 255, some 256, some 257, some 258] 5 [(6, .ref 6 [] true (dI (List.replicate (w64 ((a1.length : Int) + 1)).toNat 0))), (253, .ref 6 [] true (dI (List.replicate (w64 ((a1.length : Int) + 1)).toNat 0))), (257, .ref 14 [(a1.length : Int).toNat] true (dI v81))] _ (fun _ => [(6, .ref 6 [] true (dI (v81.take (List.replicate (w64 ((a1.length : Int) + 1)).toNat 0).length ++ (List.replicate (w64 ((a1.length : Int) + 1)).toNat 0).drop v81.length)))]) (fun _ => True) _ rfl rfl rfl ?_ (step_copy tau_ok rfl rfl (by simp) (sz := 6) (by simp) rfl rfl rfl (by simp) rfl rfl (by simp [D.sc]) (by simp [D.sc])) (fun _ _ => ?_) (fun _ _ => ?_)
      · simp [hv81a, hv81b, hv81c, hv81d] <;> simp [ieq, ilt, ile]
      · simp [hv81a, hv81b, hv81c, hv81d] <;> simp [ieq, ilt, ile]
      -- region 41
      refine VW.ws tau_ok Sound.none [some 259, some 4] [(4, .ref 4 [] true (dI (v81.take (List.replicate (w64 ((a1.length : Int) + 1)).toNat 0).length ++ (List.replicate (w64 ((a1.length : Int) + 1)).toNat 0).drop v81.length)))] rfl ?_ ?_
      · simp <;> simp [ieq, ilt, ile]
      cases h
      refine VW.ret ?_
      simp [Post, PostM, PostC, PostC2, Nx, Bk]
    refine VW.block ?_
    refine VW.loopF (i_field_characteristic_L5 a0 a1 x4) (fun s57 => [(0, .val (i64 a0)), (5, .val (i64 (a1.length : Int))), (6, .ref 6 [] true (dI (List.replicate (w64 ((a1.length : Int) + 1)).toNat 0))), (7, .ref 7 [] true (dM x4)), (14, .ref 14 [] true (dM s57.1)), (15, .val (i64 s57.2))]) hx57 (Fits.of rfl) ?_
    clear hx57
    intro s57 ox57 hx57o hx57b
    unfold i_field_characteristic_L5 at hx57o
    refine VW.sqc fun K59 hK59 hCK59 => ?_
    -- region 29
    refine VW.ws tau_ok Sound.none [some 174, some 175, some 176] [(0, .val (i64 a0)), (5, .val (i64 (a1.length : Int))), (6, .ref 6 [] true (dI (List.replicate (w64 ((a1.length : Int) + 1)).toNat 0))), (7, .ref 7 [] true (dM x4)), (14, .ref 14 [] true (dM s57.1)), (15, .val (i64 s57.2)), (176, .val (.bool (ile s57.2 (a1.length : Int))))] rfl ?_ ?_
    · simp <;> simp [ieq, ilt, ile]
    refine VW.cond rfl (fun hb60 => ?_) (fun hb60 => ?_)
    rotate_left
    ·
      replace hb60 : ¬ (s57.2 ≤ (a1.length : Int)) := by simpa [ieq, ilt, ile] using hb60
      rw [if_neg hb60] at hx57o
      refine VW.exit ?_
      cases hx57o
      have hq := hx57b _ rfl
      subst hq
      exact Fits.of rfl
    replace hb60 : s57.2 ≤ (a1.length : Int) := by simpa [ieq, ilt, ile] using hb60
    rw [if_pos hb60] at hx57o
    refine VW.skip ?_
    refine hK59 _ ?_
    refine VW.sqc fun K61 hK61 hCK61 => ?_
    refine VW.block ?_
    -- region 31
    obtain ⟨v62, hv62, hx57o⟩ := bind_some hx57o
    obtain ⟨hv62a, hv62b, hv62c, hv62d⟩ := idx_some hv62
    obtain ⟨hc63, hx57o⟩ := chk_some hx57o
    have hc63s := hc63
    try simp at hc63s
    refine VW.ws tau_ok Sound.none [some 179, some 180, some 181, some 182, some 183, some 184, some 185, some 16] [(0, .val (i64 a0)), (5, .val (i64 (a1.length : Int))), (6, .ref 6 [] true (dI (List.replicate (w64 ((a1.length : Int) + 1)).toNat 0))), (7, .ref 7 [] true (dM x4)), (14, .ref 14 [] true (dM s57.1)), (15, .val (i64 s57.2)), (16, .ref 16 [] true (dI ([0] ++ v62)))] rfl ?_ ?_
    · simp [hv62a, hv62b, hv62c, hv62d, hc63, hc63s] <;> simp [ieq, ilt, ile]
    -- region 32
    obtain ⟨v64, hv64, hx57o⟩ := bind_some hx57o
    obtain ⟨hv64a, hv64b, hv64c, hv64d⟩ := idx_some hv64
    obtain ⟨v65, hv65, hx57o⟩ := bind_some hx57o
    obtain ⟨hv65a, hv65b, hv65c, hv65d⟩ := idx_some hv65
    obtain ⟨v66, hv66, hx57o⟩ := bind_some hx57o
    refine VW.wds tau_ok (Sound.none.add 203 (i_field_added_ok hv66) rfl) try_mixed [some 186, some 187, some 188, some 189, some 190, some 191, some 192, some 193, some 194, some 195, some 196, some 197, some 198, some 199, some 200, some 201, some 202, some 203, some 16] [(0, .val (i64 a0)), (5, .val (i64 (a1.length : Int))), (6, .ref 6 [] true (dI (List.replicate (w64 ((a1.length : Int) + 1)).toNat 0))), (7, .ref 7 [] true (dM x4)), (14, .ref 14 [] true (dM s57.1)), (15, .val (i64 s57.2)), (16, .ref 16 [] true (dI v66))] 18 rfl (by kernel_rfl) (by rfl) ?_ ?_
    · simp [hv62a, hv62b, hv62c, hv62d, hv64a, hv64b, hv64c, hv64d, hv65a, hv65b, hv65c, hv65d] <;> simp [ieq, ilt, ile]
    -- region 33
    refine VW.ws tau_ok Sound.none [some 17] [(0, .val (i64 a0)), (5, .val (i64 (a1.length : Int))), (6, .ref 6 [] true (dI (List.replicate (w64 ((a1.length : Int) + 1)).toNat 0))), (7, .ref 7 [] true (dM x4)), (14, .ref 14 [] true (dM s57.1)), (15, .val (i64 s57.2)), (16, .ref 16 [] true (dI v66)), (17, .val (i64 1))] rfl ?_ ?_
    · simp <;> simp [ieq, ilt, ile]
    refine VW.sqc fun K67 hK67 hCK67 => ?_
    -- region 34
    refine VW.ws tau_ok Sound.none [some 18] [(0, .val (i64 a0)), (5, .val (i64 (a1.length : Int))), (6, .ref 6 [] true (dI (List.replicate (w64 ((a1.length : Int) + 1)).toNat 0))), (7, .ref 7 [] true (dM x4)), (14, .ref 14 [] true (dM s57.1)), (15, .val (i64 s57.2)), (16, .ref 16 [] true (dI v66)), (17, .val (i64 1)), (18, .val (i64 1))] rfl ?_ ?_
    · simp <;> simp [ieq, ilt, ile]
    obtain ⟨x68, hx68, hx57o⟩ := bind_some hx57o
    refine VW.tlE [(0, .val (i64 a0)), (5, .val (i64 (a1.length : Int))), (6, .ref 6 [] true (dI (List.replicate (w64 ((a1.length : Int) + 1)).toNat 0))), (7, .ref 7 [] true (dM x4)), (14, .ref 14 [] true (dM s57.1)), (15, .val (i64 s57.2)), (16, .ref 16 [] true (dI x68))] (hCK67) ?_ ?_
    · clear hx68
      refine hK67 _ ?_
      -- region 39
      obtain ⟨hc80, hx57o⟩ := chk_some hx57o
      have hc80s := hc80
      try simp at hc80s
      refine VW.wr tau_ok Sound.none [some 249, some 250, some 251, some 252, some 14] [(0, .val (i64 a0)), (5, .val (i64 (a1.length : Int))), (6, .ref 6 [] true (dI (List.replicate (w64 ((a1.length : Int) + 1)).toNat 0))), (7, .ref 7 [] true (dM x4)), (14, .ref 14 [] true (dM (s57.1 ++ [x68]))), (15, .val (i64 s57.2))] rfl ?_ ?_
      · simp [hc80, hc80s] <;> simp [ieq, ilt, ile]
      refine hK61 _ ?_
      -- region 30
      refine VW.wr tau_ok Sound.none [some 177, some 178, some 15] [(0, .val (i64 a0)), (5, .val (i64 (a1.length : Int))), (6, .ref 6 [] true (dI (List.replicate (w64 ((a1.length : Int) + 1)).toNat 0))), (7, .ref 7 [] true (dM x4)), (14, .ref 14 [] true (dM (s57.1 ++ [x68]))), (15, .val (i64 (w64 (s57.2 + 1))))] rfl ?_ ?_
      · simp <;> simp [ieq, ilt, ile]
      cases hx57o
      exact ⟨_, rfl, Fits.of rfl⟩
    refine VW.block ?_
    refine VW.loopF (i_field_characteristic_L6 a0 x4 s57) (fun s68 => [(0, .val (i64 a0)), (5, .val (i64 (a1.length : Int))), (6, .ref 6 [] true (dI (List.replicate (w64 ((a1.length : Int) + 1)).toNat 0))), (7, .ref 7 [] true (dM x4)), (14, .ref 14 [] true (dM s57.1)), (15, .val (i64 s57.2)), (16, .ref 16 [] true (dI s68.1)), (17, .val (i64 s68.2.1)), (18, .val (i64 s68.2.2))]) hx68 (Fits.of rfl) ?_
    clear hx68
    intro s68 ox68 hx68o hx68b
    unfold i_field_characteristic_L6 at hx68o
    refine VW.sqc fun K70 hK70 hCK70 => ?_
    -- region 35
    refine VW.ws tau_ok Sound.none [some 204, some 205, some 206] [(0, .val (i64 a0)), (5, .val (i64 (a1.length : Int))), (6, .ref 6 [] true (dI (List.replicate (w64 ((a1.length : Int) + 1)).toNat 0))), (7, .ref 7 [] true (dM x4)), (14, .ref 14 [] true (dM s57.1)), (15, .val (i64 s57.2)), (16, .ref 16 [] true (dI s68.1)), (17, .val (i64 s68.2.1)), (18, .val (i64 s68.2.2)), (206, .val (.bool (ilt s68.2.2 s57.2)))] rfl ?_ ?_
    · simp <;> simp [ieq, ilt, ile]
    refine VW.cond rfl (fun hb71 => ?_) (fun hb71 => ?_)
    rotate_left
    ·
      replace hb71 : ¬ (s68.2.2 < s57.2) := by simpa [ieq, ilt, ile] using hb71
      rw [if_neg hb71] at hx68o
      refine VW.exit ?_
      cases hx68o
      have hq := hx68b _ rfl
      subst hq
      exact Fits.of rfl
    replace hb71 : s68.2.2 < s57.2 := by simpa [ieq, ilt, ile] using hb71
    rw [if_pos hb71] at hx68o
    refine VW.skip ?_
    refine hK70 _ ?_
    refine VW.sqc fun K72 hK72 hCK72 => ?_
    refine VW.block ?_
    -- region 37
    obtain ⟨v73, hv73, hx68o⟩ := bind_some hx68o
    obtain ⟨hv73a, hv73b, hv73c, hv73d⟩ := idx_some hv73
    obtain ⟨v74, hv74, hx68o⟩ := bind_some hx68o
    obtain ⟨hv74a, hv74b, hv74c, hv74d⟩ := idx_some hv74
    obtain ⟨v75, hv75, hx68o⟩ := bind_some hx68o
    refine VW.ws tau_ok (Sound.none.add 224 (i_field_num_ok hv75) rfl) [some 209, some 210, some 211, some 212, some 213, some 214, some 215, some 216, some 217, some 218, some 219, some 220, some 221, some 222, some 223, some 224, some 17] [(0, .val (i64 a0)), (5, .val (i64 (a1.length : Int))), (6, .ref 6 [] true (dI (List.replicate (w64 ((a1.length : Int) + 1)).toNat 0))), (7, .ref 7 [] true (dM x4)), (14, .ref 14 [] true (dM s57.1)), (15, .val (i64 s57.2)), (16, .ref 16 [] true (dI s68.1)), (17, .val (i64 v75)), (18, .val (i64 s68.2.2))] rfl ?_ ?_
    · simp [hv73a, hv73b, hv73c, hv73d, hv74a, hv74b, hv74c, hv74d] <;> simp [ieq, ilt, ile]
    -- region 38
    obtain ⟨v76, hv76, hx68o⟩ := bind_some hx68o
    obtain ⟨hv76a, hv76b, hv76c, hv76d⟩ := idx_some hv76
    obtain ⟨v77, hv77, hx68o⟩ := bind_some hx68o
    obtain ⟨hv77a, hv77b, hv77c, hv77d⟩ := idx_some hv77
    obtain ⟨v78, hv78, hx68o⟩ := bind_some hx68o
    obtain ⟨hv78a, hv78b, hv78c, hv78d⟩ := idx_some hv78
    obtain ⟨v79, hv79, hx68o⟩ := bind_some hx68o
    refine VW.wdr tau_ok (Sound.none.add 248 (i_field_added_ok hv79) rfl) try_mixed [some 225, some 226, some 227, some 228, some 229, some 230, some 231, some 232, some 233, some 234, some 235, some 236, some 237, some 238, some 239, some 240, some 241, some 242, some 243, some 244, some 245, some 246, some 247, some 248, some 16] [(0, .val (i64 a0)), (5, .val (i64 (a1.length : Int))), (6, .ref 6 [] true (dI (List.replicate (w64 ((a1.length : Int) + 1)).toNat 0))), (7, .ref 7 [] true (dM x4)), (14, .ref 14 [] true (dM s57.1)), (15, .val (i64 s57.2)), (16, .ref 16 [] true (dI v79)), (17, .val (i64 v75)), (18, .val (i64 s68.2.2))] 24 rfl (by kernel_rfl) (by rfl) ?_ ?_
    · simp [hv76a, hv76b, hv76c, hv76d, hv77a, hv77b, hv77c, hv77d, hv78a, hv78b, hv78c, hv78d] <;> simp [ieq, ilt, ile]
    refine hK72 _ ?_
    -- region 36
    refine VW.wr tau_ok Sound.none [some 207, some 208, some 18] [(0, .val (i64 a0)), (5, .val (i64 (a1.length : Int))), (6, .ref 6 [] true (dI (List.replicate (w64 ((a1.length : Int) + 1)).toNat 0))), (7, .ref 7 [] true (dM x4)), (14, .ref 14 [] true (dM s57.1)), (15, .val (i64 s57.2)), (16, .ref 16 [] true (dI v79)), (17, .val (i64 v75)), (18, .val (i64 (w64 (s68.2.2 + 1))))] rfl ?_ ?_
    · simp <;> simp [ieq, ilt, ile]
    cases hx68o
    exact ⟨_, rfl, Fits.of rfl⟩
  refine VW.block ?_
  refine VW.loopF (i_field_characteristic_L0 a0 a1) (fun s4 => [(0, .val (i64 a0)), (5, .val (i64 (a1.length : Int))), (6, .ref 6 [] true (dI (List.replicate (w64 ((a1.length : Int) + 1)).toNat 0))), (7, .ref 7 [] true (dM s4.1)), (8, .val (i64 s4.2))]) hx4 (Fits.of rfl) ?_
  clear hx4
  intro s4 ox4 hx4o hx4b
  unfold i_field_characteristic_L0 at hx4o
  refine VW.sqc fun K6 hK6 hCK6 => ?_
  -- region 5
  refine VW.ws tau_ok Sound.none [some 26, some 27, some 28, some 29] [(0, .val (i64 a0)), (5, .val (i64 (a1.length : Int))), (6, .ref 6 [] true (dI (List.replicate (w64 ((a1.length : Int) + 1)).toNat 0))), (7, .ref 7 [] true (dM s4.1)), (8, .val (i64 s4.2)), (29, .val (.bool (ilt s4.2 (w64 ((a1.length : Int) - 1)))))] rfl ?_ ?_
  · simp <;> simp [ieq, ilt, ile]
  refine VW.cond rfl (fun hb7 => ?_) (fun hb7 => ?_)
  rotate_left
  ·
    replace hb7 : ¬ (s4.2 < (w64 ((a1.length : Int) - 1))) := by simpa [ieq, ilt, ile] using hb7
    rw [if_neg hb7] at hx4o
    refine VW.exit ?_
    cases hx4o
    have hq := hx4b _ rfl
    subst hq
    exact Fits.of rfl
  replace hb7 : s4.2 < (w64 ((a1.length : Int) - 1)) := by simpa [ieq, ilt, ile] using hb7
  rw [if_pos hb7] at hx4o
  refine VW.skip ?_
  refine hK6 _ ?_
  refine VW.sqc fun K8 hK8 hCK8 => ?_
  obtain ⟨x9, hx9, hx4o⟩ := bind_some hx4o
  refine VW.tlE [(0, .val (i64 a0)), (5, .val (i64 (a1.length : Int))), (6, .ref 6 [] true (dI (List.replicate (w64 ((a1.length : Int) + 1)).toNat 0))), (7, .ref 7 [] true (dM x9)), (8, .val (i64 s4.2))] (hCK8) ?_ ?_
  · clear hx9
    refine hK8 _ ?_
    -- region 6
    refine VW.wr tau_ok Sound.none [some 30, some 31, some 8] [(0, .val (i64 a0)), (5, .val (i64 (a1.length : Int))), (6, .ref 6 [] true (dI (List.replicate (w64 ((a1.length : Int) + 1)).toNat 0))), (7, .ref 7 [] true (dM x9)), (8, .val (i64 (w64 (s4.2 + 1))))] rfl ?_ ?_
    · simp <;> simp [ieq, ilt, ile]
    cases hx4o
    exact ⟨_, rfl, Fits.of rfl⟩
  refine VW.block ?_
  -- region 7
  refine VW.ws tau_ok Sound.none [some 32, some 9] [(0, .val (i64 a0)), (5, .val (i64 (a1.length : Int))), (6, .ref 6 [] true (dI (List.replicate (w64 ((a1.length : Int) + 1)).toNat 0))), (7, .ref 7 [] true (dM s4.1)), (8, .val (i64 s4.2)), (9, .val (i64 s4.2))] rfl ?_ ?_
  · simp <;> simp [ieq, ilt, ile]
  refine VW.sqc fun K11 hK11 hCK11 => ?_
  obtain ⟨x12, hx12, hx9⟩ := bind_some hx9
  refine VW.tlE [(0, .val (i64 a0)), (5, .val (i64 (a1.length : Int))), (6, .ref 6 [] true (dI (List.replicate (w64 ((a1.length : Int) + 1)).toNat 0))), (7, .ref 7 [] true (dM s4.1)), (8, .val (i64 s4.2)), (9, .val (i64 x12))] (hCK11) ?_ ?_
  · clear hx12
    refine hK11 _ ?_
    refine VW.sqc fun K20 hK20 hCK20 => ?_
    -- region 10
    refine VW.ws tau_ok Sound.none [some 49, some 50, some 51] [(0, .val (i64 a0)), (5, .val (i64 (a1.length : Int))), (6, .ref 6 [] true (dI (List.replicate (w64 ((a1.length : Int) + 1)).toNat 0))), (7, .ref 7 [] true (dM s4.1)), (8, .val (i64 s4.2)), (9, .val (i64 x12)), (51, .val (.bool (ieq x12 (a1.length : Int))))] rfl ?_ ?_
    · simp <;> simp [ieq, ilt, ile]
    refine VW.cond rfl (fun hb21 => ?_) (fun hb21 => ?_)
    ·
      replace hb21 : x12 = (a1.length : Int) := by simpa [ieq, ilt, ile] using hb21
      rw [if_pos hb21] at hx9
      refine VW.exit ?_
      cases hx9
      exact Fits.of rfl
    replace hb21 : ¬ (x12 = (a1.length : Int)) := by simpa [ieq, ilt, ile] using hb21
    rw [if_neg hb21] at hx9
    refine VW.skip ?_
    refine hK20 _ ?_
    -- region 11
    obtain ⟨v22, hv22, hx9⟩ := bind_some hx9
    obtain ⟨hv22a, hv22b, hv22c, hv22d⟩ := idx_some hv22
    obtain ⟨v23, hv23, hx9⟩ := bind_some hx9
    obtain ⟨hv23a, hv23b, hv23c, hv23d⟩ := idx_some hv23
    have hv22z := hv22b
    try simp [hv22a] at hv22z
    have hv23z := hv23b
    try simp [hv23a] at hv23z
    obtain ⟨v24, hv24, hx9⟩ := bind_some hx9
    obtain ⟨hv24a, hv24b, hv24c, hv24d⟩ := idx_some hv24
    have hv24s := hv24b
    try simp at hv24s
    refine VW.wds tau_ok Sound.none try_mixed [some 52, some 53, some 54, some 55, some 56, some 57, some 58, some 59, some 60, some 61, some 62, some 63, some 64, none, some 65, none] [(0, .val (i64 a0)), (5, .val (i64 (a1.length : Int))), (6, .ref 6 [] true (dI (List.replicate (w64 ((a1.length : Int) + 1)).toNat 0))), (7, .ref 7 [] true (dM ((s4.1.set x12.toNat v22).set s4.2.toNat v23))), (8, .val (i64 s4.2)), (9, .val (i64 x12))] 13 rfl (by kernel_rfl) (by rfl) ?_ ?_
    · simp [hv22a, hv22b, hv22c, hv22d, hv23a, hv23b, hv23c, hv23d, hv22z, hv23z, hv24a, hv24b, hv24c, hv24d, hv24s] <;> simp [ieq, ilt, ile]
    refine VW.sqc fun K25 hK25 hCK25 => ?_
    -- region 12
    refine VW.ws tau_ok Sound.none [some 66, some 67, some 68] [(0, .val (i64 a0)), (5, .val (i64 (a1.length : Int))), (6, .ref 6 [] true (dI (List.replicate (w64 ((a1.length : Int) + 1)).toNat 0))), (7, .ref 7 [] true (dM ((s4.1.set x12.toNat v22).set s4.2.toNat v23))), (8, .val (i64 s4.2)), (9, .val (i64 x12)), (67, .val (i64 (((s4.1.set x12.toNat v22).set s4.2.toNat v23).length : Int))), (68, .val (i64 0))] rfl ?_ ?_
    · simp <;> simp [ieq, ilt, ile]
    obtain ⟨x26, hx26, hx9⟩ := bind_some hx9
    refine VW.tlE [(0, .val (i64 a0)), (5, .val (i64 (a1.length : Int))), (6, .ref 6 [] true (dI (List.replicate (w64 ((a1.length : Int) + 1)).toNat 0))), (7, .ref 7 [] true (dM x26)), (8, .val (i64 s4.2))] (hCK25) ?_ ?_
    · clear hx26
      refine hK25 _ ?_
      -- region 17
      refine VW.ws tau_ok Sound.none [some 98, some 99, some 11] [(0, .val (i64 a0)), (5, .val (i64 (a1.length : Int))), (6, .ref 6 [] true (dI (List.replicate (w64 ((a1.length : Int) + 1)).toNat 0))), (7, .ref 7 [] true (dM x26)), (8, .val (i64 s4.2)), (11, .val (i64 (w64 (s4.2 + 1))))] rfl ?_ ?_
      · simp <;> simp [ieq, ilt, ile]
      obtain ⟨x35, hx35, hx9⟩ := bind_some hx9
      refine VW.tlE [(0, .val (i64 a0)), (5, .val (i64 (a1.length : Int))), (6, .ref 6 [] true (dI (List.replicate (w64 ((a1.length : Int) + 1)).toNat 0))), (7, .ref 7 [] true (dM x35)), (8, .val (i64 s4.2))] (Cl.fits _) ?_ ?_
      · clear hx35
        cases hx9
        exact Fits.of rfl
      refine VW.block ?_
      refine VW.loopF (i_field_characteristic_L3 a0 a1 s4) (fun s35 => [(0, .val (i64 a0)), (5, .val (i64 (a1.length : Int))), (6, .ref 6 [] true (dI (List.replicate (w64 ((a1.length : Int) + 1)).toNat 0))), (7, .ref 7 [] true (dM s35.1)), (8, .val (i64 s4.2)), (11, .val (i64 s35.2))]) hx35 (Fits.of rfl) ?_
      clear hx35
      intro s35 ox35 hx35o hx35b
      unfold i_field_characteristic_L3 at hx35o
      refine VW.sqc fun K37 hK37 hCK37 => ?_
      -- region 18
      refine VW.ws tau_ok Sound.none [some 100, some 101, some 102] [(0, .val (i64 a0)), (5, .val (i64 (a1.length : Int))), (6, .ref 6 [] true (dI (List.replicate (w64 ((a1.length : Int) + 1)).toNat 0))), (7, .ref 7 [] true (dM s35.1)), (8, .val (i64 s4.2)), (11, .val (i64 s35.2)), (102, .val (.bool (ilt s35.2 (a1.length : Int))))] rfl ?_ ?_
      · simp <;> simp [ieq, ilt, ile]
      refine VW.cond rfl (fun hb38 => ?_) (fun hb38 => ?_)
      rotate_left
      ·
        replace hb38 : ¬ (s35.2 < (a1.length : Int)) := by simpa [ieq, ilt, ile] using hb38
        rw [if_neg hb38] at hx35o
        refine VW.exit ?_
        cases hx35o
        have hq := hx35b _ rfl
        subst hq
        exact Fits.of rfl
      replace hb38 : s35.2 < (a1.length : Int) := by simpa [ieq, ilt, ile] using hb38
      rw [if_pos hb38] at hx35o
      refine VW.skip ?_
      refine hK37 _ ?_
      refine VW.sqc fun K39 hK39 hCK39 => ?_
      refine VW.block ?_
      -- region 20
      obtain ⟨v40, hv40, hx35o⟩ := bind_some hx35o
      obtain ⟨hv40a, hv40b, hv40c, hv40d⟩ := idx_some hv40
      obtain ⟨v41, hv41, hx35o⟩ := bind_some hx35o
      obtain ⟨hv41a, hv41b, hv41c, hv41d⟩ := idx_some hv41
      obtain ⟨v42, hv42, hx35o⟩ := bind_some hx35o
      obtain ⟨hv42a, hv42b, hv42c, hv42d⟩ := idx_some hv42
      obtain ⟨v43, hv43, hx35o⟩ := bind_some hx35o
      obtain ⟨hv43a, hv43b, hv43c, hv43d⟩ := idx_some hv43
      obtain ⟨v44, hv44, hx35o⟩ := bind_some hx35o
      obtain ⟨v45, hv45, hx35o⟩ := bind_some hx35o
      refine VW.wds tau_ok ((Sound.none.add 123 (i_field_inv_ok hv44) rfl).add 125 (i_field_num_ok hv45) rfl) try_mixed [some 105, some 106, some 107, some 108, some 109, some 110, some 111, some 112, some 113, some 114, some 115, some 116, some 117, some 118, some 119, some 120, some 121, some 122, some 123, some 124, some 125, some 12] [(0, .val (i64 a0)), (5, .val (i64 (a1.length : Int))), (6, .ref 6 [] true (dI (List.replicate (w64 ((a1.length : Int) + 1)).toNat 0))), (7, .ref 7 [] true (dM s35.1)), (8, .val (i64 s4.2)), (11, .val (i64 s35.2)), (12, .val (i64 v45))] 22 rfl (by kernel_rfl) (by rfl) ?_ ?_
      · simp [hv40a, hv40b, hv40c, hv40d, hv41a, hv41b, hv41c, hv41d, hv42a, hv42b, hv42c, hv42d, hv43a, hv43b, hv43c, hv43d] <;> simp [ieq, ilt, ile]
      -- region 21
      obtain ⟨v46, hv46, hx35o⟩ := bind_some hx35o
      refine VW.wds tau_ok (Sound.none.add 139 (i_field_plus_ok hv46) rfl) try_mixed [some 126, some 127, some 128, some 129, some 130, some 131, some 132, some 133, some 134, some 135, some 136, some 137, some 138, some 139, some 140, none] [(0, .val (i64 a0)), (5, .val (i64 (a1.length : Int))), (6, .ref 6 [] true (dI (List.replicate (w64 ((a1.length : Int) + 1)).toNat 0))), (7, .ref 7 [] true (dM (s35.1.set s35.2.toNat v46))), (8, .val (i64 s4.2)), (11, .val (i64 s35.2)), (12, .val (i64 v45))] 15 rfl (by kernel_rfl) (by rfl) ?_ ?_
      · simp [hv40a, hv40b, hv40c, hv40d, hv42a, hv42b, hv42c, hv42d] <;> simp [ieq, ilt, ile]
      -- region 22
      refine VW.ws tau_ok Sound.none [some 141, some 142, some 143] [(0, .val (i64 a0)), (5, .val (i64 (a1.length : Int))), (6, .ref 6 [] true (dI (List.replicate (w64 ((a1.length : Int) + 1)).toNat 0))), (7, .ref 7 [] true (dM (s35.1.set s35.2.toNat v46))), (8, .val (i64 s4.2)), (11, .val (i64 s35.2)), (12, .val (i64 v45)), (142, .val (i64 ((s35.1.set s35.2.toNat v46).length : Int))), (143, .val (i64 0))] rfl ?_ ?_
      · simp <;> simp [ieq, ilt, ile]
      obtain ⟨x47, hx47, hx35o⟩ := bind_some hx35o
      refine VW.tlE [(0, .val (i64 a0)), (5, .val (i64 (a1.length : Int))), (6, .ref 6 [] true (dI (List.replicate (w64 ((a1.length : Int) + 1)).toNat 0))), (7, .ref 7 [] true (dM x47)), (8, .val (i64 s4.2)), (11, .val (i64 s35.2))] (hCK39) ?_ ?_
      · clear hx47
        refine hK39 _ ?_
        -- region 19
        refine VW.wr tau_ok Sound.none [some 103, some 104, some 11] [(0, .val (i64 a0)), (5, .val (i64 (a1.length : Int))), (6, .ref 6 [] true (dI (List.replicate (w64 ((a1.length : Int) + 1)).toNat 0))), (7, .ref 7 [] true (dM x47)), (8, .val (i64 s4.2)), (11, .val (i64 (w64 (s35.2 + 1))))] rfl ?_ ?_
        · simp <;> simp [ieq, ilt, ile]
        cases hx35o
        exact ⟨_, rfl, Fits.of rfl⟩
      refine VW.block ?_
      refine VW.loopF (i_field_characteristic_L4 a0 s4 s35 v45) (fun s47 => [(0, .val (i64 a0)), (5, .val (i64 (a1.length : Int))), (6, .ref 6 [] true (dI (List.replicate (w64 ((a1.length : Int) + 1)).toNat 0))), (7, .ref 7 [] true (dM s47.1)), (8, .val (i64 s4.2)), (11, .val (i64 s35.2)), (12, .val (i64 v45)), (142, .val (i64 s47.2.1)), (143, .val (i64 s47.2.2))]) hx47 (Fits.of rfl) ?_
      clear hx47
      intro s47 ox47 hx47o hx47b
      unfold i_field_characteristic_L4 at hx47o
      -- region 23
      refine VW.ws tau_ok Sound.none [some 144] [(0, .val (i64 a0)), (5, .val (i64 (a1.length : Int))), (6, .ref 6 [] true (dI (List.replicate (w64 ((a1.length : Int) + 1)).toNat 0))), (7, .ref 7 [] true (dM s47.1)), (8, .val (i64 s4.2)), (11, .val (i64 s35.2)), (12, .val (i64 v45)), (142, .val (i64 s47.2.1)), (143, .val (i64 s47.2.2)), (144, .val (.bool (ilt s47.2.2 s47.2.1)))] rfl ?_ ?_
      · simp <;> simp [ieq, ilt, ile]
      refine VW.sqc fun K49 hK49 hCK49 => ?_
      refine VW.cond rfl (fun hb50 => ?_) (fun hb50 => ?_)
      rotate_left
      ·
        replace hb50 : ¬ (s47.2.2 < s47.2.1) := by simpa [ieq, ilt, ile] using hb50
        rw [if_neg hb50] at hx47o
        refine VW.exit ?_
        cases hx47o
        have hq := hx47b _ rfl
        subst hq
        exact Fits.of rfl
      replace hb50 : s47.2.2 < s47.2.1 := by simpa [ieq, ilt, ile] using hb50
      rw [if_pos hb50] at hx47o
      refine VW.skip ?_
      refine hK49 _ ?_
      refine VW.sqc fun K51 hK51 hCK51 => ?_
      refine VW.block ?_
      -- region 24
      refine VW.ws tau_ok Sound.none [some 145, some 13] [(0, .val (i64 a0)), (5, .val (i64 (a1.length : Int))), (6, .ref 6 [] true (dI (List.replicate (w64 ((a1.length : Int) + 1)).toNat 0))), (7, .ref 7 [] true (dM s47.1)), (8, .val (i64 s4.2)), (11, .val (i64 s35.2)), (12, .val (i64 v45)), (13, .val (i64 s47.2.2)), (142, .val (i64 s47.2.1)), (143, .val (i64 s47.2.2))] rfl ?_ ?_
      · simp <;> simp [ieq, ilt, ile]
      -- region 25
      obtain ⟨v52, hv52, hx47o⟩ := bind_some hx47o
      obtain ⟨hv52a, hv52b, hv52c, hv52d⟩ := idx_some hv52
      obtain ⟨v53, hv53, hx47o⟩ := bind_some hx47o
      obtain ⟨hv53a, hv53b, hv53c, hv53d⟩ := idx_some hv53
      obtain ⟨v54, hv54, hx47o⟩ := bind_some hx47o
      obtain ⟨hv54a, hv54b, hv54c, hv54d⟩ := idx_some hv54
      obtain ⟨v55, hv55, hx47o⟩ := bind_some hx47o
      refine VW.wdr tau_ok (Sound.none.add 169 (i_field_num_ok hv55) rfl) try_mixed [some 146, some 147, some 148, some 149, some 150, some 151, some 152, some 153, some 154, some 155, some 156, some 157, some 158, some 159, some 160, some 161, some 162, some 163, some 164, some 165, some 166, some 167, some 168, some 169, some 170, none] [(0, .val (i64 a0)), (5, .val (i64 (a1.length : Int))), (6, .ref 6 [] true (dI (List.replicate (w64 ((a1.length : Int) + 1)).toNat 0))), (7, .ref 7 [] true (dM (s47.1.set s47.2.2.toNat (v52.set s4.2.toNat v55)))), (8, .val (i64 s4.2)), (11, .val (i64 s35.2)), (12, .val (i64 v45)), (142, .val (i64 s47.2.1)), (143, .val (i64 s47.2.2))] 25 rfl (by kernel_rfl) (by rfl) ?_ ?_
      · simp [hv52a, hv52b, hv52c, hv52d, hv53a, hv53b, hv53c, hv53d, hv54a, hv54b, hv54c, hv54d] <;> simp [ieq, ilt, ile]
      refine hK51 _ ?_
      -- region 26
      refine VW.wr tau_ok Sound.none [some 171, some 143] [(0, .val (i64 a0)), (5, .val (i64 (a1.length : Int))), (6, .ref 6 [] true (dI (List.replicate (w64 ((a1.length : Int) + 1)).toNat 0))), (7, .ref 7 [] true (dM (s47.1.set s47.2.2.toNat (v52.set s4.2.toNat v55)))), (8, .val (i64 s4.2)), (11, .val (i64 s35.2)), (12, .val (i64 v45)), (142, .val (i64 s47.2.1)), (143, .val (i64 (w64 (s47.2.2 + 1))))] rfl ?_ ?_
      · simp <;> simp [ieq, ilt, ile]
      cases hx47o
      exact ⟨_, rfl, Fits.of rfl⟩
    refine VW.block ?_
    refine VW.loopF (i_field_characteristic_L2 s4 x12) (fun s26 => [(0, .val (i64 a0)), (5, .val (i64 (a1.length : Int))), (6, .ref 6 [] true (dI (List.replicate (w64 ((a1.length : Int) + 1)).toNat 0))), (7, .ref 7 [] true (dM s26.1)), (8, .val (i64 s4.2)), (9, .val (i64 x12)), (67, .val (i64 s26.2.1)), (68, .val (i64 s26.2.2))]) hx26 (Fits.of rfl) ?_
    clear hx26
    intro s26 ox26 hx26o hx26b
    unfold i_field_characteristic_L2 at hx26o
    -- region 13
    refine VW.ws tau_ok Sound.none [some 69] [(0, .val (i64 a0)), (5, .val (i64 (a1.length : Int))), (6, .ref 6 [] true (dI (List.replicate (w64 ((a1.length : Int) + 1)).toNat 0))), (7, .ref 7 [] true (dM s26.1)), (8, .val (i64 s4.2)), (9, .val (i64 x12)), (67, .val (i64 s26.2.1)), (68, .val (i64 s26.2.2)), (69, .val (.bool (ilt s26.2.2 s26.2.1)))] rfl ?_ ?_
    · simp <;> simp [ieq, ilt, ile]
    refine VW.sqc fun K28 hK28 hCK28 => ?_
    refine VW.cond rfl (fun hb29 => ?_) (fun hb29 => ?_)
    rotate_left
    ·
      replace hb29 : ¬ (s26.2.2 < s26.2.1) := by simpa [ieq, ilt, ile] using hb29
      rw [if_neg hb29] at hx26o
      refine VW.exit ?_
      cases hx26o
      have hq := hx26b _ rfl
      subst hq
      exact Fits.of rfl
    replace hb29 : s26.2.2 < s26.2.1 := by simpa [ieq, ilt, ile] using hb29
    rw [if_pos hb29] at hx26o
    refine VW.skip ?_
    refine hK28 _ ?_
    refine VW.sqc fun K30 hK30 hCK30 => ?_
    refine VW.block ?_
    -- region 14
    refine VW.ws tau_ok Sound.none [some 70, some 10] [(0, .val (i64 a0)), (5, .val (i64 (a1.length : Int))), (6, .ref 6 [] true (dI (List.replicate (w64 ((a1.length : Int) + 1)).toNat 0))), (7, .ref 7 [] true (dM s26.1)), (8, .val (i64 s4.2)), (9, .val (i64 x12)), (10, .val (i64 s26.2.2)), (67, .val (i64 s26.2.1)), (68, .val (i64 s26.2.2))] rfl ?_ ?_
    · simp <;> simp [ieq, ilt, ile]
    -- region 15
    obtain ⟨v31, hv31, hx26o⟩ := bind_some hx26o
    obtain ⟨hv31a, hv31b, hv31c, hv31d⟩ := idx_some hv31
    obtain ⟨v32, hv32, hx26o⟩ := bind_some hx26o
    obtain ⟨hv32a, hv32b, hv32c, hv32d⟩ := idx_some hv32
    obtain ⟨v33, hv33, hx26o⟩ := bind_some hx26o
    obtain ⟨hv33a, hv33b, hv33c, hv33d⟩ := idx_some hv33
    obtain ⟨v34, hv34, hx26o⟩ := bind_some hx26o
    obtain ⟨hv34a, hv34b, hv34c, hv34d⟩ := idx_some hv34
    have hv34s := hv34b
    try simp at hv34s
    refine VW.wdr tau_ok Sound.none try_mixed [some 71, some 72, some 73, some 74, some 75, some 76, some 77, some 78, some 79, some 80, some 81, some 82, some 83, some 84, some 85, some 86, some 87, some 88, some 89, some 90, some 91, some 92, some 93, some 94, some 95, none, some 96, none] [(0, .val (i64 a0)), (5, .val (i64 (a1.length : Int))), (6, .ref 6 [] true (dI (List.replicate (w64 ((a1.length : Int) + 1)).toNat 0))), (7, .ref 7 [] true (dM ((s26.1.set s26.2.2.toNat (v31.set x12.toNat v32)).set s26.2.2.toNat ((v31.set x12.toNat v32).set s4.2.toNat v33)))), (8, .val (i64 s4.2)), (9, .val (i64 x12)), (67, .val (i64 s26.2.1)), (68, .val (i64 s26.2.2))] 25 rfl (by kernel_rfl) (by rfl) ?_ ?_
    · simp [hv31a, hv31b, hv31c, hv31d, hv32a, hv32b, hv32c, hv32d, hv33a, hv33b, hv33c, hv33d, hv34a, hv34b, hv34c, hv34d, hv34s] <;> simp [ieq, ilt, ile]
    refine hK30 _ ?_
    -- region 16
    refine VW.wr tau_ok Sound.none [some 97, some 68] [(0, .val (i64 a0)), (5, .val (i64 (a1.length : Int))), (6, .ref 6 [] true (dI (List.replicate (w64 ((a1.length : Int) + 1)).toNat 0))), (7, .ref 7 [] true (dM ((s26.1.set s26.2.2.toNat (v31.set x12.toNat v32)).set s26.2.2.toNat ((v31.set x12.toNat v32).set s4.2.toNat v33)))), (8, .val (i64 s4.2)), (9, .val (i64 x12)), (67, .val (i64 s26.2.1)), (68, .val (i64 (w64 (s26.2.2 + 1))))] rfl ?_ ?_
    · simp <;> simp [ieq, ilt, ile]
    cases hx26o
    exact ⟨_, rfl, Fits.of rfl⟩
  refine VW.block ?_
  refine VW.loopF (i_field_characteristic_L1 a1 s4) (fun s12 => [(0, .val (i64 a0)), (5, .val (i64 (a1.length : Int))), (6, .ref 6 [] true (dI (List.replicate (w64 ((a1.length : Int) + 1)).toNat 0))), (7, .ref 7 [] true (dM s4.1)), (8, .val (i64 s4.2)), (9, .val (i64 s12))]) hx12 (Fits.of rfl) ?_
  clear hx12
  intro s12 ox12 hx12o hx12b
  unfold i_field_characteristic_L1 at hx12o
  refine VW.sqc fun K14 hK14 hCK14 => ?_
  -- region 8
  obtain ⟨x18, hx18, hx12o⟩ := bind_some hx12o
  refine VW.cut [(0, .val (i64 a0)), (5, .val (i64 (a1.length : Int))), (6, .ref 6 [] true (dI (List.replicate (w64 ((a1.length : Int) + 1)).toNat 0))), (7, .ref 7 [] true (dM s4.1)), (8, .val (i64 s4.2)), (9, .val (i64 s12)), (46, .val (.bool x18))] ?_ fun hy => ?_
  rotate_left
  · clear hx12o
    by_cases hp15 : s12 < (a1.length : Int)
    · rw [if_pos hp15] at hx18
      have hp15b : ilt s12 (a1.length : Int) = true := by simpa [ieq, ilt, ile] using hp15
      have hp15s := hp15b
      try simp at hp15s
      obtain ⟨v16, hv16, hx18⟩ := bind_some hx18
      obtain ⟨hv16a, hv16b, hv16c, hv16d⟩ := idx_some hv16
      obtain ⟨v17, hv17, hx18⟩ := bind_some hx18
      obtain ⟨hv17a, hv17b, hv17c, hv17d⟩ := idx_some hv17
      cases hx18
      refine VW.ws tau_ok Sound.none [some 33, some 34, some 35, some 36, some 37, some 38, some 39, some 40, some 41, some 42, some 43, some 44, some 45, some 46] _ rfl ?_ hy
      simp [hp15b, hp15s, hv16a, hv16b, hv16c, hv16d, hv17a, hv17b, hv17c, hv17d] <;> simp [ieq, ilt, ile]
    · rw [if_neg hp15] at hx18
      have hp15b : ilt s12 (a1.length : Int) = false := by simpa [ieq, ilt, ile] using hp15
      have hp15s := hp15b
      try simp at hp15s
      cases hx18
      refine VW.ws tau_ok Sound.none [some 33, some 34, some 35, some 36, some 37, some 38, some 39, some 40, some 41, some 42, some 43, some 44, some 45, some 46] _ rfl ?_ hy
      simp [hp15b, hp15s] <;> simp [ieq, ilt, ile]
  refine VW.cond rfl (fun hb19 => ?_) (fun hb19 => ?_)
  rotate_left
  ·
    replace hb19 : ¬ (x18 = true) := by simpa [ieq, ilt, ile] using hb19
    rw [if_neg hb19] at hx12o
    refine VW.exit ?_
    cases hx12o
    have hq := hx12b _ rfl
    subst hq
    exact Fits.of rfl
  replace hb19 : x18 = true := by simpa [ieq, ilt, ile] using hb19
  rw [if_pos hb19] at hx12o
  refine VW.skip ?_
  refine hK14 _ ?_
  refine VW.block ?_
  -- region 9
  refine VW.wr tau_ok Sound.none [some 47, some 48, some 9] [(0, .val (i64 a0)), (5, .val (i64 (a1.length : Int))), (6, .ref 6 [] true (dI (List.replicate (w64 ((a1.length : Int) + 1)).toNat 0))), (7, .ref 7 [] true (dM s4.1)), (8, .val (i64 s4.2)), (9, .val (i64 (w64 (s12 + 1))))] rfl ?_ ?_
  · simp <;> simp [ieq, ilt, ile]
  cases hx12o
  exact ⟨_, rfl, Fits.of rfl⟩

theorem i_CharacteristicPolynomial_ok {a0 : Int} {a1 : List (List Int)} {r : (List Int) × Int} (h : i_CharacteristicPolynomial a0 a1 = some r) :
    VCall Try.prog 70 [i64 a0, dM a1] [.own true (dI r.1), .sc (i64 r.2)] := by
  unfold i_CharacteristicPolynomial at h
  refine VCall.enter Try.call70 Try.func70 rfl 16 Try.ntmps70 (by simp) [.tmp 4, .tmp 5] rfl ?_
  show VW _ _ _ (mk [(0, .val (i64 a0)), (1, .val (dM a1))]) _
  -- region 0
  refine VW.ws tau_ok Sound.none [some 4, some 5] [(0, .val (i64 a0)), (1, .val (dM a1))] rfl ?_ ?_
  · simp <;> simp [ieq, ilt, ile]
  refine VW.sqc fun K1 hK1 hCK1 => ?_
  -- region 1
  obtain ⟨v2, hv2, h⟩ := bind_some h
  refine VW.ws tau_ok (Sound.none.add 9 (i_checkSquare_ok hv2) rfl) [some 7, some 8, some 9, some 6] [(0, .val (i64 a0)), (1, .val (dM a1)), (6, .val (i64 v2))] rfl ?_ ?_
  · simp <;> simp [ieq, ilt, ile]
  -- region 2
  refine VW.ws tau_ok Sound.none [some 10, some 11] [(0, .val (i64 a0)), (1, .val (dM a1)), (6, .val (i64 v2)), (11, .val (.bool (!(ieq v2 0))))] rfl ?_ ?_
  · simp <;> simp [ieq, ilt, ile]
  refine VW.cond rfl (fun hb3 => ?_) (fun hb3 => ?_)
  ·
    replace hb3 : ¬ v2 = 0 := by simpa [ieq, ilt, ile] using hb3
    rw [if_pos hb3] at h
    -- region 3
    refine VW.ws tau_ok Sound.none [some 12, some 4, some 5] [(4, .ref 4 [] true (.list [])), (5, .val (i64 v2))] rfl ?_ ?_
    · simp <;> simp [ieq, ilt, ile]
    cases h
    refine VW.ret ?_
    simp [Post, PostM, PostC, PostC2, Nx, Bk]
  replace hb3 : ¬ (¬ v2 = 0) := by simpa [ieq, ilt, ile] using hb3
  rw [if_neg hb3] at h
  refine VW.skip ?_
  refine hK1 _ ?_
  -- region 4
  obtain ⟨v4, hv4, h⟩ := bind_some h
  refine VW.ws tau_ok (Sound.none.add 15 (i_field_characteristic_ok hv4) rfl) [some 13, some 14, some 15, some 4, some 5] [(4, .ref 4 [] true (dI v4)), (5, .val (i64 0))] rfl ?_ ?_
  · simp <;> simp [ieq, ilt, ile]
  cases h
  refine VW.ret ?_
  simp [Post, PostM, PostC, PostC2, Nx, Bk]

theorem l_eqInt64S_ok {a0 : List Int} {a1 : List Int} {r : Bool} (h : l_eqInt64S a0 a1 = some r) :
    VCall Try.prog 48 [dI a0, dI a1] [.sc (.bool r)] := by
  unfold l_eqInt64S at h
  refine VCall.enter Try.call48 Try.func48 rfl 26 Try.ntmps48 (by simp) [.tmp 4] rfl ?_
  show VW _ _ _ (mk [(0, .val (dI a0)), (1, .val (dI a1))]) _
  -- region 0
  refine VW.ws tau_ok Sound.none [some 4] [(0, .val (dI a0)), (1, .val (dI a1))] rfl ?_ ?_
  · simp <;> simp [ieq, ilt, ile]
  refine VW.sqc fun K1 hK1 hCK1 => ?_
  -- region 1
  refine VW.ws tau_ok Sound.none [some 6, some 7, some 8, some 9, some 10] [(0, .val (dI a0)), (1, .val (dI a1)), (10, .val (.bool (!(ieq (a0.length : Int) (a1.length : Int)))))] rfl ?_ ?_
  · simp <;> simp [ieq, ilt, ile]
  refine VW.cond rfl (fun hb2 => ?_) (fun hb2 => ?_)
  ·
    replace hb2 : ¬ (a0.length : Int) = (a1.length : Int) := by simpa [ieq, ilt, ile] using hb2
    rw [if_pos hb2] at h
    -- region 2
    refine VW.ws tau_ok Sound.none [some 4] [(4, .val (.bool false))] rfl ?_ ?_
    · simp <;> simp [ieq, ilt, ile]
    cases h
    refine VW.ret ?_
    simp [Post, PostM, PostC, PostC2, Nx, Bk]
  replace hb2 : ¬ (¬ (a0.length : Int) = (a1.length : Int)) := by simpa [ieq, ilt, ile] using hb2
  rw [if_neg hb2] at h
  refine VW.skip ?_
  refine hK1 _ ?_
  refine VW.sqc fun K3 hK3 hCK3 => ?_
  -- region 3
  refine VW.ws tau_ok Sound.none [some 5] [(0, .val (dI a0)), (1, .val (dI a1)), (5, .val (i64 0))] rfl ?_ ?_
  · simp <;> simp [ieq, ilt, ile]
  obtain ⟨x4, hx4, h⟩ := bind_some h
  refine VW.tlO (fun y6 => []) x4 (hCK3) ?_ ?_
  · clear hx4
    rintro y6 rfl
    dsimp only at h
    refine hK3 _ ?_
    -- region 8
    refine VW.ws tau_ok Sound.none [some 4] [(4, .val (.bool true))] rfl ?_ ?_
    · simp <;> simp [ieq, ilt, ile]
    cases h
    refine VW.ret ?_
    simp [Post, PostM, PostC, PostC2, Nx, Bk]
  refine VW.block ?_
  refine VW.loopF (l_eqInt64S_L0 a0 a1) (fun s4 => [(0, .val (dI a0)), (1, .val (dI a1)), (5, .val (i64 s4))]) hx4 (Fits.of rfl) ?_
  clear hx4
  intro s4 ox4 hx4o hx4b
  unfold l_eqInt64S_L0 at hx4o
  refine VW.sqc fun K7 hK7 hCK7 => ?_
  -- region 4
  refine VW.ws tau_ok Sound.none [some 11, some 12, some 13, some 14] [(0, .val (dI a0)), (1, .val (dI a1)), (5, .val (i64 s4)), (14, .val (.bool (ilt s4 (a0.length : Int))))] rfl ?_ ?_
  · simp <;> simp [ieq, ilt, ile]
  refine VW.cond rfl (fun hb8 => ?_) (fun hb8 => ?_)
  rotate_left
  ·
    replace hb8 : ¬ (s4 < (a0.length : Int)) := by simpa [ieq, ilt, ile] using hb8
    rw [if_neg hb8] at hx4o
    refine VW.exit ?_
    cases hx4o
    have hq := hx4b _ rfl
    subst hq
    exact ⟨_, rfl, Fits.of rfl⟩
  replace hb8 : s4 < (a0.length : Int) := by simpa [ieq, ilt, ile] using hb8
  rw [if_pos hb8] at hx4o
  refine VW.skip ?_
  refine hK7 _ ?_
  refine VW.sqc fun K9 hK9 hCK9 => ?_
  refine VW.block ?_
  -- region 6
  obtain ⟨v10, hv10, hx4o⟩ := bind_some hx4o
  obtain ⟨hv10a, hv10b, hv10c, hv10d⟩ := idx_some hv10
  obtain ⟨v11, hv11, hx4o⟩ := bind_some hx4o
  obtain ⟨hv11a, hv11b, hv11c, hv11d⟩ := idx_some hv11
  refine VW.wds tau_ok Sound.none try_mixed [some 17, some 18, some 19, some 20, some 21, some 22, some 23, some 24, some 25] [(0, .val (dI a0)), (1, .val (dI a1)), (5, .val (i64 s4)), (25, .val (.bool (!(ieq v10 v11))))] 9 rfl (by kernel_rfl) (by rfl) ?_ ?_
  · simp [hv10a, hv10b, hv10c, hv10d, hv11a, hv11b, hv11c, hv11d] <;> simp [ieq, ilt, ile]
  refine VW.cond rfl (fun hb12 => ?_) (fun hb12 => ?_)
  rotate_left
  ·
    replace hb12 : ¬ (¬ v10 = v11) := by simpa [ieq, ilt, ile] using hb12
    rw [if_neg hb12] at hx4o
    refine VW.skip ?_
    refine hK9 _ ?_
    -- region 5
    refine VW.wr tau_ok Sound.none [some 15, some 16, some 5] [(0, .val (dI a0)), (1, .val (dI a1)), (5, .val (i64 (w64 (s4 + 1))))] rfl ?_ ?_
    · simp <;> simp [ieq, ilt, ile]
    cases hx4o
    exact ⟨_, rfl, Fits.of rfl⟩
  replace hb12 : ¬ v10 = v11 := by simpa [ieq, ilt, ile] using hb12
  rw [if_pos hb12] at hx4o
  -- region 7
  refine VW.ws tau_ok Sound.none [some 4] [(4, .val (.bool false))] rfl ?_ ?_
  · simp <;> simp [ieq, ilt, ile]
  cases hx4o
  have hq := hx4b _ rfl
  subst hq
  dsimp only at h
  cases h
  refine VW.ret ?_
  simp [Post, PostM, PostC, PostC2, Nx, Bk]

theorem l_eqInt64SS_ok {a0 : List (List Int)} {a1 : List (List Int)} {r : Bool} (h : l_eqInt64SS a0 a1 = some r) :
    VCall Try.prog 21 [dM a0, dM a1] [.sc (.bool r)] := by
  unfold l_eqInt64SS at h
  refine VCall.enter Try.call21 Try.func21 rfl 27 Try.ntmps21 (by simp) [.tmp 4] rfl ?_
  show VW _ _ _ (mk [(0, .val (dM a0)), (1, .val (dM a1))]) _
  -- region 0
  refine VW.ws tau_ok Sound.none [some 4] [(0, .val (dM a0)), (1, .val (dM a1))] rfl ?_ ?_
  · simp <;> simp [ieq, ilt, ile]
  refine VW.sqc fun K1 hK1 hCK1 => ?_
  -- region 1
  refine VW.ws tau_ok Sound.none [some 6, some 7, some 8, some 9, some 10] [(0, .val (dM a0)), (1, .val (dM a1)), (10, .val (.bool (!(ieq (a0.length : Int) (a1.length : Int)))))] rfl ?_ ?_
  · simp <;> simp [ieq, ilt, ile]
  refine VW.cond rfl (fun hb2 => ?_) (fun hb2 => ?_)
  ·
    replace hb2 : ¬ (a0.length : Int) = (a1.length : Int) := by simpa [ieq, ilt, ile] using hb2
    rw [if_pos hb2] at h
    -- region 2
    refine VW.ws tau_ok Sound.none [some 4] [(4, .val (.bool false))] rfl ?_ ?_
    · simp <;> simp [ieq, ilt, ile]
    cases h
    refine VW.ret ?_
    simp [Post, PostM, PostC, PostC2, Nx, Bk]
  replace hb2 : ¬ (¬ (a0.length : Int) = (a1.length : Int)) := by simpa [ieq, ilt, ile] using hb2
  rw [if_neg hb2] at h
  refine VW.skip ?_
  refine hK1 _ ?_
  refine VW.sqc fun K3 hK3 hCK3 => ?_
  -- region 3
  refine VW.ws tau_ok Sound.none [some 5] [(0, .val (dM a0)), (1, .val (dM a1)), (5, .val (i64 0))] rfl ?_ ?_
  · simp <;> simp [ieq, ilt, ile]
  obtain ⟨x4, hx4, h⟩ := bind_some h
  refine VW.tlO (fun y6 => []) x4 (hCK3) ?_ ?_
  · clear hx4
    rintro y6 rfl
    dsimp only at h
    refine hK3 _ ?_
    -- region 8
    refine VW.ws tau_ok Sound.none [some 4] [(4, .val (.bool true))] rfl ?_ ?_
    · simp <;> simp [ieq, ilt, ile]
    cases h
    refine VW.ret ?_
    simp [Post, PostM, PostC, PostC2, Nx, Bk]
  refine VW.block ?_
  refine VW.loopF (l_eqInt64SS_L0 a0 a1) (fun s4 => [(0, .val (dM a0)), (1, .val (dM a1)), (5, .val (i64 s4))]) hx4 (Fits.of rfl) ?_
  clear hx4
  intro s4 ox4 hx4o hx4b
  unfold l_eqInt64SS_L0 at hx4o
  refine VW.sqc fun K7 hK7 hCK7 => ?_
  -- region 4
  refine VW.ws tau_ok Sound.none [some 11, some 12, some 13, some 14] [(0, .val (dM a0)), (1, .val (dM a1)), (5, .val (i64 s4)), (14, .val (.bool (ilt s4 (a0.length : Int))))] rfl ?_ ?_
  · simp <;> simp [ieq, ilt, ile]
  refine VW.cond rfl (fun hb8 => ?_) (fun hb8 => ?_)
  rotate_left
  ·
    replace hb8 : ¬ (s4 < (a0.length : Int)) := by simpa [ieq, ilt, ile] using hb8
    rw [if_neg hb8] at hx4o
    refine VW.exit ?_
    cases hx4o
    have hq := hx4b _ rfl
    subst hq
    exact ⟨_, rfl, Fits.of rfl⟩
  replace hb8 : s4 < (a0.length : Int) := by simpa [ieq, ilt, ile] using hb8
  rw [if_pos hb8] at hx4o
  refine VW.skip ?_
  refine hK7 _ ?_
  refine VW.sqc fun K9 hK9 hCK9 => ?_
  refine VW.block ?_
  -- region 6
  obtain ⟨v10, hv10, hx4o⟩ := bind_some hx4o
  obtain ⟨hv10a, hv10b, hv10c, hv10d⟩ := idx_some hv10
  obtain ⟨v11, hv11, hx4o⟩ := bind_some hx4o
  obtain ⟨hv11a, hv11b, hv11c, hv11d⟩ := idx_some hv11
  obtain ⟨v12, hv12, hx4o⟩ := bind_some hx4o
  refine VW.wds tau_ok (Sound.none.add 25 (l_eqInt64S_ok hv12) rfl) try_mixed [some 17, some 18, some 19, some 20, some 21, some 22, some 23, some 24, some 25, some 26] [(0, .val (dM a0)), (1, .val (dM a1)), (5, .val (i64 s4)), (26, .val (.bool (!v12)))] 10 rfl (by kernel_rfl) (by rfl) ?_ ?_
  · simp [hv10a, hv10b, hv10c, hv10d, hv11a, hv11b, hv11c, hv11d] <;> simp [ieq, ilt, ile]
  refine VW.cond rfl (fun hb13 => ?_) (fun hb13 => ?_)
  rotate_left
  ·
    replace hb13 : ¬ (v12 = false) := by simpa [ieq, ilt, ile] using hb13
    rw [if_neg hb13] at hx4o
    refine VW.skip ?_
    refine hK9 _ ?_
    -- region 5
    refine VW.wr tau_ok Sound.none [some 15, some 16, some 5] [(0, .val (dM a0)), (1, .val (dM a1)), (5, .val (i64 (w64 (s4 + 1))))] rfl ?_ ?_
    · simp <;> simp [ieq, ilt, ile]
    cases hx4o
    exact ⟨_, rfl, Fits.of rfl⟩
  replace hb13 : v12 = false := by simpa [ieq, ilt, ile] using hb13
  rw [if_pos hb13] at hx4o
  -- region 7
  refine VW.ws tau_ok Sound.none [some 4] [(4, .val (.bool false))] rfl ?_ ?_
  · simp <;> simp [ieq, ilt, ile]
  cases hx4o
  have hq := hx4b _ rfl
  subst hq
  dsimp only at h
  cases h
  refine VW.ret ?_
  simp [Post, PostM, PostC, PostC2, Nx, Bk]

theorem l_markInt64S_ok {a0 : List Int} {a1 : Int} {r : Int × (List Int)} (h : l_markInt64S a0 a1 = some r) :
    VMut Try.prog 49 (dI a0) [i64 a1] (i64 r.1) (dI r.2) := by
  unfold l_markInt64S at h
  refine VMut.enter Try.call49 Try.func49 rfl 19 Try.ntmps49 (by simp) [.tmp 4] rfl ?_
  show VW _ _ _ (mk [(0, .ref 0 [] true (dI a0)), (1, .val (i64 a1))]) _
  -- region 0
  refine VW.ws tau_ok Sound.none [some 4] [(0, .ref 0 [] true (dI a0)), (1, .val (i64 a1))] rfl ?_ ?_
  · simp <;> simp [ieq, ilt, ile]
  refine VW.sqc fun K1 hK1 hCK1 => ?_
  -- region 1
  refine VW.ws tau_ok Sound.none [some 5] [(0, .ref 0 [] true (dI a0)), (1, .val (i64 a1)), (5, .val (i64 0))] rfl ?_ ?_
  · simp <;> simp [ieq, ilt, ile]
  obtain ⟨x2, hx2, h⟩ := bind_some h
  refine VW.tlE [(0, .ref 0 [] true (dI x2.1)), (1, .val (i64 x2.2))] (hCK1) ?_ ?_
  · clear hx2
    refine hK1 _ ?_
    -- region 6
    refine VW.ws tau_ok Sound.none [some 18, some 4] [(0, .ref 0 [] true (dI x2.1)), (4, .val (i64 x2.2))] rfl ?_ ?_
    · simp <;> simp [ieq, ilt, ile]
    cases h
    refine VW.ret ?_
    simp [Post, PostM, PostC, PostC2, Nx, Bk]
  refine VW.block ?_
  refine VW.loopF l_markInt64S_L0 (fun s2 => [(0, .ref 0 [] true (dI s2.1)), (1, .val (i64 s2.2.1)), (5, .val (i64 s2.2.2))]) hx2 (Fits.of rfl) ?_
  clear hx2
  intro s2 ox2 hx2o hx2b
  unfold l_markInt64S_L0 at hx2o
  refine VW.sqc fun K4 hK4 hCK4 => ?_
  -- region 2
  refine VW.ws tau_ok Sound.none [some 6, some 7, some 8, some 9] [(0, .ref 0 [] true (dI s2.1)), (1, .val (i64 s2.2.1)), (5, .val (i64 s2.2.2)), (9, .val (.bool (ilt s2.2.2 (s2.1.length : Int))))] rfl ?_ ?_
  · simp <;> simp [ieq, ilt, ile]
  refine VW.cond rfl (fun hb5 => ?_) (fun hb5 => ?_)
  rotate_left
  ·
    replace hb5 : ¬ (s2.2.2 < (s2.1.length : Int)) := by simpa [ieq, ilt, ile] using hb5
    rw [if_neg hb5] at hx2o
    refine VW.exit ?_
    cases hx2o
    have hq := hx2b _ rfl
    subst hq
    exact Fits.of rfl
  replace hb5 : s2.2.2 < (s2.1.length : Int) := by simpa [ieq, ilt, ile] using hb5
  rw [if_pos hb5] at hx2o
  refine VW.skip ?_
  refine hK4 _ ?_
  refine VW.sqc fun K6 hK6 hCK6 => ?_
  refine VW.block ?_
  -- region 4
  obtain ⟨v7, hv7, hx2o⟩ := bind_some hx2o
  obtain ⟨hv7a, hv7b, hv7c, hv7d⟩ := idx_some hv7
  refine VW.ws tau_ok Sound.none [some 12, some 13, some 14, some 15, none] [(0, .ref 0 [] true (dI (s2.1.set s2.2.2.toNat s2.2.1))), (1, .val (i64 s2.2.1)), (5, .val (i64 s2.2.2))] rfl ?_ ?_
  · simp [hv7a, hv7b, hv7c, hv7d] <;> simp [ieq, ilt, ile]
  -- region 5
  refine VW.wr tau_ok Sound.none [some 16, some 17, some 1] [(0, .ref 0 [] true (dI (s2.1.set s2.2.2.toNat s2.2.1))), (1, .val (i64 (w64 (s2.2.1 + 1)))), (5, .val (i64 s2.2.2))] rfl ?_ ?_
  · simp <;> simp [ieq, ilt, ile]
  refine hK6 _ ?_
  -- region 3
  refine VW.wr tau_ok Sound.none [some 10, some 11, some 5] [(0, .ref 0 [] true (dI (s2.1.set s2.2.2.toNat s2.2.1))), (1, .val (i64 (w64 (s2.2.1 + 1)))), (5, .val (i64 (w64 (s2.2.2 + 1))))] rfl ?_ ?_
  · simp <;> simp [ieq, ilt, ile]
  cases hx2o
  exact ⟨_, rfl, Fits.of rfl⟩

theorem l_markInt64SS_ok {a0 : List (List Int)} {a1 : Int} {r : Int × (List (List Int))} (h : l_markInt64SS a0 a1 = some r) :
    VMut Try.prog 24 (dM a0) [i64 a1] (i64 r.1) (dM r.2) := by
  unfold l_markInt64SS at h
  refine VMut.enter Try.call24 Try.func24 rfl 19 Try.ntmps24 (by simp) [.tmp 4] rfl ?_
  show VW _ _ _ (mk [(0, .ref 0 [] true (dM a0)), (1, .val (i64 a1))]) _
  -- region 0
  refine VW.ws tau_ok Sound.none [some 4] [(0, .ref 0 [] true (dM a0)), (1, .val (i64 a1))] rfl ?_ ?_
  · simp <;> simp [ieq, ilt, ile]
  refine VW.sqc fun K1 hK1 hCK1 => ?_
  -- region 1
  refine VW.ws tau_ok Sound.none [some 5] [(0, .ref 0 [] true (dM a0)), (1, .val (i64 a1)), (5, .val (i64 0))] rfl ?_ ?_
  · simp <;> simp [ieq, ilt, ile]
  obtain ⟨x2, hx2, h⟩ := bind_some h
  refine VW.tlE [(0, .ref 0 [] true (dM x2.1)), (1, .val (i64 x2.2))] (hCK1) ?_ ?_
  · clear hx2
    refine hK1 _ ?_
    -- region 5
    refine VW.ws tau_ok Sound.none [some 18, some 4] [(0, .ref 0 [] true (dM x2.1)), (4, .val (i64 x2.2))] rfl ?_ ?_
    · simp <;> simp [ieq, ilt, ile]
    cases h
    refine VW.ret ?_
    simp [Post, PostM, PostC, PostC2, Nx, Bk]
  refine VW.block ?_
  refine VW.loopF l_markInt64SS_L0 (fun s2 => [(0, .ref 0 [] true (dM s2.1)), (1, .val (i64 s2.2.1)), (5, .val (i64 s2.2.2))]) hx2 (Fits.of rfl) ?_
  clear hx2
  intro s2 ox2 hx2o hx2b
  unfold l_markInt64SS_L0 at hx2o
  refine VW.sqc fun K4 hK4 hCK4 => ?_
  -- region 2
  refine VW.ws tau_ok Sound.none [some 6, some 7, some 8, some 9] [(0, .ref 0 [] true (dM s2.1)), (1, .val (i64 s2.2.1)), (5, .val (i64 s2.2.2)), (9, .val (.bool (ilt s2.2.2 (s2.1.length : Int))))] rfl ?_ ?_
  · simp <;> simp [ieq, ilt, ile]
  refine VW.cond rfl (fun hb5 => ?_) (fun hb5 => ?_)
  rotate_left
  ·
    replace hb5 : ¬ (s2.2.2 < (s2.1.length : Int)) := by simpa [ieq, ilt, ile] using hb5
    rw [if_neg hb5] at hx2o
    refine VW.exit ?_
    cases hx2o
    have hq := hx2b _ rfl
    subst hq
    exact Fits.of rfl
  replace hb5 : s2.2.2 < (s2.1.length : Int) := by simpa [ieq, ilt, ile] using hb5
  rw [if_pos hb5] at hx2o
  refine VW.skip ?_
  refine hK4 _ ?_
  refine VW.sqc fun K6 hK6 hCK6 => ?_
  refine VW.block ?_
  -- region 4
  obtain ⟨v7, hv7, hx2o⟩ := bind_some hx2o
  obtain ⟨hv7a, hv7b, hv7c, hv7d⟩ := idx_some hv7
  obtain ⟨v8, hv8, hx2o⟩ := bind_some hx2o
  refine VW.wr tau_ok (Sound.none.mutc 17 (l_markInt64S_ok hv8)) [some 12, some 13, some 14, some 15, some 16, some 17, some 1] [(0, .ref 0 [] true (dM (s2.1.set s2.2.2.toNat v8.2))), (1, .val (i64 v8.1)), (5, .val (i64 s2.2.2))] rfl ?_ ?_
  · simp [hv7a, hv7b, hv7c, hv7d] <;> simp [ieq, ilt, ile]
  refine hK6 _ ?_
  -- region 3
  refine VW.wr tau_ok Sound.none [some 10, some 11, some 5] [(0, .ref 0 [] true (dM (s2.1.set s2.2.2.toNat v8.2))), (1, .val (i64 v8.1)), (5, .val (i64 (w64 (s2.2.2 + 1))))] rfl ?_ ?_
  · simp <;> simp [ieq, ilt, ile]
  cases hx2o
  exact ⟨_, rfl, Fits.of rfl⟩

theorem l_heldInt64S_ok {a0 : List Int} {a1 : Int} {r : Int} (h : l_heldInt64S a0 a1 = some r) :
    VCall Try.prog 50 [dI a0, i64 a1] [.sc (i64 r)] := by
  unfold l_heldInt64S at h
  refine VCall.enter Try.call50 Try.func50 rfl 21 Try.ntmps50 (by simp) [.tmp 4] rfl ?_
  show VW _ _ _ (mk [(0, .val (dI a0)), (1, .val (i64 a1))]) _
  -- region 0
  refine VW.ws tau_ok Sound.none [some 4] [(0, .val (dI a0)), (1, .val (i64 a1))] rfl ?_ ?_
  · simp <;> simp [ieq, ilt, ile]
  refine VW.sqc fun K1 hK1 hCK1 => ?_
  -- region 1
  refine VW.ws tau_ok Sound.none [some 5] [(0, .val (dI a0)), (1, .val (i64 a1)), (5, .val (i64 0))] rfl ?_ ?_
  · simp <;> simp [ieq, ilt, ile]
  obtain ⟨x2, hx2, h⟩ := bind_some h
  refine VW.tlO (fun y4 => [(1, .val (i64 y4))]) x2 (hCK1) ?_ ?_
  · clear hx2
    rintro y4 rfl
    dsimp only at h
    refine hK1 _ ?_
    -- region 7
    refine VW.ws tau_ok Sound.none [some 20, some 4] [(4, .val (i64 y4))] rfl ?_ ?_
    · simp <;> simp [ieq, ilt, ile]
    cases h
    refine VW.ret ?_
    simp [Post, PostM, PostC, PostC2, Nx, Bk]
  refine VW.block ?_
  refine VW.loopF (l_heldInt64S_L0 a0) (fun s2 => [(0, .val (dI a0)), (1, .val (i64 s2.1)), (5, .val (i64 s2.2))]) hx2 (Fits.of rfl) ?_
  clear hx2
  intro s2 ox2 hx2o hx2b
  unfold l_heldInt64S_L0 at hx2o
  refine VW.sqc fun K5 hK5 hCK5 => ?_
  -- region 2
  refine VW.ws tau_ok Sound.none [some 6, some 7, some 8, some 9] [(0, .val (dI a0)), (1, .val (i64 s2.1)), (5, .val (i64 s2.2)), (9, .val (.bool (ilt s2.2 (a0.length : Int))))] rfl ?_ ?_
  · simp <;> simp [ieq, ilt, ile]
  refine VW.cond rfl (fun hb6 => ?_) (fun hb6 => ?_)
  rotate_left
  ·
    replace hb6 : ¬ (s2.2 < (a0.length : Int)) := by simpa [ieq, ilt, ile] using hb6
    rw [if_neg hb6] at hx2o
    refine VW.exit ?_
    cases hx2o
    have hq := hx2b _ rfl
    subst hq
    exact ⟨_, rfl, Fits.of rfl⟩
  replace hb6 : s2.2 < (a0.length : Int) := by simpa [ieq, ilt, ile] using hb6
  rw [if_pos hb6] at hx2o
  refine VW.skip ?_
  refine hK5 _ ?_
  refine VW.sqc fun K7 hK7 hCK7 => ?_
  refine VW.block ?_
  refine VW.sqc fun K8 hK8 hCK8 => ?_
  -- region 4
  obtain ⟨v9, hv9, hx2o⟩ := bind_some hx2o
  obtain ⟨hv9a, hv9b, hv9c, hv9d⟩ := idx_some hv9
  refine VW.ws tau_ok Sound.none [some 12, some 13, some 14, some 15, some 16, some 17] [(0, .val (dI a0)), (1, .val (i64 s2.1)), (5, .val (i64 s2.2)), (17, .val (.bool (!(ieq v9 s2.1))))] rfl ?_ ?_
  · simp [hv9a, hv9b, hv9c, hv9d] <;> simp [ieq, ilt, ile]
  refine VW.cond rfl (fun hb10 => ?_) (fun hb10 => ?_)
  ·
    replace hb10 : ¬ v9 = s2.1 := by simpa [ieq, ilt, ile] using hb10
    rw [if_pos hb10] at hx2o
    -- region 5
    refine VW.ws tau_ok Sound.none [some 4] [(4, .val (i64 (-1)))] rfl ?_ ?_
    · simp <;> simp [ieq, ilt, ile]
    cases hx2o
    have hq := hx2b _ rfl
    subst hq
    dsimp only at h
    cases h
    refine VW.ret ?_
    simp [Post, PostM, PostC, PostC2, Nx, Bk]
  replace hb10 : ¬ (¬ v9 = s2.1) := by simpa [ieq, ilt, ile] using hb10
  rw [if_neg hb10] at hx2o
  refine VW.skip ?_
  refine hK8 _ ?_
  -- region 6
  refine VW.wr tau_ok Sound.none [some 18, some 19, some 1] [(0, .val (dI a0)), (1, .val (i64 (w64 (s2.1 + 1)))), (5, .val (i64 s2.2))] rfl ?_ ?_
  · simp <;> simp [ieq, ilt, ile]
  refine hK7 _ ?_
  -- region 3
  refine VW.wr tau_ok Sound.none [some 10, some 11, some 5] [(0, .val (dI a0)), (1, .val (i64 (w64 (s2.1 + 1)))), (5, .val (i64 (w64 (s2.2 + 1))))] rfl ?_ ?_
  · simp <;> simp [ieq, ilt, ile]
  cases hx2o
  exact ⟨_, rfl, Fits.of rfl⟩

theorem l_FnExactCharacteristicPolynomial_ok {a0 : Int} {a1 : List (List Int)} {r : Bool} (h : l_FnExactCharacteristicPolynomial a0 a1 = some r) :
    VCall Try.prog 11 [i64 a0, dM a1] [.sc (.bool r)] := by
  unfold l_FnExactCharacteristicPolynomial at h
  refine VCall.enter Try.call11 Try.func11 rfl 101 Try.ntmps11 (by simp) [.tmp 4] rfl ?_
  show VW _ _ _ (mk [(0, .val (i64 a0)), (1, .val (dM a1))]) _
  -- region 0
  refine VW.ws tau_ok Sound.none [some 4] [(0, .val (i64 a0)), (1, .val (dM a1))] rfl ?_ ?_
  · simp <;> simp [ieq, ilt, ile]
  -- region 1
  refine VW.ws tau_ok Sound.none [some 5] [(0, .val (i64 a0)), (1, .val (dM a1)), (5, .val (i64 1048576))] rfl ?_ ?_
  · simp <;> simp [ieq, ilt, ile]
  -- region 2
  obtain ⟨v1, hv1, h⟩ := bind_some h
  refine VW.ws tau_ok (Sound.none.add 18 (l_szInt64SS_ok hv1) rfl) [some 16, some 17, some 18, some 5] [(0, .val (i64 a0)), (1, .val (dM a1)), (5, .val (i64 v1))] rfl ?_ ?_
  · simp <;> simp [ieq, ilt, ile]
  refine VW.sqc fun K2 hK2 hCK2 => ?_
  -- region 3
  refine VW.ws tau_ok Sound.none [some 19, some 20] [(0, .val (i64 a0)), (1, .val (dM a1)), (20, .val (.bool (ilt v1 0)))] rfl ?_ ?_
  · simp <;> simp [ieq, ilt, ile]
  refine VW.cond rfl (fun hb3 => ?_) (fun hb3 => ?_)
  ·
    replace hb3 : v1 < 0 := by simpa [ieq, ilt, ile] using hb3
    rw [if_pos hb3] at h
    -- region 4
    refine VW.ws tau_ok Sound.none [some 4] [(4, .val (.bool true))] rfl ?_ ?_
    · simp <;> simp [ieq, ilt, ile]
    cases h
    refine VW.ret ?_
    simp [Post, PostM, PostC, PostC2, Nx, Bk]
  replace hb3 : ¬ (v1 < 0) := by simpa [ieq, ilt, ile] using hb3
  rw [if_neg hb3] at h
  refine VW.skip ?_
  refine hK2 _ ?_
  -- region 5
  obtain ⟨v4, hv4, h⟩ := bind_some h
  obtain ⟨v5, hv5, h⟩ := bind_some h
  refine VW.ws tau_ok ((Sound.none.add 24 (l_toInt64SS_ok hv4) rfl).add 25 (s_CharacteristicPolynomial_ok hv5) rfl) [some 22, some 23, some 24, some 25, some 21, some 26, some 27, some 6, some 7] [(0, .val (i64 a0)), (1, .val (dM a1)), (6, .val (dI v5.1)), (7, .val (i64 v5.2))] rfl ?_ ?_
  · simp <;> simp [ieq, ilt, ile]
  -- region 6
  obtain ⟨v6, hv6, h⟩ := bind_some h
  refine VW.ws tau_ok (Sound.none.add 29 (l_toInt64SS_ok hv6) rfl) [some 28, some 29, some 8] [(0, .val (i64 a0)), (1, .val (dM a1)), (6, .val (dI v5.1)), (7, .val (i64 v5.2)), (8, .ref 8 [] true (dM v6))] rfl ?_ ?_
  · simp <;> simp [ieq, ilt, ile]
  -- region 7
  obtain ⟨v7, hv7, h⟩ := bind_some h
  refine VW.ws tau_ok (Sound.none.add 33 (i_CharacteristicPolynomial_ok hv7) rfl) [some 31, some 32, some 33, some 30, some 34, some 35, some 9, some 10] [(0, .val (i64 a0)), (1, .val (dM a1)), (6, .val (dI v5.1)), (7, .val (i64 v5.2)), (8, .ref 8 [] true (dM v6)), (9, .ref 9 [] true (dI v7.1)), (10, .val (i64 v7.2))] rfl ?_ ?_
  · simp <;> simp [ieq, ilt, ile]
  refine VW.sqc fun K8 hK8 hCK8 => ?_
  -- region 8
  obtain ⟨x11, hx11, h⟩ := bind_some h
  refine VW.cut [(0, .val (i64 a0)), (1, .val (dM a1)), (6, .val (dI v5.1)), (7, .val (i64 v5.2)), (8, .ref 8 [] true (dM v6)), (9, .ref 9 [] true (dI v7.1)), (10, .val (i64 v7.2)), (44, .val (.bool x11))] ?_ fun hy => ?_
  rotate_left
  · clear h
    obtain ⟨v9, hv9, hx11⟩ := bind_some hx11
    by_cases hp10 : v9 = false
    · rw [if_pos hp10] at hx11
      have hp10b : v9 = false := by simpa [ieq, ilt, ile] using hp10
      have hp10s := hp10b
      try simp at hp10s
      cases hx11
      refine VW.ws tau_ok (Sound.none.add 38 (l_eqInt64S_ok hv9) rfl) [some 36, some 37, some 38, some 39, some 40, some 41, some 42, some 43, some 44] _ rfl ?_ hy
      simp [hp10b, hp10s] <;> simp [ieq, ilt, ile]
    · rw [if_neg hp10] at hx11
      have hp10b : v9 = true := by simpa [ieq, ilt, ile] using hp10
      have hp10s := hp10b
      try simp at hp10s
      cases hx11
      refine VW.ws tau_ok (Sound.none.add 38 (l_eqInt64S_ok hv9) rfl) [some 36, some 37, some 38, some 39, some 40, some 41, some 42, some 43, some 44] _ rfl ?_ hy
      simp [hp10b, hp10s] <;> simp [ieq, ilt, ile]
  refine VW.cond rfl (fun hb12 => ?_) (fun hb12 => ?_)
  ·
    replace hb12 : x11 = true := by simpa [ieq, ilt, ile] using hb12
    rw [if_pos hb12] at h
    -- region 9
    refine VW.ws tau_ok Sound.none [some 4] [(4, .val (.bool false))] rfl ?_ ?_
    · simp <;> simp [ieq, ilt, ile]
    cases h
    refine VW.ret ?_
    simp [Post, PostM, PostC, PostC2, Nx, Bk]
  replace hb12 : ¬ (x11 = true) := by simpa [ieq, ilt, ile] using hb12
  rw [if_neg hb12] at h
  refine VW.skip ?_
  refine hK8 _ ?_
  refine VW.sqc fun K13 hK13 hCK13 => ?_
  -- region 10
  obtain ⟨v14, hv14, h⟩ := bind_some h
  obtain ⟨v15, hv15, h⟩ := bind_some h
  refine VW.ws tau_ok ((Sound.none.add 47 (l_toInt64SS_ok hv14) rfl).add 48 (l_eqInt64SS_ok hv15) rfl) [some 45, some 46, some 47, some 48, some 49] [(0, .val (i64 a0)), (1, .val (dM a1)), (6, .val (dI v5.1)), (7, .val (i64 v5.2)), (8, .ref 8 [] true (dM v6)), (9, .ref 9 [] true (dI v7.1)), (10, .val (i64 v7.2)), (49, .val (.bool (!v15)))] rfl ?_ ?_
  · simp <;> simp [ieq, ilt, ile]
  refine VW.cond rfl (fun hb16 => ?_) (fun hb16 => ?_)
  ·
    replace hb16 : v15 = false := by simpa [ieq, ilt, ile] using hb16
    rw [if_pos hb16] at h
    -- region 11
    refine VW.ws tau_ok Sound.none [some 4] [(4, .val (.bool false))] rfl ?_ ?_
    · simp <;> simp [ieq, ilt, ile]
    cases h
    refine VW.ret ?_
    simp [Post, PostM, PostC, PostC2, Nx, Bk]
  replace hb16 : ¬ (v15 = false) := by simpa [ieq, ilt, ile] using hb16
  rw [if_neg hb16] at h
  refine VW.skip ?_
  refine hK13 _ ?_
  -- region 12
  refine VW.ws tau_ok Sound.none [some 11] [(0, .val (i64 a0)), (1, .val (dM a1)), (6, .val (dI v5.1)), (7, .val (i64 v5.2)), (8, .ref 8 [] true (dM v6)), (9, .ref 9 [] true (dI v7.1)), (10, .val (i64 v7.2)), (11, .val (i64 1))] rfl ?_ ?_
  · simp <;> simp [ieq, ilt, ile]
  -- region 13
  obtain ⟨v17, hv17, h⟩ := bind_some h
  refine VW.ws tau_ok (Sound.none.mutc 52 (l_markInt64SS_ok hv17)) [some 50, some 51, some 52, some 11] [(0, .val (i64 a0)), (1, .val (dM a1)), (6, .val (dI v5.1)), (7, .val (i64 v5.2)), (9, .ref 9 [] true (dI v7.1)), (10, .val (i64 v7.2)), (11, .val (i64 v17.1))] rfl ?_ ?_
  · simp <;> simp [ieq, ilt, ile]
  refine VW.sqc fun K18 hK18 hCK18 => ?_
  -- region 14
  obtain ⟨x22, hx22, h⟩ := bind_some h
  refine VW.cut [(0, .val (i64 a0)), (1, .val (dM a1)), (6, .val (dI v5.1)), (7, .val (i64 v5.2)), (9, .ref 9 [] true (dI v7.1)), (65, .val (.bool x22))] ?_ fun hy => ?_
  rotate_left
  · clear h
    by_cases hp19 : v17.1 < 0
    · rw [if_pos hp19] at hx22
      have hp19b : ilt v17.1 0 = true := by simpa [ieq, ilt, ile] using hp19
      have hp19s := hp19b
      try simp at hp19s
      cases hx22
      refine VW.ws tau_ok Sound.none [some 53, some 54, some 55, some 56, some 57, some 58, some 59, some 60, some 61, some 62, some 63, some 64, some 65] _ rfl ?_ hy
      simp [hp19b, hp19s] <;> simp [ieq, ilt, ile]
    · rw [if_neg hp19] at hx22
      have hp19b : ilt v17.1 0 = false := by simpa [ieq, ilt, ile] using hp19
      have hp19s := hp19b
      try simp at hp19s
      obtain ⟨v20, hv20, hx22⟩ := bind_some hx22
      by_cases hp21 : v20 = false
      · rw [if_pos hp21] at hx22
        have hp21b : v20 = false := by simpa [ieq, ilt, ile] using hp21
        have hp21s := hp21b
        try simp at hp21s
        cases hx22
        refine VW.ws tau_ok (Sound.none.add 58 (l_eqInt64S_ok hv20) rfl) [some 53, some 54, some 55, some 56, some 57, some 58, some 59, some 60, some 61, some 62, some 63, some 64, some 65] _ rfl ?_ hy
        simp [hp19b, hp19s, hp21b, hp21s] <;> simp [ieq, ilt, ile]
      · rw [if_neg hp21] at hx22
        have hp21b : v20 = true := by simpa [ieq, ilt, ile] using hp21
        have hp21s := hp21b
        try simp at hp21s
        cases hx22
        refine VW.ws tau_ok (Sound.none.add 58 (l_eqInt64S_ok hv20) rfl) [some 53, some 54, some 55, some 56, some 57, some 58, some 59, some 60, some 61, some 62, some 63, some 64, some 65] _ rfl ?_ hy
        simp [hp19b, hp19s, hp21b, hp21s] <;> simp [ieq, ilt, ile]
  refine VW.cond rfl (fun hb23 => ?_) (fun hb23 => ?_)
  ·
    replace hb23 : x22 = true := by simpa [ieq, ilt, ile] using hb23
    rw [if_pos hb23] at h
    -- region 15
    refine VW.ws tau_ok Sound.none [some 4] [(4, .val (.bool false))] rfl ?_ ?_
    · simp <;> simp [ieq, ilt, ile]
    cases h
    refine VW.ret ?_
    simp [Post, PostM, PostC, PostC2, Nx, Bk]
  replace hb23 : ¬ (x22 = true) := by simpa [ieq, ilt, ile] using hb23
  rw [if_neg hb23] at h
  refine VW.skip ?_
  refine hK18 _ ?_
  -- region 16
  refine VW.ws tau_ok Sound.none [some 12] [(0, .val (i64 a0)), (1, .val (dM a1)), (6, .val (dI v5.1)), (7, .val (i64 v5.2)), (9, .ref 9 [] true (dI v7.1)), (12, .val (i64 1))] rfl ?_ ?_
  · simp <;> simp [ieq, ilt, ile]
  -- region 17
  obtain ⟨v24, hv24, h⟩ := bind_some h
  refine VW.ws tau_ok (Sound.none.mutc 68 (l_markInt64S_ok hv24)) [some 66, some 67, some 68, some 12] [(0, .val (i64 a0)), (1, .val (dM a1)), (6, .val (dI v5.1)), (7, .val (i64 v5.2)), (9, .ref 9 [] true (dI v24.2)), (12, .val (i64 v24.1))] rfl ?_ ?_
  · simp <;> simp [ieq, ilt, ile]
  -- region 18
  refine VW.ws tau_ok Sound.none [some 13] [(0, .val (i64 a0)), (1, .val (dM a1)), (6, .val (dI v5.1)), (7, .val (i64 v5.2)), (9, .ref 9 [] true (dI v24.2)), (12, .val (i64 v24.1)), (13, .val (i64 1))] rfl ?_ ?_
  · simp <;> simp [ieq, ilt, ile]
  -- region 19
  obtain ⟨v25, hv25, h⟩ := bind_some h
  refine VW.ws tau_ok (Sound.none.add 71 (l_heldInt64S_ok hv25) rfl) [some 69, some 70, some 71, some 13] [(0, .val (i64 a0)), (1, .val (dM a1)), (6, .val (dI v5.1)), (7, .val (i64 v5.2)), (9, .ref 9 [] true (dI v24.2)), (12, .val (i64 v24.1)), (13, .val (i64 v25))] rfl ?_ ?_
  · simp <;> simp [ieq, ilt, ile]
  refine VW.sqc fun K26 hK26 hCK26 => ?_
  -- region 20
  refine VW.ws tau_ok Sound.none [some 72, some 73] [(0, .val (i64 a0)), (1, .val (dM a1)), (6, .val (dI v5.1)), (7, .val (i64 v5.2)), (9, .ref 9 [] true (dI v24.2)), (12, .val (i64 v24.1)), (13, .val (i64 v25)), (73, .val (.bool (ilt v25 0)))] rfl ?_ ?_
  · simp <;> simp [ieq, ilt, ile]
  refine VW.cond rfl (fun hb27 => ?_) (fun hb27 => ?_)
  ·
    replace hb27 : v25 < 0 := by simpa [ieq, ilt, ile] using hb27
    rw [if_pos hb27] at h
    -- region 21
    refine VW.ws tau_ok Sound.none [some 4] [(4, .val (.bool false))] rfl ?_ ?_
    · simp <;> simp [ieq, ilt, ile]
    cases h
    refine VW.ret ?_
    simp [Post, PostM, PostC, PostC2, Nx, Bk]
  replace hb27 : ¬ (v25 < 0) := by simpa [ieq, ilt, ile] using hb27
  rw [if_neg hb27] at h
  refine VW.skip ?_
  refine hK26 _ ?_
  refine VW.sqc fun K28 hK28 hCK28 => ?_
  -- region 22
  refine VW.ws tau_ok Sound.none [some 74, some 75, some 76] [(0, .val (i64 a0)), (1, .val (dM a1)), (6, .val (dI v5.1)), (7, .val (i64 v5.2)), (9, .ref 9 [] true (dI v24.2)), (12, .val (i64 v24.1)), (76, .val (.bool (!(ieq v25 v24.1))))] rfl ?_ ?_
  · simp <;> simp [ieq, ilt, ile]
  refine VW.cond rfl (fun hb29 => ?_) (fun hb29 => ?_)
  ·
    replace hb29 : ¬ v25 = v24.1 := by simpa [ieq, ilt, ile] using hb29
    rw [if_pos hb29] at h
    -- region 23
    refine VW.ws tau_ok Sound.none [some 4] [(4, .val (.bool false))] rfl ?_ ?_
    · simp <;> simp [ieq, ilt, ile]
    cases h
    refine VW.ret ?_
    simp [Post, PostM, PostC, PostC2, Nx, Bk]
  replace hb29 : ¬ (¬ v25 = v24.1) := by simpa [ieq, ilt, ile] using hb29
  rw [if_neg hb29] at h
  refine VW.skip ?_
  refine hK28 _ ?_
  -- region 24
  obtain ⟨v30, hv30, h⟩ := bind_some h
  obtain ⟨v31, hv31, h⟩ := bind_some h
  refine VW.ws tau_ok ((Sound.none.add 80 (l_toInt64SS_ok hv30) rfl).add 81 (i_CharacteristicPolynomial_ok hv31) rfl) [some 78, some 79, some 80, some 81, some 77, some 82, some 83, some 14, some 15] [(6, .val (dI v5.1)), (7, .val (i64 v5.2)), (9, .ref 9 [] true (dI v24.2)), (12, .val (i64 v24.1)), (14, .ref 14 [] true (dI v31.1)), (15, .val (i64 v31.2))] rfl ?_ ?_
  · simp <;> simp [ieq, ilt, ile]
  refine VW.sqc fun K32 hK32 hCK32 => ?_
  -- region 25
  obtain ⟨x35, hx35, h⟩ := bind_some h
  refine VW.cut [(9, .ref 9 [] true (dI v24.2)), (12, .val (i64 v24.1)), (92, .val (.bool x35))] ?_ fun hy => ?_
  rotate_left
  · clear h
    obtain ⟨v33, hv33, hx35⟩ := bind_some hx35
    by_cases hp34 : v33 = false
    · rw [if_pos hp34] at hx35
      have hp34b : v33 = false := by simpa [ieq, ilt, ile] using hp34
      have hp34s := hp34b
      try simp at hp34s
      cases hx35
      refine VW.ws tau_ok (Sound.none.add 86 (l_eqInt64S_ok hv33) rfl) [some 84, some 85, some 86, some 87, some 88, some 89, some 90, some 91, some 92] _ rfl ?_ hy
      simp [hp34b, hp34s] <;> simp [ieq, ilt, ile]
    · rw [if_neg hp34] at hx35
      have hp34b : v33 = true := by simpa [ieq, ilt, ile] using hp34
      have hp34s := hp34b
      try simp at hp34s
      cases hx35
      refine VW.ws tau_ok (Sound.none.add 86 (l_eqInt64S_ok hv33) rfl) [some 84, some 85, some 86, some 87, some 88, some 89, some 90, some 91, some 92] _ rfl ?_ hy
      simp [hp34b, hp34s] <;> simp [ieq, ilt, ile]
  refine VW.cond rfl (fun hb36 => ?_) (fun hb36 => ?_)
  ·
    replace hb36 : x35 = true := by simpa [ieq, ilt, ile] using hb36
    rw [if_pos hb36] at h
    -- region 26
    refine VW.ws tau_ok Sound.none [some 4] [(4, .val (.bool false))] rfl ?_ ?_
    · simp <;> simp [ieq, ilt, ile]
    cases h
    refine VW.ret ?_
    simp [Post, PostM, PostC, PostC2, Nx, Bk]
  replace hb36 : ¬ (x35 = true) := by simpa [ieq, ilt, ile] using hb36
  rw [if_neg hb36] at h
  refine VW.skip ?_
  refine hK32 _ ?_
  -- region 27
  refine VW.ws tau_ok Sound.none [some 13] [(9, .ref 9 [] true (dI v24.2)), (12, .val (i64 v24.1)), (13, .val (i64 1))] rfl ?_ ?_
  · simp <;> simp [ieq, ilt, ile]
  -- region 28
  obtain ⟨v37, hv37, h⟩ := bind_some h
  refine VW.ws tau_ok (Sound.none.add 95 (l_heldInt64S_ok hv37) rfl) [some 93, some 94, some 95, some 13] [(12, .val (i64 v24.1)), (13, .val (i64 v37))] rfl ?_ ?_
  · simp <;> simp [ieq, ilt, ile]
  refine VW.sqc fun K38 hK38 hCK38 => ?_
  -- region 29
  refine VW.ws tau_ok Sound.none [some 96, some 97] [(12, .val (i64 v24.1)), (13, .val (i64 v37)), (97, .val (.bool (ilt v37 0)))] rfl ?_ ?_
  · simp <;> simp [ieq, ilt, ile]
  refine VW.cond rfl (fun hb39 => ?_) (fun hb39 => ?_)
  ·
    replace hb39 : v37 < 0 := by simpa [ieq, ilt, ile] using hb39
    rw [if_pos hb39] at h
    -- region 30
    refine VW.ws tau_ok Sound.none [some 4] [(4, .val (.bool false))] rfl ?_ ?_
    · simp <;> simp [ieq, ilt, ile]
    cases h
    refine VW.ret ?_
    simp [Post, PostM, PostC, PostC2, Nx, Bk]
  replace hb39 : ¬ (v37 < 0) := by simpa [ieq, ilt, ile] using hb39
  rw [if_neg hb39] at h
  refine VW.skip ?_
  refine hK38 _ ?_
  refine VW.sqc fun K40 hK40 hCK40 => ?_
  -- region 31
  refine VW.ws tau_ok Sound.none [some 98, some 99, some 100] [(100, .val (.bool (!(ieq v37 v24.1))))] rfl ?_ ?_
  · simp <;> simp [ieq, ilt, ile]
  refine VW.cond rfl (fun hb41 => ?_) (fun hb41 => ?_)
  ·
    replace hb41 : ¬ v37 = v24.1 := by simpa [ieq, ilt, ile] using hb41
    rw [if_pos hb41] at h
    -- region 32
    refine VW.ws tau_ok Sound.none [some 4] [(4, .val (.bool false))] rfl ?_ ?_
    · simp <;> simp [ieq, ilt, ile]
    cases h
    refine VW.ret ?_
    simp [Post, PostM, PostC, PostC2, Nx, Bk]
  replace hb41 : ¬ (¬ v37 = v24.1) := by simpa [ieq, ilt, ile] using hb41
  rw [if_neg hb41] at h
  refine VW.skip ?_
  refine hK40 _ ?_
  -- region 33
  refine VW.ws tau_ok Sound.none [some 4] [(4, .val (.bool true))] rfl ?_ ?_
  · simp <;> simp [ieq, ilt, ile]
  cases h
  refine VW.ret ?_
  simp [Post, PostM, PostC, PostC2, Nx, Bk]
end Go.Vam
