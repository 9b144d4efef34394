import Derived.Test.YtijmfifejmgeaaaR9T
import Derived.Test.YtijmfifejmgeaaaFmG0
namespace Go.Vam
open Go Go.RowKit Go.Proofs
set_option maxRecDepth 100000
set_option linter.unusedSimpArgs false
set_option linter.unusedVariables false

theorem l_big_ok {a0 : List Int} {r : Bool} (h : l_big a0 = some r) :
    VCall Try.prog 23 [.list (a0.map (D.int .u8))] [.sc (.bool r)] := by
  unfold l_big at h
  refine VCall.enter Try.call23 Try.func23 rfl 6 Try.ntmps23 (by simp) [.tmp 2] rfl ?_
  show VW _ _ _ (mk [(0, .val (.list (a0.map (D.int .u8))))]) _
  refine VW.ws tau_ok Sound.none [some 2] [(0, .val (.list (a0.map (D.int .u8))))] rfl ?_ ?_
  · simp <;> simp [ieq, ilt, ile]
  refine VW.ws tau_ok Sound.none [some 3, some 4, some 5, some 2] [(2, .val (.bool (ilt 4096 (a0.length : Int))))] rfl ?_ ?_
  · simp <;> simp [ieq, ilt, ile]
  cases h
  refine VW.ret ?_
  simp [Post, PostM, PostC, PostC2, Nx, Bk]

theorem s_l01From_ok {a0 : List Int} {r : (List Int) × Int × Int} (h : s_l01From a0 = some r) :
    VCall Try.prog 85 [.list (a0.map (D.int .u8))] [.own false (.ptr [.list (r.1.map (D.int .u8)), i64 r.2.1, .int .u64 r.2.2])] := by
  unfold s_l01From at h
  refine VCall.enter Try.call85 Try.func85 rfl 38 Try.ntmps85 (by simp) [.tmp 2] rfl ?_
  show VW _ _ _ (mk [(0, .val (.list (a0.map (D.int .u8))))]) _
  refine VW.ws tau_ok Sound.none [some 2] [(0, .val (.list (a0.map (D.int .u8))))] rfl ?_ ?_
  · simp <;> simp [ieq, ilt, ile]
  refine VW.ws tau_ok Sound.none [some 5, some 6, some 7, some 8, some 9, some 10, some 11, some 3] [(0, .val (.list (a0.map (D.int .u8)))), (3, .ref 3 [] false (.ptr [.list (a0.map (D.int .u8)), i64 0, .int .u64 (IntKind.u64.wrap (4409 + (IntKind.u64.wrap ((a0.length : Int)))))]))] rfl ?_ ?_
  · simp <;> simp [ieq, ilt, ile]
  refine VW.sqc fun K1 hK1 hCK1 => ?_
  refine VW.ws tau_ok Sound.none [some 4] [(0, .val (.list (a0.map (D.int .u8)))), (3, .ref 3 [] false (.ptr [.list (a0.map (D.int .u8)), i64 0, .int .u64 (IntKind.u64.wrap (4409 + (IntKind.u64.wrap ((a0.length : Int)))))])), (4, .val (i64 0))] rfl ?_ ?_
  · simp <;> simp [ieq, ilt, ile]
  obtain ⟨x2, hx2, h⟩ := bind_some h
  refine VW.tlE [(3, .ref 3 [] false (.ptr [.list (x2.1.map (D.int .u8)), i64 x2.2.1, .int .u64 x2.2.2]))] (hCK1) ?_ ?_
  · clear hx2
    refine hK1 _ ?_
    refine VW.ws tau_ok Sound.none [some 37, some 2] [(2, .ref 2 [] false (.ptr [.list (x2.1.map (D.int .u8)), i64 x2.2.1, .int .u64 x2.2.2]))] rfl ?_ ?_
    · simp <;> simp [ieq, ilt, ile]
    cases h
    refine VW.ret ?_
    simp [Post, PostM, PostC, PostC2, Nx, Bk]
  refine VW.block ?_
  refine VW.loopF (s_l01From_L0 a0) (fun s2 => [(0, .val (.list (a0.map (D.int .u8)))), (3, .ref 3 [] false (.ptr [.list (s2.1.map (D.int .u8)), i64 s2.2.1, .int .u64 s2.2.2.1])), (4, .val (i64 s2.2.2.2))]) hx2 (Fits.of rfl) ?_
  clear hx2
  intro s2 ox2 hx2o hx2b
  unfold s_l01From_L0 at hx2o
  refine VW.sqc fun K4 hK4 hCK4 => ?_
  obtain ⟨x6, hx6, hx2o⟩ := bind_some hx2o
  refine VW.cut [(0, .val (.list (a0.map (D.int .u8)))), (3, .ref 3 [] false (.ptr [.list (s2.1.map (D.int .u8)), i64 s2.2.1, .int .u64 s2.2.2.1])), (4, .val (i64 s2.2.2.2)), (19, .val (.bool x6))] ?_ fun hy => ?_
  rotate_left
  · clear hx2o
    by_cases hp5 : s2.2.2.2 < (a0.length : Int)
    · rw [if_pos hp5] at hx6
      have hp5b : ilt s2.2.2.2 (a0.length : Int) = true := by simpa [ieq, ilt, ile] using hp5
      have hp5s := hp5b
      try simp at hp5s
      cases hx6
      refine VW.ws tau_ok Sound.none [some 12, some 13, some 14, some 15, some 16, some 17, some 18, some 19] _ rfl ?_ hy
      simp [hp5b, hp5s] <;> simp [ieq, ilt, ile]
    · rw [if_neg hp5] at hx6
      have hp5b : ilt s2.2.2.2 (a0.length : Int) = false := by simpa [ieq, ilt, ile] using hp5
      have hp5s := hp5b
      try simp at hp5s
      cases hx6
      refine VW.ws tau_ok Sound.none [some 12, some 13, some 14, some 15, some 16, some 17, some 18, some 19] _ rfl ?_ hy
      simp [hp5b, hp5s] <;> simp [ieq, ilt, ile]
  refine VW.cond rfl (fun hb7 => ?_) (fun hb7 => ?_)
  rotate_left
  ·
    replace hb7 : ¬ (x6 = true) := by simpa [ieq, ilt, ile] using hb7
    rw [if_neg hb7] at hx2o
    refine VW.exit ?_
    cases hx2o
    have hq := hx2b _ rfl
    subst hq
    exact Fits.of rfl
  replace hb7 : x6 = true := by simpa [ieq, ilt, ile] using hb7
  rw [if_pos hb7] at hx2o
  refine VW.skip ?_
  refine hK4 _ ?_
  refine VW.sqc fun K8 hK8 hCK8 => ?_
  refine VW.block ?_
  obtain ⟨v9, hv9, hx2o⟩ := bind_some hx2o
  obtain ⟨hv9a, hv9b, hv9c, hv9d⟩ := idx_some hv9
  refine VW.wdr tau_ok Sound.none try_mixed [some 22, some 23, some 24, some 25, some 26, some 27, some 28, some 29, some 30, some 31, some 32, some 33, some 34, some 35, some 36, none] [(0, .val (.list (a0.map (D.int .u8)))), (3, .ref 3 [] false (.ptr [.list (s2.1.map (D.int .u8)), i64 s2.2.1, .int .u64 (IntKind.u64.wrap ((IntKind.u64.wrap ((IntKind.u64.wrap (s2.2.2.1 * 1099511628211)) + (IntKind.u64.wrap (v9)))) + 11))])), (4, .val (i64 s2.2.2.2))] 15 rfl (by kernel_rfl) (by rfl) ?_ ?_
  · simp [hv9a, hv9b, hv9c, hv9d] <;> simp [ieq, ilt, ile]
  refine hK8 _ ?_
  refine VW.wr tau_ok Sound.none [some 20, some 21, some 4] [(0, .val (.list (a0.map (D.int .u8)))), (3, .ref 3 [] false (.ptr [.list (s2.1.map (D.int .u8)), i64 s2.2.1, .int .u64 (IntKind.u64.wrap ((IntKind.u64.wrap ((IntKind.u64.wrap (s2.2.2.1 * 1099511628211)) + (IntKind.u64.wrap (v9)))) + 11))])), (4, .val (i64 (w64 (s2.2.2.2 + 1))))] rfl ?_ ?_
  · simp <;> simp [ieq, ilt, ile]
  cases hx2o
  exact ⟨_, rfl, Fits.of rfl⟩

theorem s_l01Next_ok {a0_0 : List Int} {a0_1 : Int} {a0_2 : Int} {a1 : Int} {r : Int × ((List Int) × Int × Int)} (h : s_l01Next a0_0 a0_1 a0_2 a1 = some r) :
    VPtr Try.prog 87 [.list (a0_0.map (D.int .u8)), i64 a0_1, .int .u64 a0_2] [i64 a1] [.sc (i64 r.1)] [.list (r.2.1.map (D.int .u8)), i64 r.2.2.1, .int .u64 r.2.2.2] := by
  unfold s_l01Next at h
  refine VPtr.enter Try.call87 Try.func87 rfl 58 Try.ntmps87 (by simp) [.tmp 4] rfl ?_
  show VW _ _ _ (mk [(0, .ref 0 [] false (.ptr [.list (a0_0.map (D.int .u8)), i64 a0_1, .int .u64 a0_2])), (1, .val (i64 a1))]) _
  refine VW.ws tau_ok Sound.none [some 4] [(0, .ref 0 [] false (.ptr [.list (a0_0.map (D.int .u8)), i64 a0_1, .int .u64 a0_2])), (1, .val (i64 a1))] rfl ?_ ?_
  · simp <;> simp [ieq, ilt, ile]
  refine VW.sqc fun K1 hK1 hCK1 => ?_
  refine VW.ws tau_ok Sound.none [some 6, some 7] [(0, .ref 0 [] false (.ptr [.list (a0_0.map (D.int .u8)), i64 a0_1, .int .u64 a0_2])), (1, .val (i64 a1)), (7, .val (.bool (ilt a1 1)))] rfl ?_ ?_
  · simp <;> simp [ieq, ilt, ile]
  refine VW.cond rfl (fun hb2 => ?_) (fun hb2 => ?_)
  ·
    replace hb2 : a1 < 1 := by simpa [ieq, ilt, ile] using hb2
    rw [if_pos hb2] at h
    refine VW.ws tau_ok Sound.none [some 4] [(0, .ref 0 [] false (.ptr [.list (a0_0.map (D.int .u8)), i64 a0_1, .int .u64 a0_2])), (4, .val (i64 0))] rfl ?_ ?_
    · simp <;> simp [ieq, ilt, ile]
    cases h
    refine VW.ret ?_
    simp [PostW, resW, PostWC, resWC, Nx, Bk]
  replace hb2 : ¬ (a1 < 1) := by simpa [ieq, ilt, ile] using hb2
  rw [if_neg hb2] at h
  refine VW.skip ?_
  refine hK1 _ ?_
  refine VW.ws tau_ok Sound.none [some 8, some 9, some 10, some 11, some 12, some 13, some 14, some 15, some 16, none] [(0, .ref 0 [] false (.ptr [.list (a0_0.map (D.int .u8)), i64 a0_1, .int .u64 (IntKind.u64.wrap ((IntKind.u64.wrap (a0_2 * 6364136223846793005)) + 1442695040888963407))])), (1, .val (i64 a1))] rfl ?_ ?_
  · simp <;> simp [ieq, ilt, ile]
  refine VW.ws tau_ok Sound.none [some 17, some 18, some 19, some 20, some 21, some 22, some 23, some 5] [(0, .ref 0 [] false (.ptr [.list (a0_0.map (D.int .u8)), i64 a0_1, .int .u64 (IntKind.u64.wrap ((IntKind.u64.wrap (a0_2 * 6364136223846793005)) + 1442695040888963407))])), (1, .val (i64 a1)), (5, .val (i64 (w64 (band .u64 (shr .u64 (IntKind.u64.wrap ((IntKind.u64.wrap (a0_2 * 6364136223846793005)) + 1442695040888963407)) 33) 16777215))))] rfl ?_ ?_
  · simp <;> simp [ieq, ilt, ile]
  refine VW.sqc fun K3 hK3 hCK3 => ?_
  refine VW.wds tau_ok Sound.none try_mixed [some 24, some 25, some 26, some 27, some 28, some 29, some 30, some 31, some 32, some 33] [(0, .ref 0 [] false (.ptr [.list (a0_0.map (D.int .u8)), i64 a0_1, .int .u64 (IntKind.u64.wrap ((IntKind.u64.wrap (a0_2 * 6364136223846793005)) + 1442695040888963407))])), (1, .val (i64 a1)), (5, .val (i64 (w64 (band .u64 (shr .u64 (IntKind.u64.wrap ((IntKind.u64.wrap (a0_2 * 6364136223846793005)) + 1442695040888963407)) 33) 16777215)))), (33, .val (.bool (ilt a0_1 (a0_0.length : Int))))] 10 rfl (by kernel_rfl) (by rfl) ?_ ?_
  · simp <;> simp [ieq, ilt, ile]
  obtain ⟨x4, hx4, h⟩ := bind_some h
  refine VW.tlE [(0, .ref 0 [] false (.ptr [.list (x4.1.map (D.int .u8)), i64 x4.2.1, .int .u64 x4.2.2.1])), (1, .val (i64 a1)), (5, .val (i64 x4.2.2.2))] (hCK3) ?_ ?_
  · clear hx4
    refine hK3 _ ?_
    obtain ⟨hc8, h⟩ := chk_some h
    have hc8s := hc8
    try simp at hc8s
    refine VW.ws tau_ok Sound.none [some 55, some 56, some 57, some 4] [(0, .ref 0 [] false (.ptr [.list (x4.1.map (D.int .u8)), i64 x4.2.1, .int .u64 x4.2.2.1])), (4, .val (i64 (x4.2.2.2.tmod a1)))] rfl ?_ ?_
    · simp [hc8, hc8s] <;> simp [ieq, ilt, ile]
    cases h
    refine VW.ret ?_
    simp [PostW, resW, PostWC, resWC, Nx, Bk]
  refine VW.cond rfl (fun hb6 => ?_) (fun hb6 => ?_)
  rotate_left
  ·
    replace hb6 : ¬ (a0_1 < (a0_0.length : Int)) := by simpa [ieq, ilt, ile] using hb6
    rw [if_neg hb6] at hx4
    refine VW.skip ?_
    cases hx4
    exact Fits.of rfl
  replace hb6 : a0_1 < (a0_0.length : Int) := by simpa [ieq, ilt, ile] using hb6
  rw [if_pos hb6] at hx4
  obtain ⟨v7, hv7, hx4⟩ := bind_some hx4
  obtain ⟨hv7a, hv7b, hv7c, hv7d⟩ := idx_some hv7
  refine VW.wds tau_ok Sound.none try_mixed [some 34, some 35, some 36, some 37, some 38, some 39, some 40, some 41, some 42, some 43, some 44, some 45, some 46, some 5] [(0, .ref 0 [] false (.ptr [.list (a0_0.map (D.int .u8)), i64 a0_1, .int .u64 (IntKind.u64.wrap ((IntKind.u64.wrap (a0_2 * 6364136223846793005)) + 1442695040888963407))])), (1, .val (i64 a1)), (5, .val (i64 (w64 ((w64 (band .u64 (shr .u64 (IntKind.u64.wrap ((IntKind.u64.wrap (a0_2 * 6364136223846793005)) + 1442695040888963407)) 33) 16777215)) + (w64 (v7))))))] 14 rfl (by kernel_rfl) (by rfl) ?_ ?_
  · simp [hv7a, hv7b, hv7c, hv7d] <;> simp [ieq, ilt, ile]
  refine VW.wr tau_ok Sound.none [some 47, some 48, some 49, some 50, some 51, some 52, some 53, some 54, none] [(0, .ref 0 [] false (.ptr [.list (a0_0.map (D.int .u8)), i64 (w64 (a0_1 + 1)), .int .u64 (IntKind.u64.wrap ((IntKind.u64.wrap (a0_2 * 6364136223846793005)) + 1442695040888963407))])), (1, .val (i64 a1)), (5, .val (i64 (w64 ((w64 (band .u64 (shr .u64 (IntKind.u64.wrap ((IntKind.u64.wrap (a0_2 * 6364136223846793005)) + 1442695040888963407)) 33) 16777215)) + (w64 (v7))))))] rfl ?_ ?_
  · simp <;> simp [ieq, ilt, ile]
  cases hx4
  exact Fits.of rfl

theorem s_l01Pick_ok {a0_0 : List Int} {a0_1 : Int} {a0_2 : Int} {a1 : List Int} {r : Int × ((List Int) × Int × Int)} (h : s_l01Pick a0_0 a0_1 a0_2 a1 = some r) :
    VPtr Try.prog 88 [.list (a0_0.map (D.int .u8)), i64 a0_1, .int .u64 a0_2] [dI a1] [.sc (i64 r.1)] [.list (r.2.1.map (D.int .u8)), i64 r.2.2.1, .int .u64 r.2.2.2] := by
  unfold s_l01Pick at h
  refine VPtr.enter Try.call88 Try.func88 rfl 12 Try.ntmps88 (by simp) [.tmp 4] rfl ?_
  show VW _ _ _ (mk [(0, .ref 0 [] false (.ptr [.list (a0_0.map (D.int .u8)), i64 a0_1, .int .u64 a0_2])), (1, .val (dI a1))]) _
  refine VW.ws tau_ok Sound.none [some 4] [(0, .ref 0 [] false (.ptr [.list (a0_0.map (D.int .u8)), i64 a0_1, .int .u64 a0_2])), (1, .val (dI a1))] rfl ?_ ?_
  · simp <;> simp [ieq, ilt, ile]
  obtain ⟨v1, hv1, h⟩ := bind_some h
  obtain ⟨v2, hv2, h⟩ := bind_some h
  obtain ⟨hv2a, hv2b, hv2c, hv2d⟩ := idx_some hv2
  refine VW.ws tau_ok (Sound.none.ptrc 9 (s_l01Next_ok hv1)) [some 5, some 6, some 7, some 8, some 9, some 10, some 11, some 4] [(0, .ref 0 [] false (.ptr [.list (v1.2.1.map (D.int .u8)), i64 v1.2.2.1, .int .u64 v1.2.2.2])), (4, .val (i64 v2))] rfl ?_ ?_
  · simp [hv2a, hv2b, hv2c, hv2d] <;> simp [ieq, ilt, ile]
  cases h
  refine VW.ret ?_
  simp [PostW, resW, PostWC, resWC, Nx, Bk]

theorem s_l11Draw_ok {a0_0 : List Int} {a0_1 : Int} {a0_2 : Int} {a1 : Int} {r : (Int × (List Int)) × ((List Int) × Int × Int)} (h : s_l11Draw a0_0 a0_1 a0_2 a1 = some r) :
    VPtr Try.prog 164 [.list (a0_0.map (D.int .u8)), i64 a0_1, .int .u64 a0_2] [i64 a1] [.own true (.agg [i64 r.1.1, dI r.1.2])] [.list (r.2.1.map (D.int .u8)), i64 r.2.2.1, .int .u64 r.2.2.2] := by
  unfold s_l11Draw at h
  refine VPtr.enterC Try.call164 Try.func164 rfl 43 Try.ntmps164 (by simp) (tau_ok 39) 4 rfl ?_
  show VW _ _ _ (mk [(0, .ref 0 [] false (.ptr [.list (a0_0.map (D.int .u8)), i64 a0_1, .int .u64 a0_2])), (1, .val (i64 a1))]) _
  refine VW.ws tau_ok Sound.none [some 4] [(0, .ref 0 [] false (.ptr [.list (a0_0.map (D.int .u8)), i64 a0_1, .int .u64 a0_2])), (1, .val (i64 a1)), (4, .ref 4 [] true (.ptr [i64 0, dI []]))] rfl ?_ ?_
  · simp <;> simp [ieq, ilt, ile]
  obtain ⟨v1, hv1, h⟩ := bind_some h
  refine VW.ws tau_ok (Sound.none.ptrc 9 (s_l01Pick_ok hv1)) [some 7, some 8, some 9, some 10, some 5, none] [(0, .ref 0 [] false (.ptr [.list (v1.2.1.map (D.int .u8)), i64 v1.2.2.1, .int .u64 v1.2.2.2])), (1, .val (i64 a1)), (4, .ref 4 [] true (.ptr [i64 0, dI []])), (5, .ref 5 [] true (.ptr [i64 v1.1, dI []]))] rfl ?_ ?_
  · simp <;> simp [ieq, ilt, ile]
  refine VW.sqc fun K2 hK2 hCK2 => ?_
  obtain ⟨v3, hv3, h⟩ := bind_some h
  refine VW.ws tau_ok (Sound.none.ptrc 14 (s_l01Pick_ok hv3)) [some 11, some 12, some 13, some 14, some 15, some 6] [(0, .ref 0 [] false (.ptr [.list (v3.2.1.map (D.int .u8)), i64 v3.2.2.1, .int .u64 v3.2.2.2])), (4, .ref 4 [] true (.ptr [i64 0, dI []])), (5, .ref 5 [] true (.ptr [i64 v1.1, dI []])), (6, .val (i64 (imin a1 v3.1)))] rfl ?_ ?_
  · simp <;> simp [ieq, ilt, ile]
  obtain ⟨x4, hx4, h⟩ := bind_some h
  refine VW.tlE [(0, .ref 0 [] false (.ptr [.list (x4.1.map (D.int .u8)), i64 x4.2.1, .int .u64 x4.2.2.1])), (4, .ref 4 [] true (.ptr [i64 0, dI []])), (5, .ref 5 [] true (.ptr [i64 x4.2.2.2.1, dI x4.2.2.2.2]))] (hCK2) ?_ ?_
  · clear hx4
    refine hK2 _ ?_
    refine VW.ws tau_ok Sound.none [some 42, none] [(0, .ref 0 [] false (.ptr [.list (x4.1.map (D.int .u8)), i64 x4.2.1, .int .u64 x4.2.2.1])), (4, .ref 4 [] true (.ptr [i64 x4.2.2.2.1, dI x4.2.2.2.2]))] rfl ?_ ?_
    · simp <;> simp [ieq, ilt, ile]
    cases h
    refine VW.ret ?_
    simp [PostW, resW, PostWC, resWC, Nx, Bk]
  refine VW.block ?_
  refine VW.loopF s_l11Draw_L0 (fun s4 => [(0, .ref 0 [] false (.ptr [.list (s4.1.map (D.int .u8)), i64 s4.2.1, .int .u64 s4.2.2.1])), (4, .ref 4 [] true (.ptr [i64 0, dI []])), (5, .ref 5 [] true (.ptr [i64 s4.2.2.2.1, dI s4.2.2.2.2.1])), (6, .val (i64 s4.2.2.2.2.2))]) hx4 (Fits.of rfl) ?_
  clear hx4
  intro s4 ox4 hx4o hx4b
  unfold s_l11Draw_L0 at hx4o
  refine VW.sqc fun K6 hK6 hCK6 => ?_
  refine VW.ws tau_ok Sound.none [some 16, some 17] [(0, .ref 0 [] false (.ptr [.list (s4.1.map (D.int .u8)), i64 s4.2.1, .int .u64 s4.2.2.1])), (4, .ref 4 [] true (.ptr [i64 0, dI []])), (5, .ref 5 [] true (.ptr [i64 s4.2.2.2.1, dI s4.2.2.2.2.1])), (6, .val (i64 s4.2.2.2.2.2)), (17, .val (.bool (ilt 0 s4.2.2.2.2.2)))] rfl ?_ ?_
  · simp <;> simp [ieq, ilt, ile]
  refine VW.cond rfl (fun hb7 => ?_) (fun hb7 => ?_)
  rotate_left
  ·
    replace hb7 : ¬ (0 < s4.2.2.2.2.2) := by simpa [ieq, ilt, ile] using hb7
    rw [if_neg hb7] at hx4o
    refine VW.exit ?_
    cases hx4o
    have hq := hx4b _ rfl
    subst hq
    exact Fits.of rfl
  replace hb7 : 0 < s4.2.2.2.2.2 := by simpa [ieq, ilt, ile] using hb7
  rw [if_pos hb7] at hx4o
  refine VW.skip ?_
  refine hK6 _ ?_
  obtain ⟨x8, hx8, hx4o⟩ := bind_some hx4o
  refine VW.sqE [(0, .ref 0 [] false (.ptr [.list (x8.1.map (D.int .u8)), i64 x8.2.1, .int .u64 x8.2.2.1])), (4, .ref 4 [] true (.ptr [i64 0, dI []])), (5, .ref 5 [] true (.ptr [i64 x8.2.2.2.1, dI x8.2.2.2.2])), (6, .val (i64 s4.2.2.2.2.2))] ?_ ?_
  · clear hx8
    refine VW.wr tau_ok Sound.none [some 18, some 19, some 6] [(0, .ref 0 [] false (.ptr [.list (x8.1.map (D.int .u8)), i64 x8.2.1, .int .u64 x8.2.2.1])), (4, .ref 4 [] true (.ptr [i64 0, dI []])), (5, .ref 5 [] true (.ptr [i64 x8.2.2.2.1, dI x8.2.2.2.2])), (6, .val (i64 (w64 (s4.2.2.2.2.2 - 1))))] rfl ?_ ?_
    · simp <;> simp [ieq, ilt, ile]
    cases hx4o
    exact ⟨_, rfl, Fits.of rfl⟩
  refine VW.block ?_
  obtain ⟨v10, hv10, hx8⟩ := bind_some hx8
  refine VW.ws tau_ok (Sound.none.ptrc 21 (s_l01Next_ok hv10)) [some 20, some 21, some 22] [(0, .ref 0 [] false (.ptr [.list (v10.2.1.map (D.int .u8)), i64 v10.2.2.1, .int .u64 v10.2.2.2])), (4, .ref 4 [] true (.ptr [i64 0, dI []])), (5, .ref 5 [] true (.ptr [i64 s4.2.2.2.1, dI s4.2.2.2.2.1])), (6, .val (i64 s4.2.2.2.2.2)), (22, .val (.bool (ieq v10.1 0)))] rfl ?_ ?_
  · simp <;> simp [ieq, ilt, ile]
  refine VW.cond rfl (fun hb11 => ?_) (fun hb11 => ?_)
  ·
    replace hb11 : v10.1 = 0 := by simpa [ieq, ilt, ile] using hb11
    rw [if_pos hb11] at hx8
    obtain ⟨hc12, hx8⟩ := chk_some hx8
    have hc12s := hc12
    try simp at hc12s
    refine VW.wr tau_ok Sound.none [some 23, some 24, some 25, some 26, some 27, some 28, some 29, some 30, none] [(0, .ref 0 [] false (.ptr [.list (v10.2.1.map (D.int .u8)), i64 v10.2.2.1, .int .u64 v10.2.2.2])), (4, .ref 4 [] true (.ptr [i64 0, dI []])), (5, .ref 5 [] true (.ptr [i64 s4.2.2.2.1, dI (s4.2.2.2.2.1 ++ [w64 (s4.2.2.2.1 - 1)])])), (6, .val (i64 s4.2.2.2.2.2))] rfl ?_ ?_
    · simp [hc12, hc12s] <;> simp [ieq, ilt, ile]
    cases hx8
    exact Fits.of rfl
  replace hb11 : ¬ (v10.1 = 0) := by simpa [ieq, ilt, ile] using hb11
  rw [if_neg hb11] at hx8
  obtain ⟨v13, hv13, hx8⟩ := bind_some hx8
  obtain ⟨hc14, hx8⟩ := chk_some hx8
  have hc14s := hc14
  try simp at hc14s
  refine VW.wxr tau_ok (Sound.none.ptrc 37 (s_l01Next_ok hv13)) try_mixed [some 31, some 32, some 33, some 34, some 35, some 36, some 37, some 38, some 39, some 40, some 41, none] [(0, .ref 0 [] false (.ptr [.list (v13.2.1.map (D.int .u8)), i64 v13.2.2.1, .int .u64 v13.2.2.2])), (4, .ref 4 [] true (.ptr [i64 0, dI []])), (5, .ref 5 [] true (.ptr [i64 s4.2.2.2.1, dI (s4.2.2.2.2.1 ++ [w64 (1 + v13.1)])])), (6, .val (i64 s4.2.2.2.2.2))] [1, 1, 0, 0, 0, 0, 2, 0, 2, 3, 0, 3] [[5], [31], [0], [5], [34], [35], [33, 36], [37], [38], [32, 39], [5], [41, 40]] [0, 39] rfl rfl (by kernel_rfl) (by rfl) ?_ ?_
  · simp [hc14, hc14s] <;> simp [ieq, ilt, ile]
  cases hx8
  exact Fits.of rfl

theorem s_l11DrawAny_ok {a0_0 : List Int} {a0_1 : Int} {a0_2 : Int} {a1 : Int} {r : (Int × (List Int)) × ((List Int) × Int × Int)} (h : s_l11DrawAny a0_0 a0_1 a0_2 a1 = some r) :
    VPtr Try.prog 86 [.list (a0_0.map (D.int .u8)), i64 a0_1, .int .u64 a0_2] [i64 a1] [.own true (.agg [i64 r.1.1, dI r.1.2])] [.list (r.2.1.map (D.int .u8)), i64 r.2.2.1, .int .u64 r.2.2.2] := by
  unfold s_l11DrawAny at h
  refine VPtr.enterC Try.call86 Try.func86 rfl 41 Try.ntmps86 (by simp) (tau_ok 39) 4 rfl ?_
  show VW _ _ _ (mk [(0, .ref 0 [] false (.ptr [.list (a0_0.map (D.int .u8)), i64 a0_1, .int .u64 a0_2])), (1, .val (i64 a1))]) _
  refine VW.ws tau_ok Sound.none [some 4] [(0, .ref 0 [] false (.ptr [.list (a0_0.map (D.int .u8)), i64 a0_1, .int .u64 a0_2])), (1, .val (i64 a1)), (4, .ref 4 [] true (.ptr [i64 0, dI []]))] rfl ?_ ?_
  · simp <;> simp [ieq, ilt, ile]
  obtain ⟨v1, hv1, h⟩ := bind_some h
  refine VW.ws tau_ok (Sound.none.ptrc 8 (s_l11Draw_ok hv1)) [some 6, some 7, some 8, some 5, none] [(0, .ref 0 [] false (.ptr [.list (v1.2.1.map (D.int .u8)), i64 v1.2.2.1, .int .u64 v1.2.2.2])), (4, .ref 4 [] true (.ptr [i64 0, dI []])), (5, .ref 5 [] true (.ptr [i64 v1.1.1, dI v1.1.2]))] rfl ?_ ?_
  · simp <;> simp [ieq, ilt, ile]
  refine VW.sqc fun K2 hK2 hCK2 => ?_
  obtain ⟨v3, hv3, h⟩ := bind_some h
  refine VW.ws tau_ok (Sound.none.ptrc 10 (s_l01Next_ok hv3)) [some 9, some 10] [(0, .ref 0 [] false (.ptr [.list (v3.2.1.map (D.int .u8)), i64 v3.2.2.1, .int .u64 v3.2.2.2])), (4, .ref 4 [] true (.ptr [i64 0, dI []])), (5, .ref 5 [] true (.ptr [i64 v1.1.1, dI v1.1.2])), (10, .val (i64 v3.1))] rfl ?_ ?_
  · simp <;> simp [ieq, ilt, ile]
  obtain ⟨x4, hx4, h⟩ := bind_some h
  refine VW.tlE [(0, .ref 0 [] false (.ptr [.list (x4.1.map (D.int .u8)), i64 x4.2.1, .int .u64 x4.2.2.1])), (4, .ref 4 [] true (.ptr [i64 0, dI []])), (5, .ref 5 [] true (.ptr [i64 x4.2.2.2.1, dI x4.2.2.2.2]))] (hCK2) ?_ ?_
  · clear hx4
    refine hK2 _ ?_
    refine VW.ws tau_ok Sound.none [some 40, none] [(0, .ref 0 [] false (.ptr [.list (x4.1.map (D.int .u8)), i64 x4.2.1, .int .u64 x4.2.2.1])), (4, .ref 4 [] true (.ptr [i64 x4.2.2.2.1, dI x4.2.2.2.2]))] rfl ?_ ?_
    · simp <;> simp [ieq, ilt, ile]
    cases h
    refine VW.ret ?_
    simp [PostW, resW, PostWC, resWC, Nx, Bk]
  refine VW.block ?_
  refine VW.ws tau_ok Sound.none [some 12, some 11] [(0, .ref 0 [] false (.ptr [.list (v3.2.1.map (D.int .u8)), i64 v3.2.2.1, .int .u64 v3.2.2.2])), (4, .ref 4 [] true (.ptr [i64 0, dI []])), (5, .ref 5 [] true (.ptr [i64 v1.1.1, dI v1.1.2])), (10, .val (i64 v3.1)), (11, .val (.bool (ieq v3.1 0)))] rfl ?_ ?_
  · simp <;> simp [ieq, ilt, ile]
  refine VW.cond rfl (fun hb6 => ?_) (fun hb6 => ?_)
  ·
    replace hb6 : v3.1 = 0 := by simpa [ieq, ilt, ile] using hb6
    rw [if_pos hb6] at hx4
    obtain ⟨v7, hv7, hx4⟩ := bind_some hx4
    refine VW.wr tau_ok (Sound.none.ptrc 15 (s_l01Pick_ok hv7)) [some 13, some 14, some 15, some 16, none] [(0, .ref 0 [] false (.ptr [.list (v7.2.1.map (D.int .u8)), i64 v7.2.2.1, .int .u64 v7.2.2.2])), (4, .ref 4 [] true (.ptr [i64 0, dI []])), (5, .ref 5 [] true (.ptr [i64 v7.1, dI v1.1.2]))] rfl ?_ ?_
    · simp <;> simp [ieq, ilt, ile]
    cases hx4
    exact Fits.of rfl
  replace hb6 : ¬ (v3.1 = 0) := by simpa [ieq, ilt, ile] using hb6
  rw [if_neg hb6] at hx4
  refine VW.ws tau_ok Sound.none [some 18, some 17] [(0, .ref 0 [] false (.ptr [.list (v3.2.1.map (D.int .u8)), i64 v3.2.2.1, .int .u64 v3.2.2.2])), (4, .ref 4 [] true (.ptr [i64 0, dI []])), (5, .ref 5 [] true (.ptr [i64 v1.1.1, dI v1.1.2])), (10, .val (i64 v3.1)), (17, .val (.bool (ieq v3.1 1)))] rfl ?_ ?_
  · simp <;> simp [ieq, ilt, ile]
  refine VW.cond rfl (fun hb8 => ?_) (fun hb8 => ?_)
  ·
    replace hb8 : v3.1 = 1 := by simpa [ieq, ilt, ile] using hb8
    rw [if_pos hb8] at hx4
    obtain ⟨v9, hv9, hx4⟩ := bind_some hx4
    obtain ⟨hc10, hx4⟩ := chk_some hx4
    have hc10s := hc10
    try simp at hc10s
    refine VW.wxr tau_ok (Sound.none.ptrc 25 (s_l01Pick_ok hv9)) try_mixed [some 19, some 20, some 21, some 22, some 23, some 24, some 25, some 26, some 27, some 28, none] [(0, .ref 0 [] false (.ptr [.list (v9.2.1.map (D.int .u8)), i64 v9.2.2.1, .int .u64 v9.2.2.2])), (4, .ref 4 [] true (.ptr [i64 0, dI []])), (5, .ref 5 [] true (.ptr [i64 v1.1.1, dI (v1.1.2 ++ [v9.1])]))] [1, 1, 0, 0, 0, 0, 2, 2, 3, 0, 3] [[5], [19], [0], [5], [22], [23], [21, 24], [25], [20, 26], [5], [28, 27]] [0, 24, 26] rfl rfl (by kernel_rfl) (by rfl) ?_ ?_
    · simp [hc10, hc10s] <;> simp [ieq, ilt, ile]
    cases hx4
    exact Fits.of rfl
  replace hb8 : ¬ (v3.1 = 1) := by simpa [ieq, ilt, ile] using hb8
  rw [if_neg hb8] at hx4
  refine VW.ws tau_ok Sound.none [some 30, some 29] [(0, .ref 0 [] false (.ptr [.list (v3.2.1.map (D.int .u8)), i64 v3.2.2.1, .int .u64 v3.2.2.2])), (4, .ref 4 [] true (.ptr [i64 0, dI []])), (5, .ref 5 [] true (.ptr [i64 v1.1.1, dI v1.1.2])), (29, .val (.bool (ieq v3.1 2)))] rfl ?_ ?_
  · simp <;> simp [ieq, ilt, ile]
  refine VW.cond rfl (fun hb11 => ?_) (fun hb11 => ?_)
  rotate_left
  ·
    replace hb11 : ¬ (v3.1 = 2) := by simpa [ieq, ilt, ile] using hb11
    rw [if_neg hb11] at hx4
    refine VW.skip ?_
    cases hx4
    exact Fits.of rfl
  replace hb11 : v3.1 = 2 := by simpa [ieq, ilt, ile] using hb11
  rw [if_pos hb11] at hx4
  obtain ⟨x12, hx12, hx4⟩ := bind_some hx4
  refine VW.tlE [(0, .ref 0 [] false (.ptr [.list (v3.2.1.map (D.int .u8)), i64 v3.2.2.1, .int .u64 v3.2.2.2])), (4, .ref 4 [] true (.ptr [i64 0, dI []])), (5, .ref 5 [] true (.ptr [i64 x12.1, dI x12.2]))] (Cl.fits _) ?_ ?_
  · clear hx12
    cases hx4
    exact Fits.of rfl
  refine VW.block ?_
  refine VW.loopF s_l11DrawAny_L0 (fun s12 => [(0, .ref 0 [] false (.ptr [.list (v3.2.1.map (D.int .u8)), i64 v3.2.2.1, .int .u64 v3.2.2.2])), (4, .ref 4 [] true (.ptr [i64 0, dI []])), (5, .ref 5 [] true (.ptr [i64 s12.1, dI s12.2]))]) hx12 (Fits.of rfl) ?_
  clear hx12
  intro s12 ox12 hx12o hx12b
  unfold s_l11DrawAny_L0 at hx12o
  refine VW.sqc fun K14 hK14 hCK14 => ?_
  refine VW.ws tau_ok Sound.none [some 31, some 32, some 33, some 34] [(0, .ref 0 [] false (.ptr [.list (v3.2.1.map (D.int .u8)), i64 v3.2.2.1, .int .u64 v3.2.2.2])), (4, .ref 4 [] true (.ptr [i64 0, dI []])), (5, .ref 5 [] true (.ptr [i64 s12.1, dI s12.2])), (34, .val (.bool (ilt (s12.2.length : Int) 5)))] rfl ?_ ?_
  · simp <;> simp [ieq, ilt, ile]
  refine VW.cond rfl (fun hb15 => ?_) (fun hb15 => ?_)
  rotate_left
  ·
    replace hb15 : ¬ ((s12.2.length : Int) < 5) := by simpa [ieq, ilt, ile] using hb15
    rw [if_neg hb15] at hx12o
    refine VW.exit ?_
    cases hx12o
    have hq := hx12b _ rfl
    subst hq
    exact Fits.of rfl
  replace hb15 : (s12.2.length : Int) < 5 := by simpa [ieq, ilt, ile] using hb15
  rw [if_pos hb15] at hx12o
  refine VW.skip ?_
  refine hK14 _ ?_
  refine VW.block ?_
  obtain ⟨hc16, hx12o⟩ := chk_some hx12o
  have hc16s := hc16
  try simp at hc16s
  refine VW.wr tau_ok Sound.none [some 35, some 36, some 37, some 38, some 39, none] [(0, .ref 0 [] false (.ptr [.list (v3.2.1.map (D.int .u8)), i64 v3.2.2.1, .int .u64 v3.2.2.2])), (4, .ref 4 [] true (.ptr [i64 0, dI []])), (5, .ref 5 [] true (.ptr [i64 s12.1, dI (s12.2 ++ [1])]))] rfl ?_ ?_
  · simp [hc16, hc16s] <;> simp [ieq, ilt, ile]
  cases hx12o
  exact ⟨_, rfl, Fits.of rfl⟩

theorem s_l11DrawElement_ok {a0_0 : List Int} {a0_1 : Int} {a0_2 : Int} {a1_0 : Int} {a1_1 : List Int} {r : (List Int) × ((List Int) × Int × Int)} (h : s_l11DrawElement a0_0 a0_1 a0_2 a1_0 a1_1 = some r) :
    VPtr Try.prog 182 [.list (a0_0.map (D.int .u8)), i64 a0_1, .int .u64 a0_2] [.agg [i64 a1_0, dI a1_1]] [.shr (dI r.1)] [.list (r.2.1.map (D.int .u8)), i64 r.2.2.1, .int .u64 r.2.2.2] := by
  unfold s_l11DrawElement at h
  refine VPtr.enter Try.call182 Try.func182 rfl 54 Try.ntmps182 (by simp) [.tmp 4] rfl ?_
  show VW _ _ _ (mk [(0, .ref 0 [] false (.ptr [.list (a0_0.map (D.int .u8)), i64 a0_1, .int .u64 a0_2])), (1, .val (.agg [i64 a1_0, dI a1_1]))]) _
  refine VW.ws tau_ok Sound.none [some 3, some 4] [(0, .ref 0 [] false (.ptr [.list (a0_0.map (D.int .u8)), i64 a0_1, .int .u64 a0_2])), (3, .val (.ptr [i64 a1_0, dI a1_1]))] rfl ?_ ?_
  · simp <;> simp [ieq, ilt, ile]
  refine VW.ws tau_ok Sound.none [some 9, some 5] [(0, .ref 0 [] false (.ptr [.list (a0_0.map (D.int .u8)), i64 a0_1, .int .u64 a0_2])), (3, .val (.ptr [i64 a1_0, dI a1_1])), (5, .ref 5 [] true (dI []))] rfl ?_ ?_
  · simp <;> simp [ieq, ilt, ile]
  obtain ⟨v1, hv1, h⟩ := bind_some h
  refine VW.ws tau_ok (Sound.none.ptrc 11 (s_l01Next_ok hv1)) [some 10, some 11, some 6] [(0, .ref 0 [] false (.ptr [.list (v1.2.1.map (D.int .u8)), i64 v1.2.2.1, .int .u64 v1.2.2.2])), (3, .val (.ptr [i64 a1_0, dI a1_1])), (5, .ref 5 [] true (dI [])), (6, .val (i64 v1.1))] rfl ?_ ?_
  · simp <;> simp [ieq, ilt, ile]
  refine VW.sqc fun K2 hK2 hCK2 => ?_
  refine VW.ws tau_ok Sound.none [some 7] [(0, .ref 0 [] false (.ptr [.list (v1.2.1.map (D.int .u8)), i64 v1.2.2.1, .int .u64 v1.2.2.2])), (3, .val (.ptr [i64 a1_0, dI a1_1])), (5, .ref 5 [] true (dI [])), (6, .val (i64 v1.1)), (7, .val (i64 0))] rfl ?_ ?_
  · simp <;> simp [ieq, ilt, ile]
  obtain ⟨x3, hx3, h⟩ := bind_some h
  refine VW.tlE [(0, .ref 0 [] false (.ptr [.list (x3.1.map (D.int .u8)), i64 x3.2.1, .int .u64 x3.2.2.1])), (3, .val (.ptr [i64 a1_0, dI a1_1])), (5, .ref 5 [] true (dI x3.2.2.2))] (hCK2) ?_ ?_
  · clear hx3
    refine hK2 _ ?_
    refine VW.sqc fun K18 hK18 hCK18 => ?_
    obtain ⟨v19, hv19, h⟩ := bind_some h
    refine VW.ws tau_ok (Sound.none.ptrc 39 (s_l01Next_ok hv19)) [some 38, some 39] [(0, .ref 0 [] false (.ptr [.list (v19.2.1.map (D.int .u8)), i64 v19.2.2.1, .int .u64 v19.2.2.2])), (3, .val (.ptr [i64 a1_0, dI a1_1])), (5, .ref 5 [] true (dI x3.2.2.2)), (39, .val (i64 v19.1))] rfl ?_ ?_
    · simp <;> simp [ieq, ilt, ile]
    obtain ⟨x20, hx20, h⟩ := bind_some h
    refine VW.tlE [(0, .ref 0 [] false (.ptr [.list (x20.1.map (D.int .u8)), i64 x20.2.1, .int .u64 x20.2.2.1])), (5, .val (dI x20.2.2.2))] (hCK18) ?_ ?_
    · clear hx20
      refine hK18 _ ?_
      refine VW.ws tau_ok Sound.none [some 53, some 4] [(0, .ref 0 [] false (.ptr [.list (x20.1.map (D.int .u8)), i64 x20.2.1, .int .u64 x20.2.2.1])), (4, .val (dI x20.2.2.2))] rfl ?_ ?_
      · simp <;> simp [ieq, ilt, ile]
      cases h
      refine VW.ret ?_
      simp [PostW, resW, PostWC, resWC, Nx, Bk]
    refine VW.block ?_
    refine VW.ws tau_ok Sound.none [some 41, some 40] [(0, .ref 0 [] false (.ptr [.list (v19.2.1.map (D.int .u8)), i64 v19.2.2.1, .int .u64 v19.2.2.2])), (3, .val (.ptr [i64 a1_0, dI a1_1])), (5, .ref 5 [] true (dI x3.2.2.2)), (39, .val (i64 v19.1)), (40, .val (.bool (ieq v19.1 0)))] rfl ?_ ?_
    · simp <;> simp [ieq, ilt, ile]
    refine VW.cond rfl (fun hb22 => ?_) (fun hb22 => ?_)
    ·
      replace hb22 : v19.1 = 0 := by simpa [ieq, ilt, ile] using hb22
      rw [if_pos hb22] at hx20
      obtain ⟨v23, hv23, hx20⟩ := bind_some hx20
      obtain ⟨v24, hv24, hx20⟩ := bind_some hx20
      obtain ⟨hv24a, hv24b, hv24c, hv24d⟩ := idx_some hv24
      replace hv24b : 0 < x3.2.2.2.length := hv24b
      replace hv24c : x3.2.2.2[0]? = some v24 := hv24c
      replace hv24d : ∀ h, x3.2.2.2[0]'h = v24 := hv24d
      refine VW.wr tau_ok (Sound.none.ptrc 47 (s_l01Pick_ok hv23)) [some 42, some 43, some 44, some 45, some 46, some 47, some 48, none] [(0, .ref 0 [] false (.ptr [.list (v23.2.1.map (D.int .u8)), i64 v23.2.2.1, .int .u64 v23.2.2.2])), (5, .ref 5 [] true (dI (x3.2.2.2.set 0 v23.1)))] rfl ?_ ?_
      · simp [hv24a, hv24b, hv24c, hv24d] <;> simp [ieq, ilt, ile]
      cases hx20
      exact Fits.freeze (s := 5) rfl (by simp) (Fits.of rfl)
    replace hb22 : ¬ (v19.1 = 0) := by simpa [ieq, ilt, ile] using hb22
    rw [if_neg hb22] at hx20
    refine VW.ws tau_ok Sound.none [some 50, some 49] [(0, .ref 0 [] false (.ptr [.list (v19.2.1.map (D.int .u8)), i64 v19.2.2.1, .int .u64 v19.2.2.2])), (5, .ref 5 [] true (dI x3.2.2.2)), (49, .val (.bool (ieq v19.1 1)))] rfl ?_ ?_
    · simp <;> simp [ieq, ilt, ile]
    refine VW.cond rfl (fun hb25 => ?_) (fun hb25 => ?_)
    rotate_left
    ·
      replace hb25 : ¬ (v19.1 = 1) := by simpa [ieq, ilt, ile] using hb25
      rw [if_neg hb25] at hx20
      refine VW.skip ?_
      cases hx20
      exact Fits.freeze (s := 5) rfl (by simp) (Fits.of rfl)
    replace hb25 : v19.1 = 1 := by simpa [ieq, ilt, ile] using hb25
    rw [if_pos hb25] at hx20
    refine VW.fits (fl' := [(0, .ref 0 [] false (.ptr [.list (v19.2.1.map (D.int .u8)), i64 v19.2.2.1, .int .u64 v19.2.2.2])), (5, .val (dI x3.2.2.2)), (49, .val (.bool (ieq v19.1 1)))]) (Fits.freeze (s := 5) rfl (by simp) (Fits.of rfl)) ?_
    obtain ⟨hc26, hx20⟩ := chk_some hx20
    have hc26s := hc26
    try simp at hc26s
    refine VW.wr tau_ok Sound.none [some 51, some 52, some 5] [(0, .ref 0 [] false (.ptr [.list (v19.2.1.map (D.int .u8)), i64 v19.2.2.1, .int .u64 v19.2.2.2])), (5, .val (dI (x3.2.2.2.drop 1)))] rfl ?_ ?_
    · simp [hc26, hc26s] <;> simp [ieq, ilt, ile]
    cases hx20
    exact Fits.of rfl
  refine VW.block ?_
  refine VW.loopF (s_l11DrawElement_L0 a1_0 a1_1 v1) (fun s3 => [(0, .ref 0 [] false (.ptr [.list (s3.1.map (D.int .u8)), i64 s3.2.1, .int .u64 s3.2.2.1])), (3, .val (.ptr [i64 a1_0, dI a1_1])), (5, .ref 5 [] true (dI s3.2.2.2.1)), (6, .val (i64 v1.1)), (7, .val (i64 s3.2.2.2.2))]) hx3 (Fits.of rfl) ?_
  clear hx3
  intro s3 ox3 hx3o hx3b
  unfold s_l11DrawElement_L0 at hx3o
  refine VW.sqc fun K5 hK5 hCK5 => ?_
  obtain ⟨hc6, hx3o⟩ := chk_some hx3o
  have hc6s := hc6
  try simp at hc6s
  refine VW.ws tau_ok Sound.none [some 12, some 13, some 14, some 15, some 16, some 17, some 18, some 19] [(0, .ref 0 [] false (.ptr [.list (s3.1.map (D.int .u8)), i64 s3.2.1, .int .u64 s3.2.2.1])), (3, .val (.ptr [i64 a1_0, dI a1_1])), (5, .ref 5 [] true (dI s3.2.2.2.1)), (6, .val (i64 v1.1)), (7, .val (i64 s3.2.2.2.2)), (19, .val (.bool (ilt s3.2.2.2.2 (shl .i64 1 (IntKind.u64.wrap (imin 4 (a1_1.length : Int)))))))] rfl ?_ ?_
  · simp [hc6, hc6s] <;> simp [ieq, ilt, ile]
  refine VW.cond rfl (fun hb7 => ?_) (fun hb7 => ?_)
  rotate_left
  ·
    replace hb7 : ¬ (s3.2.2.2.2 < (shl .i64 1 (IntKind.u64.wrap (imin 4 (a1_1.length : Int))))) := by simpa [ieq, ilt, ile] using hb7
    rw [if_neg hb7] at hx3o
    refine VW.exit ?_
    cases hx3o
    have hq := hx3b _ rfl
    subst hq
    exact Fits.of rfl
  replace hb7 : s3.2.2.2.2 < (shl .i64 1 (IntKind.u64.wrap (imin 4 (a1_1.length : Int)))) := by simpa [ieq, ilt, ile] using hb7
  rw [if_pos hb7] at hx3o
  refine VW.skip ?_
  refine hK5 _ ?_
  refine VW.sqc fun K8 hK8 hCK8 => ?_
  refine VW.block ?_
  obtain ⟨v9, hv9, hx3o⟩ := bind_some hx3o
  refine VW.ws tau_ok (Sound.none.ptrc 26 (s_l01Next_ok hv9)) [some 22, some 23, some 24, some 25, some 26, some 8] [(0, .ref 0 [] false (.ptr [.list (v9.2.1.map (D.int .u8)), i64 v9.2.2.1, .int .u64 v9.2.2.2])), (3, .val (.ptr [i64 a1_0, dI a1_1])), (5, .ref 5 [] true (dI s3.2.2.2.1)), (6, .val (i64 v1.1)), (7, .val (i64 s3.2.2.2.2)), (8, .val (i64 v9.1))] rfl ?_ ?_
  · simp <;> simp [ieq, ilt, ile]
  refine VW.sqc fun K10 hK10 hCK10 => ?_
  obtain ⟨x13, hx13, hx3o⟩ := bind_some hx3o
  refine VW.cut [(0, .ref 0 [] false (.ptr [.list (x13.1.map (D.int .u8)), i64 x13.2.1, .int .u64 x13.2.2.1])), (3, .val (.ptr [i64 a1_0, dI a1_1])), (5, .ref 5 [] true (dI s3.2.2.2.1)), (6, .val (i64 v1.1)), (7, .val (i64 s3.2.2.2.2)), (8, .val (i64 v9.1)), (33, .val (.bool x13.2.2.2))] ?_ fun hy => ?_
  rotate_left
  · clear hx3o
    by_cases hp11 : v1.1 = 0
    · rw [if_pos hp11] at hx13
      have hp11b : ieq v1.1 0 = true := by simpa [ieq, ilt, ile] using hp11
      have hp11s := hp11b
      try simp at hp11s
      obtain ⟨v12, hv12, hx13⟩ := bind_some hx13
      cases hx13
      refine VW.ws tau_ok (Sound.none.ptrc 31 (s_l01Next_ok hv12)) [some 27, some 28, some 29, some 30, some 31, some 32, some 33] _ rfl ?_ hy
      simp [hp11b, hp11s] <;> simp [ieq, ilt, ile]
    · rw [if_neg hp11] at hx13
      have hp11b : ieq v1.1 0 = false := by simpa [ieq, ilt, ile] using hp11
      have hp11s := hp11b
      try simp at hp11s
      cases hx13
      refine VW.ws tau_ok Sound.none [some 27, some 28, some 29, some 30, some 31, some 32, some 33] _ rfl ?_ hy
      simp [hp11b, hp11s] <;> simp [ieq, ilt, ile]
  obtain ⟨x14, hx14, hx3o⟩ := bind_some hx3o
  refine VW.tlE [(0, .ref 0 [] false (.ptr [.list (x13.1.map (D.int .u8)), i64 x13.2.1, .int .u64 x13.2.2.1])), (3, .val (.ptr [i64 a1_0, dI a1_1])), (5, .ref 5 [] true (dI s3.2.2.2.1)), (6, .val (i64 v1.1)), (7, .val (i64 s3.2.2.2.2)), (8, .val (i64 x14))] (hCK10) ?_ ?_
  · clear hx14
    refine hK10 _ ?_
    obtain ⟨hc17, hx3o⟩ := chk_some hx3o
    have hc17s := hc17
    try simp at hc17s
    refine VW.wr tau_ok Sound.none [some 34, some 35, some 36, some 37, some 5] [(0, .ref 0 [] false (.ptr [.list (x13.1.map (D.int .u8)), i64 x13.2.1, .int .u64 x13.2.2.1])), (3, .val (.ptr [i64 a1_0, dI a1_1])), (5, .ref 5 [] true (dI (s3.2.2.2.1 ++ [x14]))), (6, .val (i64 v1.1)), (7, .val (i64 s3.2.2.2.2))] rfl ?_ ?_
    · simp [hc17, hc17s] <;> simp [ieq, ilt, ile]
    refine hK8 _ ?_
    refine VW.wr tau_ok Sound.none [some 20, some 21, some 7] [(0, .ref 0 [] false (.ptr [.list (x13.1.map (D.int .u8)), i64 x13.2.1, .int .u64 x13.2.2.1])), (3, .val (.ptr [i64 a1_0, dI a1_1])), (5, .ref 5 [] true (dI (s3.2.2.2.1 ++ [x14]))), (6, .val (i64 v1.1)), (7, .val (i64 (w64 (s3.2.2.2.2 + 1))))] rfl ?_ ?_
    · simp <;> simp [ieq, ilt, ile]
    cases hx3o
    exact ⟨_, rfl, Fits.of rfl⟩
  refine VW.cond rfl (fun hb16 => ?_) (fun hb16 => ?_)
  rotate_left
  ·
    replace hb16 : ¬ (x13.2.2.2 = true) := by simpa [ieq, ilt, ile] using hb16
    rw [if_neg hb16] at hx14
    refine VW.skip ?_
    cases hx14
    exact Fits.of rfl
  replace hb16 : x13.2.2.2 = true := by simpa [ieq, ilt, ile] using hb16
  rw [if_pos hb16] at hx14
  refine VW.wr tau_ok Sound.none [some 8] [(0, .ref 0 [] false (.ptr [.list (x13.1.map (D.int .u8)), i64 x13.2.1, .int .u64 x13.2.2.1])), (3, .val (.ptr [i64 a1_0, dI a1_1])), (5, .ref 5 [] true (dI s3.2.2.2.1)), (6, .val (i64 v1.1)), (7, .val (i64 s3.2.2.2.2)), (8, .val (i64 0))] rfl ?_ ?_
  · simp <;> simp [ieq, ilt, ile]
  cases hx14
  exact Fits.of rfl

theorem s_DrawDoubleConjugate_ok {a0 : List Int} {r : (Int × (List Int)) × (List Int)} (h : s_DrawDoubleConjugate a0 = some r) :
    VCall Try.prog 114 [.list (a0.map (D.int .u8))] [.tup [.agg [i64 r.1.1, dI r.1.2], dI r.2]] := by
  unfold s_DrawDoubleConjugate at h
  refine VCall.enterT tau_ok Try.call114 Try.func114 rfl 14 Try.ntmps114 (by simp) [.cell 2 39, .tmp 3] rfl (by simp) ?_
  show VW _ _ _ (mk [(0, .val (.list (a0.map (D.int .u8))))]) _
  refine VW.ws tau_ok Sound.none [some 2, some 3] [(0, .val (.list (a0.map (D.int .u8)))), (2, .ref 2 [] true (.ptr [i64 0, dI []]))] rfl ?_ ?_
  · simp <;> simp [ieq, ilt, ile]
  obtain ⟨v1, hv1, h⟩ := bind_some h
  refine VW.ws tau_ok (Sound.none.add 7 (s_l01From_ok hv1) rfl) [some 6, some 7, some 4] [(2, .ref 2 [] true (.ptr [i64 0, dI []])), (4, .ref 4 [] false (.ptr [.list (v1.1.map (D.int .u8)), i64 v1.2.1, .int .u64 v1.2.2]))] rfl ?_ ?_
  · simp <;> simp [ieq, ilt, ile]
  obtain ⟨v2, hv2, h⟩ := bind_some h
  refine VW.ws tau_ok (Sound.none.ptrc 9 (s_l11DrawAny_ok hv2)) [some 8, some 9, some 5, none] [(2, .ref 2 [] true (.ptr [i64 0, dI []])), (4, .ref 4 [] false (.ptr [.list (v2.2.1.map (D.int .u8)), i64 v2.2.2.1, .int .u64 v2.2.2.2])), (5, .ref 5 [] true (.ptr [i64 v2.1.1, dI v2.1.2]))] rfl ?_ ?_
  · simp <;> simp [ieq, ilt, ile]
  refine VW.fits (fl' := [(2, .ref 2 [] true (.ptr [i64 0, dI []])), (4, .ref 4 [] false (.ptr [.list (v2.2.1.map (D.int .u8)), i64 v2.2.2.1, .int .u64 v2.2.2.2])), (5, .val (.ptr [i64 v2.1.1, dI v2.1.2]))]) (Fits.freeze (s := 5) rfl (by simp) (Fits.of rfl)) ?_
  obtain ⟨v3, hv3, h⟩ := bind_some h
  refine VW.wxs tau_ok (Sound.none.ptrc 13 (s_l11DrawElement_ok hv3)) try_mixed [some 10, some 11, some 12, some 13, none, some 3] [(2, .val (.ptr [i64 v2.1.1, dI v2.1.2])), (3, .val (dI v3.1))] [1, 0, 0, 2, 3, 3] [[5], [4], [5], [11, 12], [2, 10], [13]] [4] rfl rfl (by kernel_rfl) (by rfl) ?_ ?_
  · simp <;> simp [ieq, ilt, ile]
  cases h
  refine VW.ret ?_
  exact ⟨⟨rfl, _, rfl, rfl⟩, rfl, trivial⟩

theorem s_DrawFixingDimension_ok {a0 : List Int} {r : (Int × (List Int)) × (List Int)} (h : s_DrawFixingDimension a0 = some r) :
    VCall Try.prog 50 [.list (a0.map (D.int .u8))] [.tup [.agg [i64 r.1.1, dI r.1.2], dI r.2]] := by
  unfold s_DrawFixingDimension at h
  refine VCall.enterT tau_ok Try.call50 Try.func50 rfl 8 Try.ntmps50 (by simp) [.cell 2 39, .tmp 3] rfl (by simp) ?_
  show VW _ _ _ (mk [(0, .val (.list (a0.map (D.int .u8))))]) _
  refine VW.ws tau_ok Sound.none [some 2, some 3] [(0, .val (.list (a0.map (D.int .u8)))), (2, .ref 2 [] true (.ptr [i64 0, dI []]))] rfl ?_ ?_
  · simp <;> simp [ieq, ilt, ile]
  obtain ⟨v1, hv1, h⟩ := bind_some h
  refine VW.ws tau_ok (Sound.none.add 5 (s_DrawDoubleConjugate_ok hv1) rfl) [some 4, some 5, some 6, some 7, none, some 3] [(2, .val (.ptr [i64 v1.1.1, dI v1.1.2])), (3, .val (dI v1.2))] rfl ?_ ?_
  · simp <;> simp [ieq, ilt, ile]
  cases h
  refine VW.ret ?_
  exact ⟨⟨rfl, _, rfl, rfl⟩, rfl, trivial⟩

theorem i_IsPrime_ok {a0 : Int} {r : Bool} (h : i_IsPrime a0 = some r) :
    VCall Try.prog 165 [i64 a0] [.sc (.bool r)] := by
  unfold i_IsPrime at h
  refine VCall.enter Try.call165 Try.func165 rfl 10 Try.ntmps165 (by simp) [.tmp 2] rfl ?_
  show VW _ _ _ (mk [(0, .val (i64 a0))]) _
  refine VW.ws tau_ok Sound.none [some 2] [(0, .val (i64 a0))] rfl ?_ ?_
  · simp <;> simp [ieq, ilt, ile]
  refine VW.sqc fun K1 hK1 hCK1 => ?_
  refine VW.ws tau_ok Sound.none [some 3] [(3, .val (i64 a0))] rfl ?_ ?_
  · simp <;> simp [ieq, ilt, ile]
  refine VW.block ?_
  refine VW.sqc fun K2 hK2 hCK2 => ?_
  refine VW.ws tau_ok Sound.none [some 5, some 4] [(3, .val (i64 a0)), (4, .val (.bool (ieq a0 3)))] rfl ?_ ?_
  · simp <;> simp [ieq, ilt, ile]
  obtain ⟨x3, hx3, h⟩ := bind_some h
  refine VW.tlE [(4, .val (.bool x3))] (hCK2) ?_ ?_
  · clear hx3
    refine hK2 _ ?_
    refine VW.cond rfl (fun hb9 => ?_) (fun hb9 => ?_)
    ·
      replace hb9 : x3 = true := by simpa [ieq, ilt, ile] using hb9
      rw [if_pos hb9] at h
      refine VW.ws tau_ok Sound.none [some 2] [(2, .val (.bool true))] rfl ?_ ?_
      · simp <;> simp [ieq, ilt, ile]
      cases h
      refine VW.ret ?_
      simp [Post, PostM, PostC, PostC2, Nx, Bk]
    replace hb9 : ¬ (x3 = true) := by simpa [ieq, ilt, ile] using hb9
    rw [if_neg hb9] at h
    refine VW.skip ?_
    refine hK1 _ ?_
    refine VW.ws tau_ok Sound.none [some 2] [(2, .val (.bool false))] rfl ?_ ?_
    · simp <;> simp [ieq, ilt, ile]
    cases h
    refine VW.ret ?_
    simp [Post, PostM, PostC, PostC2, Nx, Bk]
  refine VW.cond rfl (fun hb5 => ?_) (fun hb5 => ?_)
  ·
    replace hb5 : a0 = 3 := by simpa [ieq, ilt, ile] using hb5
    rw [if_pos hb5] at hx3
    refine VW.skip ?_
    cases hx3
    exact Fits.of rfl
  replace hb5 : ¬ (a0 = 3) := by simpa [ieq, ilt, ile] using hb5
  rw [if_neg hb5] at hx3
  refine VW.ws tau_ok Sound.none [some 6, some 4] [(3, .val (i64 a0)), (4, .val (.bool (ieq a0 5)))] rfl ?_ ?_
  · simp <;> simp [ieq, ilt, ile]
  refine VW.cond rfl (fun hb6 => ?_) (fun hb6 => ?_)
  ·
    replace hb6 : a0 = 5 := by simpa [ieq, ilt, ile] using hb6
    rw [if_pos hb6] at hx3
    refine VW.skip ?_
    cases hx3
    exact Fits.of rfl
  replace hb6 : ¬ (a0 = 5) := by simpa [ieq, ilt, ile] using hb6
  rw [if_neg hb6] at hx3
  refine VW.ws tau_ok Sound.none [some 7, some 4] [(3, .val (i64 a0)), (4, .val (.bool (ieq a0 7)))] rfl ?_ ?_
  · simp <;> simp [ieq, ilt, ile]
  refine VW.cond rfl (fun hb7 => ?_) (fun hb7 => ?_)
  ·
    replace hb7 : a0 = 7 := by simpa [ieq, ilt, ile] using hb7
    rw [if_pos hb7] at hx3
    refine VW.skip ?_
    cases hx3
    exact Fits.of rfl
  replace hb7 : ¬ (a0 = 7) := by simpa [ieq, ilt, ile] using hb7
  rw [if_neg hb7] at hx3
  refine VW.ws tau_ok Sound.none [some 8, some 4] [(3, .val (i64 a0)), (4, .val (.bool (ieq a0 11)))] rfl ?_ ?_
  · simp <;> simp [ieq, ilt, ile]
  refine VW.cond rfl (fun hb8 => ?_) (fun hb8 => ?_)
  ·
    replace hb8 : a0 = 11 := by simpa [ieq, ilt, ile] using hb8
    rw [if_pos hb8] at hx3
    refine VW.skip ?_
    cases hx3
    exact Fits.of rfl
  replace hb8 : ¬ (a0 = 11) := by simpa [ieq, ilt, ile] using hb8
  rw [if_neg hb8] at hx3
  refine VW.wr tau_ok Sound.none [some 9, some 4] [(4, .val (.bool (ieq a0 13)))] rfl ?_ ?_
  · simp <;> simp [ieq, ilt, ile]
  cases hx3
  exact Fits.of rfl

theorem i_Doubling_field_ok {a0_0 : Int} {a0_1 : List Int} {r : Int} (h : i_Doubling_field a0_0 a0_1 = some r) :
    VCall Try.prog 116 [.agg [i64 a0_0, dI a0_1]] [.sc (i64 r)] := by
  unfold i_Doubling_field at h
  refine VCall.enter Try.call116 Try.func116 rfl 5 Try.ntmps116 (by simp) [.tmp 2] rfl ?_
  show VW _ _ _ (mk [(0, .val (.agg [i64 a0_0, dI a0_1]))]) _
  refine VW.ws tau_ok Sound.none [some 1, some 2] [(1, .val (.ptr [i64 a0_0, dI a0_1]))] rfl ?_ ?_
  · simp <;> simp [ieq, ilt, ile]
  refine VW.ws tau_ok Sound.none [some 3, some 4, some 2] [(2, .val (i64 a0_0))] rfl ?_ ?_
  · simp <;> simp [ieq, ilt, ile]
  cases h
  refine VW.ret ?_
  simp [Post, PostM, PostC, PostC2, Nx, Bk]

theorem i_inRange_ok {a0 : Int} {a1 : Int} {a2 : Int} {r : Bool} (h : i_inRange a0 a1 a2 = some r) :
    VCall Try.prog 160 [i64 a0, i64 a1, i64 a2] [.sc (.bool r)] := by
  unfold i_inRange at h
  refine VCall.enter Try.call160 Try.func160 rfl 15 Try.ntmps160 (by simp) [.tmp 6] rfl ?_
  show VW _ _ _ (mk [(0, .val (i64 a0)), (1, .val (i64 a1)), (2, .val (i64 a2))]) _
  refine VW.ws tau_ok Sound.none [some 6] [(0, .val (i64 a0)), (1, .val (i64 a1)), (2, .val (i64 a2))] rfl ?_ ?_
  · simp <;> simp [ieq, ilt, ile]
  obtain ⟨x2, hx2, h⟩ := bind_some h
  refine VW.cut [(6, .val (.bool x2))] ?_ fun hy => ?_
  rotate_left
  · clear h
    by_cases hp1 : a1 ≤ a0
    · rw [if_pos hp1] at hx2
      have hp1b : ile a1 a0 = true := by simpa [ieq, ilt, ile] using hp1
      have hp1s := hp1b
      try simp at hp1s
      cases hx2
      refine VW.ws tau_ok Sound.none [some 7, some 8, some 9, some 10, some 11, some 12, some 13, some 14, some 6] _ rfl ?_ hy
      simp [hp1b, hp1s] <;> simp [ieq, ilt, ile]
    · rw [if_neg hp1] at hx2
      have hp1b : ile a1 a0 = false := by simpa [ieq, ilt, ile] using hp1
      have hp1s := hp1b
      try simp at hp1s
      cases hx2
      refine VW.ws tau_ok Sound.none [some 7, some 8, some 9, some 10, some 11, some 12, some 13, some 14, some 6] _ rfl ?_ hy
      simp [hp1b, hp1s] <;> simp [ieq, ilt, ile]
  cases h
  refine VW.ret ?_
  simp [Post, PostM, PostC, PostC2, Nx, Bk]

theorem i_field_is_ok {a0 : Int} {a1 : List Int} {r : Bool} (h : i_field_is a0 a1 = some r) :
    VCall Try.prog 155 [i64 a0, dI a1] [.sc (.bool r)] := by
  unfold i_field_is at h
  refine VCall.enter Try.call155 Try.func155 rfl 19 Try.ntmps155 (by simp) [.tmp 4] rfl ?_
  show VW _ _ _ (mk [(0, .val (i64 a0)), (1, .val (dI a1))]) _
  refine VW.ws tau_ok Sound.none [some 4] [(0, .val (i64 a0)), (1, .val (dI a1))] rfl ?_ ?_
  · simp <;> simp [ieq, ilt, ile]
  refine VW.sqc fun K1 hK1 hCK1 => ?_
  refine VW.ws tau_ok Sound.none [some 7, some 8, some 9] [(0, .val (i64 a0)), (7, .val (dI a1)), (8, .val (i64 (a1.length : Int))), (9, .val (i64 0))] rfl ?_ ?_
  · simp <;> simp [ieq, ilt, ile]
  obtain ⟨x2, hx2, h⟩ := bind_some h
  refine VW.tlO (fun y4 => []) x2 (hCK1) ?_ ?_
  · clear hx2
    rintro y4 rfl
    dsimp only at h
    refine hK1 _ ?_
    refine VW.ws tau_ok Sound.none [some 4] [(4, .val (.bool true))] rfl ?_ ?_
    · simp <;> simp [ieq, ilt, ile]
    cases h
    refine VW.ret ?_
    simp [Post, PostM, PostC, PostC2, Nx, Bk]
  refine VW.block ?_
  refine VW.loopF (i_field_is_L0 a0 a1) (fun s2 => [(0, .val (i64 a0)), (7, .val (dI a1)), (8, .val (i64 (a1.length : Int))), (9, .val (i64 s2))]) hx2 (Fits.of rfl) ?_
  clear hx2
  intro s2 ox2 hx2o hx2b
  unfold i_field_is_L0 at hx2o
  refine VW.ws tau_ok Sound.none [some 10] [(0, .val (i64 a0)), (7, .val (dI a1)), (8, .val (i64 (a1.length : Int))), (9, .val (i64 s2)), (10, .val (.bool (ilt s2 (a1.length : Int))))] rfl ?_ ?_
  · simp <;> simp [ieq, ilt, ile]
  refine VW.sqc fun K5 hK5 hCK5 => ?_
  refine VW.cond rfl (fun hb6 => ?_) (fun hb6 => ?_)
  rotate_left
  ·
    replace hb6 : ¬ (s2 < (a1.length : Int)) := by simpa [ieq, ilt, ile] using hb6
    rw [if_neg hb6] at hx2o
    refine VW.exit ?_
    cases hx2o
    have hq := hx2b _ rfl
    subst hq
    exact ⟨_, rfl, Fits.of rfl⟩
  replace hb6 : s2 < (a1.length : Int) := by simpa [ieq, ilt, ile] using hb6
  rw [if_pos hb6] at hx2o
  refine VW.skip ?_
  refine hK5 _ ?_
  refine VW.sqc fun K7 hK7 hCK7 => ?_
  refine VW.block ?_
  obtain ⟨v8, hv8, hx2o⟩ := bind_some hx2o
  obtain ⟨hv8a, hv8b, hv8c, hv8d⟩ := idx_some hv8
  refine VW.ws tau_ok Sound.none [some 11, some 12, some 6] [(0, .val (i64 a0)), (6, .val (i64 v8)), (7, .val (dI a1)), (8, .val (i64 (a1.length : Int))), (9, .val (i64 s2))] rfl ?_ ?_
  · simp [hv8a, hv8b, hv8c, hv8d] <;> simp [ieq, ilt, ile]
  obtain ⟨v9, hv9, hx2o⟩ := bind_some hx2o
  refine VW.ws tau_ok (Sound.none.add 16 (i_inRange_ok hv9) rfl) [some 13, some 14, some 15, some 16, some 17] [(0, .val (i64 a0)), (7, .val (dI a1)), (8, .val (i64 (a1.length : Int))), (9, .val (i64 s2)), (17, .val (.bool (!v9)))] rfl ?_ ?_
  · simp <;> simp [ieq, ilt, ile]
  refine VW.cond rfl (fun hb10 => ?_) (fun hb10 => ?_)
  rotate_left
  ·
    replace hb10 : ¬ (v9 = false) := by simpa [ieq, ilt, ile] using hb10
    rw [if_neg hb10] at hx2o
    refine VW.skip ?_
    refine hK7 _ ?_
    refine VW.wr tau_ok Sound.none [some 18, some 9] [(0, .val (i64 a0)), (7, .val (dI a1)), (8, .val (i64 (a1.length : Int))), (9, .val (i64 (w64 (s2 + 1))))] rfl ?_ ?_
    · simp <;> simp [ieq, ilt, ile]
    cases hx2o
    exact ⟨_, rfl, Fits.of rfl⟩
  replace hb10 : v9 = false := by simpa [ieq, ilt, ile] using hb10
  rw [if_pos hb10] at hx2o
  refine VW.ws tau_ok Sound.none [some 4] [(4, .val (.bool false))] rfl ?_ ?_
  · simp <;> simp [ieq, ilt, ile]
  cases hx2o
  have hq := hx2b _ rfl
  subst hq
  dsimp only at h
  cases h
  refine VW.ret ?_
  simp [Post, PostM, PostC, PostC2, Nx, Bk]

theorem g_slices_Index_LI_I_ok {a0 : List Int} {a1 : Int} {r : Int} (h : g_slices_Index_LI_I a0 a1 = some r) :
    VCall Try.prog 109 [dI a0, i64 a1] [.sc (i64 r)] := by
  unfold g_slices_Index_LI_I at h
  refine VCall.enter Try.call109 Try.func109 rfl 19 Try.ntmps109 (by simp) [.tmp 4] rfl ?_
  show VW _ _ _ (mk [(0, .val (dI a0)), (1, .val (i64 a1))]) _
  refine VW.ws tau_ok Sound.none [some 4] [(0, .val (dI a0)), (1, .val (i64 a1))] rfl ?_ ?_
  · simp <;> simp [ieq, ilt, ile]
  refine VW.sqc fun K1 hK1 hCK1 => ?_
  refine VW.ws tau_ok Sound.none [some 6, some 7, some 8] [(0, .val (dI a0)), (1, .val (i64 a1)), (7, .val (i64 (a0.length : Int))), (8, .val (i64 0))] rfl ?_ ?_
  · simp <;> simp [ieq, ilt, ile]
  obtain ⟨x2, hx2, h⟩ := bind_some h
  refine VW.tlO (fun y4 => []) x2 (hCK1) ?_ ?_
  · clear hx2
    rintro y4 rfl
    dsimp only at h
    refine hK1 _ ?_
    refine VW.ws tau_ok Sound.none [some 4] [(4, .val (i64 (-1)))] rfl ?_ ?_
    · simp <;> simp [ieq, ilt, ile]
    cases h
    refine VW.ret ?_
    simp [Post, PostM, PostC, PostC2, Nx, Bk]
  refine VW.block ?_
  refine VW.loopF (g_slices_Index_LI_I_L0 a0 a1) (fun s2 => [(0, .val (dI a0)), (1, .val (i64 a1)), (7, .val (i64 (a0.length : Int))), (8, .val (i64 s2))]) hx2 (Fits.of rfl) ?_
  clear hx2
  intro s2 ox2 hx2o hx2b
  unfold g_slices_Index_LI_I_L0 at hx2o
  refine VW.ws tau_ok Sound.none [some 9] [(0, .val (dI a0)), (1, .val (i64 a1)), (7, .val (i64 (a0.length : Int))), (8, .val (i64 s2)), (9, .val (.bool (ilt s2 (a0.length : Int))))] rfl ?_ ?_
  · simp <;> simp [ieq, ilt, ile]
  refine VW.sqc fun K5 hK5 hCK5 => ?_
  refine VW.cond rfl (fun hb6 => ?_) (fun hb6 => ?_)
  rotate_left
  ·
    replace hb6 : ¬ (s2 < (a0.length : Int)) := by simpa [ieq, ilt, ile] using hb6
    rw [if_neg hb6] at hx2o
    refine VW.exit ?_
    cases hx2o
    have hq := hx2b _ rfl
    subst hq
    exact ⟨_, rfl, Fits.of rfl⟩
  replace hb6 : s2 < (a0.length : Int) := by simpa [ieq, ilt, ile] using hb6
  rw [if_pos hb6] at hx2o
  refine VW.skip ?_
  refine hK5 _ ?_
  refine VW.sqc fun K7 hK7 hCK7 => ?_
  refine VW.block ?_
  refine VW.ws tau_ok Sound.none [some 10, some 5] [(0, .val (dI a0)), (1, .val (i64 a1)), (5, .val (i64 s2)), (7, .val (i64 (a0.length : Int))), (8, .val (i64 s2))] rfl ?_ ?_
  · simp <;> simp [ieq, ilt, ile]
  obtain ⟨v8, hv8, hx2o⟩ := bind_some hx2o
  obtain ⟨hv8a, hv8b, hv8c, hv8d⟩ := idx_some hv8
  refine VW.ws tau_ok Sound.none [some 11, some 12, some 13, some 14, some 15, some 16] [(0, .val (dI a0)), (1, .val (i64 a1)), (5, .val (i64 s2)), (7, .val (i64 (a0.length : Int))), (8, .val (i64 s2)), (16, .val (.bool (ieq a1 v8)))] rfl ?_ ?_
  · simp [hv8a, hv8b, hv8c, hv8d] <;> simp [ieq, ilt, ile]
  refine VW.cond rfl (fun hb9 => ?_) (fun hb9 => ?_)
  rotate_left
  ·
    replace hb9 : ¬ (a1 = v8) := by simpa [ieq, ilt, ile] using hb9
    rw [if_neg hb9] at hx2o
    refine VW.skip ?_
    refine hK7 _ ?_
    refine VW.wr tau_ok Sound.none [some 18, some 8] [(0, .val (dI a0)), (1, .val (i64 a1)), (7, .val (i64 (a0.length : Int))), (8, .val (i64 (w64 (s2 + 1))))] rfl ?_ ?_
    · simp <;> simp [ieq, ilt, ile]
    cases hx2o
    exact ⟨_, rfl, Fits.of rfl⟩
  replace hb9 : a1 = v8 := by simpa [ieq, ilt, ile] using hb9
  rw [if_pos hb9] at hx2o
  refine VW.ws tau_ok Sound.none [some 17, some 4] [(4, .val (i64 s2))] rfl ?_ ?_
  · simp <;> simp [ieq, ilt, ile]
  cases hx2o
  have hq := hx2b _ rfl
  subst hq
  dsimp only at h
  cases h
  refine VW.ret ?_
  simp [Post, PostM, PostC, PostC2, Nx, Bk]

theorem g_slices_Contains_LI_I_ok {a0 : List Int} {a1 : Int} {r : Bool} (h : g_slices_Contains_LI_I a0 a1 = some r) :
    VCall Try.prog 166 [dI a0, i64 a1] [.sc (.bool r)] := by
  unfold g_slices_Contains_LI_I at h
  refine VCall.enter Try.call166 Try.func166 rfl 9 Try.ntmps166 (by simp) [.tmp 4] rfl ?_
  show VW _ _ _ (mk [(0, .val (dI a0)), (1, .val (i64 a1))]) _
  refine VW.ws tau_ok Sound.none [some 4] [(0, .val (dI a0)), (1, .val (i64 a1))] rfl ?_ ?_
  · simp <;> simp [ieq, ilt, ile]
  obtain ⟨v1, hv1, h⟩ := bind_some h
  refine VW.ws tau_ok (Sound.none.add 7 (g_slices_Index_LI_I_ok hv1) rfl) [some 5, some 6, some 7, some 8, some 4] [(4, .val (.bool (ile 0 v1)))] rfl ?_ ?_
  · simp <;> simp [ieq, ilt, ile]
  cases h
  refine VW.ret ?_
  simp [Post, PostM, PostC, PostC2, Nx, Bk]

theorem i_IsDoubling_ok {a0_0 : Int} {a0_1 : List Int} {r : Bool} (h : i_IsDoubling a0_0 a0_1 = some r) :
    VCall Try.prog 89 [.agg [i64 a0_0, dI a0_1]] [.sc (.bool r)] := by
  unfold i_IsDoubling at h
  refine VCall.enter Try.call89 Try.func89 rfl 25 Try.ntmps89 (by simp) [.tmp 2] rfl ?_
  show VW _ _ _ (mk [(0, .val (.agg [i64 a0_0, dI a0_1]))]) _
  refine VW.ws tau_ok Sound.none [some 1, some 2] [(1, .val (.ptr [i64 a0_0, dI a0_1]))] rfl ?_ ?_
  · simp <;> simp [ieq, ilt, ile]
  obtain ⟨x8, hx8, h⟩ := bind_some h
  refine VW.cut [(2, .val (.bool x8))] ?_ fun hy => ?_
  rotate_left
  · clear h
    obtain ⟨v1, hv1, hx8⟩ := bind_some hx8
    by_cases hp2 : v1 = true
    · rw [if_pos hp2] at hx8
      have hp2b : v1 = true := by simpa [ieq, ilt, ile] using hp2
      have hp2s := hp2b
      try simp at hp2s
      by_cases hp3 : (a0_1.length : Int) ≤ 4
      · rw [if_pos hp3] at hx8
        have hp3b : ile (a0_1.length : Int) 4 = true := by simpa [ieq, ilt, ile] using hp3
        have hp3s := hp3b
        try simp at hp3s
        obtain ⟨v4, hv4, hx8⟩ := bind_some hx8
        obtain ⟨v5, hv5, hx8⟩ := bind_some hx8
        by_cases hp6 : v5 = true
        · rw [if_pos hp6] at hx8
          have hp6b : v5 = true := by simpa [ieq, ilt, ile] using hp6
          have hp6s := hp6b
          try simp at hp6s
          obtain ⟨v7, hv7, hx8⟩ := bind_some hx8
          cases hx8
          refine VW.wds tau_ok ((((Sound.none.add 5 (i_IsPrime_ok hv1) rfl).add 14 (i_Doubling_field_ok hv4) rfl).add 17 (i_field_is_ok hv5) rfl).add 22 (g_slices_Contains_LI_I_ok hv7) rfl) try_mixed [some 3, some 4, some 5, some 6, some 7, some 8, some 9, some 10, some 11, some 12, some 13, some 14, some 15, some 16, some 17, some 18, some 19, some 20, some 21, some 22, some 23, some 24, some 2] _ 23 rfl (by kernel_rfl) (by rfl) ?_ hy
          simp [hp2b, hp2s, hp3b, hp3s, hp6b, hp6s] <;> simp [ieq, ilt, ile]
        · rw [if_neg hp6] at hx8
          have hp6b : v5 = false := by simpa [ieq, ilt, ile] using hp6
          have hp6s := hp6b
          try simp at hp6s
          cases hx8
          refine VW.wds tau_ok (((Sound.none.add 5 (i_IsPrime_ok hv1) rfl).add 14 (i_Doubling_field_ok hv4) rfl).add 17 (i_field_is_ok hv5) rfl) try_mixed [some 3, some 4, some 5, some 6, some 7, some 8, some 9, some 10, some 11, some 12, some 13, some 14, some 15, some 16, some 17, some 18, some 19, some 20, some 21, some 22, some 23, some 24, some 2] _ 23 rfl (by kernel_rfl) (by rfl) ?_ hy
          simp [hp2b, hp2s, hp3b, hp3s, hp6b, hp6s] <;> simp [ieq, ilt, ile]
      · rw [if_neg hp3] at hx8
        have hp3b : ile (a0_1.length : Int) 4 = false := by simpa [ieq, ilt, ile] using hp3
        have hp3s := hp3b
        try simp at hp3s
        cases hx8
        refine VW.wds tau_ok (Sound.none.add 5 (i_IsPrime_ok hv1) rfl) try_mixed [some 3, some 4, some 5, some 6, some 7, some 8, some 9, some 10, some 11, some 12, some 13, some 14, some 15, some 16, some 17, some 18, some 19, some 20, some 21, some 22, some 23, some 24, some 2] _ 23 rfl (by kernel_rfl) (by rfl) ?_ hy
        simp [hp2b, hp2s, hp3b, hp3s] <;> simp [ieq, ilt, ile]
    · rw [if_neg hp2] at hx8
      have hp2b : v1 = false := by simpa [ieq, ilt, ile] using hp2
      have hp2s := hp2b
      try simp at hp2s
      cases hx8
      refine VW.wds tau_ok (Sound.none.add 5 (i_IsPrime_ok hv1) rfl) try_mixed [some 3, some 4, some 5, some 6, some 7, some 8, some 9, some 10, some 11, some 12, some 13, some 14, some 15, some 16, some 17, some 18, some 19, some 20, some 21, some 22, some 23, some 24, some 2] _ 23 rfl (by kernel_rfl) (by rfl) ?_ hy
      simp [hp2b, hp2s] <;> simp [ieq, ilt, ile]
  cases h
  refine VW.ret ?_
  simp [Post, PostM, PostC, PostC2, Nx, Bk]

theorem i_Doubling_size_ok {a0_0 : Int} {a0_1 : List Int} {r : Int} (h : i_Doubling_size a0_0 a0_1 = some r) :
    VCall Try.prog 92 [.agg [i64 a0_0, dI a0_1]] [.sc (i64 r)] := by
  unfold i_Doubling_size at h
  refine VCall.enter Try.call92 Try.func92 rfl 7 Try.ntmps92 (by simp) [.tmp 2] rfl ?_
  show VW _ _ _ (mk [(0, .val (.agg [i64 a0_0, dI a0_1]))]) _
  refine VW.ws tau_ok Sound.none [some 1, some 2] [(1, .val (.ptr [i64 a0_0, dI a0_1]))] rfl ?_ ?_
  · simp <;> simp [ieq, ilt, ile]
  obtain ⟨hc1, h⟩ := chk_some h
  have hc1s := hc1
  try simp at hc1s
  refine VW.ws tau_ok Sound.none [some 3, some 4, some 5, some 6, some 2] [(2, .val (i64 (shl .i64 1 (a0_1.length : Int))))] rfl ?_ ?_
  · simp [hc1, hc1s] <;> simp [ieq, ilt, ile]
  cases h
  refine VW.ret ?_
  simp [Post, PostM, PostC, PostC2, Nx, Bk]

theorem i_checkElements_c1_ok {a0 : List Int} {a1_0 : Int} {a1_1 : List Int} {r : Bool} (h : i_checkElements_c1 a0 a1_0 a1_1 = some r) :
    VCall Try.prog 194 [dI a0, .ptr [i64 a1_0, dI a1_1]] [.sc (.bool r)] := by
  unfold i_checkElements_c1 at h
  refine VCall.enter Try.call194 Try.func194 rfl 16 Try.ntmps194 (by simp) [.tmp 3] rfl ?_
  show VW _ _ _ (mk [(0, .val (dI a0)), (1, .val (.ptr [i64 a1_0, dI a1_1]))]) _
  refine VW.ws tau_ok Sound.none [some 3] [(0, .val (dI a0)), (1, .val (.ptr [i64 a1_0, dI a1_1]))] rfl ?_ ?_
  · simp <;> simp [ieq, ilt, ile]
  obtain ⟨x5, hx5, h⟩ := bind_some h
  refine VW.cut [(3, .val (.bool x5))] ?_ fun hy => ?_
  rotate_left
  · clear h
    obtain ⟨v1, hv1, hx5⟩ := bind_some hx5
    by_cases hp2 : ¬ (a0.length : Int) = v1
    · rw [if_pos hp2] at hx5
      have hp2b : ieq (a0.length : Int) v1 = false := by simpa [ieq, ilt, ile] using hp2
      have hp2s := hp2b
      try simp at hp2s
      cases hx5
      refine VW.ws tau_ok (Sound.none.add 7 (i_Doubling_size_ok hv1) rfl) [some 4, some 5, some 6, some 7, some 8, some 9, some 10, some 11, some 12, some 13, some 14, some 15, some 3] _ rfl ?_ hy
      simp [hp2b, hp2s] <;> simp [ieq, ilt, ile]
    · rw [if_neg hp2] at hx5
      have hp2b : ieq (a0.length : Int) v1 = true := by simpa [ieq, ilt, ile] using hp2
      have hp2s := hp2b
      try simp at hp2s
      obtain ⟨v3, hv3, hx5⟩ := bind_some hx5
      obtain ⟨v4, hv4, hx5⟩ := bind_some hx5
      cases hx5
      refine VW.ws tau_ok (((Sound.none.add 7 (i_Doubling_size_ok hv1) rfl).add 11 (i_Doubling_field_ok hv3) rfl).add 13 (i_field_is_ok hv4) rfl) [some 4, some 5, some 6, some 7, some 8, some 9, some 10, some 11, some 12, some 13, some 14, some 15, some 3] _ rfl ?_ hy
      simp [hp2b, hp2s] <;> simp [ieq, ilt, ile]
  cases h
  refine VW.ret ?_
  simp [Post, PostM, PostC, PostC2, Nx, Bk]

theorem g_slices_IndexFunc_LLI_LI_of_i_checkElements_c1_ok {a0 : List (List Int)} {a1_0_0 : Int} {a1_0_1 : List Int} {r : Int} (h : g_slices_IndexFunc_LLI_LI_of_i_checkElements_c1 a0 a1_0_0 a1_0_1 = some r) :
    VCall Try.prog 175 [dM a0, .fn 194 [.ptr [i64 a1_0_0, dI a1_0_1]]] [.sc (i64 r)] := by
  unfold g_slices_IndexFunc_LLI_LI_of_i_checkElements_c1 at h
  refine VCall.enter Try.call175 Try.func175 rfl 19 Try.ntmps175 (by simp) [.tmp 4] rfl ?_
  show VW _ _ _ (mk [(0, .val (dM a0)), (1, .val (.fn 194 [.ptr [i64 a1_0_0, dI a1_0_1]]))]) _
  refine VW.ws tau_ok Sound.none [some 4] [(0, .val (dM a0)), (1, .val (.fn 194 [.ptr [i64 a1_0_0, dI a1_0_1]]))] rfl ?_ ?_
  · simp <;> simp [ieq, ilt, ile]
  refine VW.sqc fun K1 hK1 hCK1 => ?_
  refine VW.ws tau_ok Sound.none [some 6, some 7, some 8] [(0, .val (dM a0)), (1, .val (.fn 194 [.ptr [i64 a1_0_0, dI a1_0_1]])), (7, .val (i64 (a0.length : Int))), (8, .val (i64 0))] rfl ?_ ?_
  · simp <;> simp [ieq, ilt, ile]
  obtain ⟨x2, hx2, h⟩ := bind_some h
  refine VW.tlO (fun y4 => []) x2 (hCK1) ?_ ?_
  · clear hx2
    rintro y4 rfl
    dsimp only at h
    refine hK1 _ ?_
    refine VW.ws tau_ok Sound.none [some 4] [(4, .val (i64 (-1)))] rfl ?_ ?_
    · simp <;> simp [ieq, ilt, ile]
    cases h
    refine VW.ret ?_
    simp [Post, PostM, PostC, PostC2, Nx, Bk]
  refine VW.block ?_
  refine VW.loopF (g_slices_IndexFunc_LLI_LI_of_i_checkElements_c1_L0 a0 a1_0_0 a1_0_1) (fun s2 => [(0, .val (dM a0)), (1, .val (.fn 194 [.ptr [i64 a1_0_0, dI a1_0_1]])), (7, .val (i64 (a0.length : Int))), (8, .val (i64 s2))]) hx2 (Fits.of rfl) ?_
  clear hx2
  intro s2 ox2 hx2o hx2b
  unfold g_slices_IndexFunc_LLI_LI_of_i_checkElements_c1_L0 at hx2o
  refine VW.ws tau_ok Sound.none [some 9] [(0, .val (dM a0)), (1, .val (.fn 194 [.ptr [i64 a1_0_0, dI a1_0_1]])), (7, .val (i64 (a0.length : Int))), (8, .val (i64 s2)), (9, .val (.bool (ilt s2 (a0.length : Int))))] rfl ?_ ?_
  · simp <;> simp [ieq, ilt, ile]
  refine VW.sqc fun K5 hK5 hCK5 => ?_
  refine VW.cond rfl (fun hb6 => ?_) (fun hb6 => ?_)
  rotate_left
  ·
    replace hb6 : ¬ (s2 < (a0.length : Int)) := by simpa [ieq, ilt, ile] using hb6
    rw [if_neg hb6] at hx2o
    refine VW.exit ?_
    cases hx2o
    have hq := hx2b _ rfl
    subst hq
    exact ⟨_, rfl, Fits.of rfl⟩
  replace hb6 : s2 < (a0.length : Int) := by simpa [ieq, ilt, ile] using hb6
  rw [if_pos hb6] at hx2o
  refine VW.skip ?_
  refine hK5 _ ?_
  refine VW.sqc fun K7 hK7 hCK7 => ?_
  refine VW.block ?_
  refine VW.ws tau_ok Sound.none [some 10, some 5] [(0, .val (dM a0)), (1, .val (.fn 194 [.ptr [i64 a1_0_0, dI a1_0_1]])), (5, .val (i64 s2)), (7, .val (i64 (a0.length : Int))), (8, .val (i64 s2))] rfl ?_ ?_
  · simp <;> simp [ieq, ilt, ile]
  obtain ⟨v8, hv8, hx2o⟩ := bind_some hx2o
  obtain ⟨hv8a, hv8b, hv8c, hv8d⟩ := idx_some hv8
  obtain ⟨v9, hv9, hx2o⟩ := bind_some hx2o
  refine VW.ws tau_ok (Sound.none.add 16 (i_checkElements_c1_ok hv9) rfl) [some 11, some 12, some 13, some 14, some 15, some 16] [(0, .val (dM a0)), (1, .val (.fn 194 [.ptr [i64 a1_0_0, dI a1_0_1]])), (5, .val (i64 s2)), (7, .val (i64 (a0.length : Int))), (8, .val (i64 s2)), (16, .val (.bool v9))] rfl ?_ ?_
  · simp [hv8a, hv8b, hv8c, hv8d] <;> simp [ieq, ilt, ile]
  refine VW.cond rfl (fun hb10 => ?_) (fun hb10 => ?_)
  rotate_left
  ·
    replace hb10 : ¬ (v9 = true) := by simpa [ieq, ilt, ile] using hb10
    rw [if_neg hb10] at hx2o
    refine VW.skip ?_
    refine hK7 _ ?_
    refine VW.wr tau_ok Sound.none [some 18, some 8] [(0, .val (dM a0)), (1, .val (.fn 194 [.ptr [i64 a1_0_0, dI a1_0_1]])), (7, .val (i64 (a0.length : Int))), (8, .val (i64 (w64 (s2 + 1))))] rfl ?_ ?_
    · simp <;> simp [ieq, ilt, ile]
    cases hx2o
    exact ⟨_, rfl, Fits.of rfl⟩
  replace hb10 : v9 = true := by simpa [ieq, ilt, ile] using hb10
  rw [if_pos hb10] at hx2o
  refine VW.ws tau_ok Sound.none [some 17, some 4] [(4, .val (i64 s2))] rfl ?_ ?_
  · simp <;> simp [ieq, ilt, ile]
  cases hx2o
  have hq := hx2b _ rfl
  subst hq
  dsimp only at h
  cases h
  refine VW.ret ?_
  simp [Post, PostM, PostC, PostC2, Nx, Bk]

theorem g_slices_ContainsFunc_LLI_LI_of_i_checkElements_c1_ok {a0 : List (List Int)} {a1_0_0 : Int} {a1_0_1 : List Int} {r : Bool} (h : g_slices_ContainsFunc_LLI_LI_of_i_checkElements_c1 a0 a1_0_0 a1_0_1 = some r) :
    VCall Try.prog 102 [dM a0, .fn 194 [.ptr [i64 a1_0_0, dI a1_0_1]]] [.sc (.bool r)] := by
  unfold g_slices_ContainsFunc_LLI_LI_of_i_checkElements_c1 at h
  refine VCall.enter Try.call102 Try.func102 rfl 9 Try.ntmps102 (by simp) [.tmp 4] rfl ?_
  show VW _ _ _ (mk [(0, .val (dM a0)), (1, .val (.fn 194 [.ptr [i64 a1_0_0, dI a1_0_1]]))]) _
  refine VW.ws tau_ok Sound.none [some 4] [(0, .val (dM a0)), (1, .val (.fn 194 [.ptr [i64 a1_0_0, dI a1_0_1]]))] rfl ?_ ?_
  · simp <;> simp [ieq, ilt, ile]
  obtain ⟨v1, hv1, h⟩ := bind_some h
  refine VW.ws tau_ok (Sound.none.add 7 (g_slices_IndexFunc_LLI_LI_of_i_checkElements_c1_ok hv1) rfl) [some 5, some 6, some 7, some 8, some 4] [(4, .val (.bool (ile 0 v1)))] rfl ?_ ?_
  · simp <;> simp [ieq, ilt, ile]
  cases h
  refine VW.ret ?_
  simp [Post, PostM, PostC, PostC2, Nx, Bk]

theorem i_checkElements_ok {a0_0 : Int} {a0_1 : List Int} {a1 : List (List Int)} {r : Int} (h : i_checkElements a0_0 a0_1 a1 = some r) :
    VCall Try.prog 124 [.agg [i64 a0_0, dI a0_1], dM a1] [.sc (i64 r)] := by
  unfold i_checkElements at h
  refine VCall.enter Try.call124 Try.func124 rfl 11 Try.ntmps124 (by simp) [.tmp 4] rfl ?_
  show VW _ _ _ (mk [(0, .val (.agg [i64 a0_0, dI a0_1])), (1, .val (dM a1))]) _
  refine VW.ws tau_ok Sound.none [some 2, some 4] [(1, .val (dM a1)), (2, .val (.ptr [i64 a0_0, dI a0_1]))] rfl ?_ ?_
  · simp <;> simp [ieq, ilt, ile]
  refine VW.sqc fun K1 hK1 hCK1 => ?_
  obtain ⟨v2, hv2, h⟩ := bind_some h
  refine VW.ws tau_ok (Sound.none.add 6 (i_IsDoubling_ok hv2) rfl) [some 5, some 6, some 7] [(1, .val (dM a1)), (2, .val (.ptr [i64 a0_0, dI a0_1])), (7, .val (.bool (!v2)))] rfl ?_ ?_
  · simp <;> simp [ieq, ilt, ile]
  refine VW.cond rfl (fun hb3 => ?_) (fun hb3 => ?_)
  ·
    replace hb3 : v2 = false := by simpa [ieq, ilt, ile] using hb3
    rw [if_pos hb3] at h
    refine VW.ws tau_ok Sound.none [some 4] [(4, .val (i64 1))] rfl ?_ ?_
    · simp <;> simp [ieq, ilt, ile]
    cases h
    refine VW.ret ?_
    simp [Post, PostM, PostC, PostC2, Nx, Bk]
  replace hb3 : ¬ (v2 = false) := by simpa [ieq, ilt, ile] using hb3
  rw [if_neg hb3] at h
  refine VW.skip ?_
  refine hK1 _ ?_
  refine VW.sqc fun K4 hK4 hCK4 => ?_
  obtain ⟨v5, hv5, h⟩ := bind_some h
  refine VW.ws tau_ok (Sound.none.add 10 (g_slices_ContainsFunc_LLI_LI_of_i_checkElements_c1_ok hv5) rfl) [some 8, some 9, some 10] [(10, .val (.bool v5))] rfl ?_ ?_
  · simp <;> simp [ieq, ilt, ile]
  refine VW.cond rfl (fun hb6 => ?_) (fun hb6 => ?_)
  ·
    replace hb6 : v5 = true := by simpa [ieq, ilt, ile] using hb6
    rw [if_pos hb6] at h
    refine VW.ws tau_ok Sound.none [some 4] [(4, .val (i64 2))] rfl ?_ ?_
    · simp <;> simp [ieq, ilt, ile]
    cases h
    refine VW.ret ?_
    simp [Post, PostM, PostC, PostC2, Nx, Bk]
  replace hb6 : ¬ (v5 = true) := by simpa [ieq, ilt, ile] using hb6
  rw [if_neg hb6] at h
  refine VW.skip ?_
  refine hK4 _ ?_
  refine VW.ws tau_ok Sound.none [some 4] [(4, .val (i64 0))] rfl ?_ ?_
  · simp <;> simp [ieq, ilt, ile]
  cases h
  refine VW.ret ?_
  simp [Post, PostM, PostC, PostC2, Nx, Bk]

theorem i_field_isTable_ok {a0 : Int} {a1 : List (List Int)} {r : Bool} (h : i_field_isTable a0 a1 = some r) :
    VCall Try.prog 231 [i64 a0, dM a1] [.sc (.bool r)] := by
  unfold i_field_isTable at h
  refine VCall.enter Try.call231 Try.func231 rfl 40 Try.ntmps231 (by simp) [.tmp 4] rfl ?_
  show VW _ _ _ (mk [(0, .val (i64 a0)), (1, .val (dM a1))]) _
  refine VW.ws tau_ok Sound.none [some 4] [(0, .val (i64 a0)), (1, .val (dM a1))] rfl ?_ ?_
  · simp <;> simp [ieq, ilt, ile]
  refine VW.sqc fun K1 hK1 hCK1 => ?_
  refine VW.ws tau_ok Sound.none [some 7, some 8, some 9] [(0, .val (i64 a0)), (1, .val (dM a1)), (9, .val (.bool (ilt 16 (a1.length : Int))))] rfl ?_ ?_
  · simp <;> simp [ieq, ilt, ile]
  refine VW.cond rfl (fun hb2 => ?_) (fun hb2 => ?_)
  ·
    replace hb2 : 16 < (a1.length : Int) := by simpa [ieq, ilt, ile] using hb2
    rw [if_pos hb2] at h
    refine VW.ws tau_ok Sound.none [some 4] [(4, .val (.bool false))] rfl ?_ ?_
    · simp <;> simp [ieq, ilt, ile]
    cases h
    refine VW.ret ?_
    simp [Post, PostM, PostC, PostC2, Nx, Bk]
  replace hb2 : ¬ (16 < (a1.length : Int)) := by simpa [ieq, ilt, ile] using hb2
  rw [if_neg hb2] at h
  refine VW.skip ?_
  refine hK1 _ ?_
  refine VW.sqc fun K3 hK3 hCK3 => ?_
  refine VW.ws tau_ok Sound.none [some 10, some 11, some 12] [(0, .val (i64 a0)), (1, .val (dM a1)), (10, .val (dM a1)), (11, .val (i64 (a1.length : Int))), (12, .val (i64 0))] rfl ?_ ?_
  · simp <;> simp [ieq, ilt, ile]
  obtain ⟨x4, hx4, h⟩ := bind_some h
  refine VW.tlO (fun y6 => []) x4 (hCK3) ?_ ?_
  · clear hx4
    rintro y6 rfl
    dsimp only at h
    refine hK3 _ ?_
    refine VW.ws tau_ok Sound.none [some 4] [(4, .val (.bool true))] rfl ?_ ?_
    · simp <;> simp [ieq, ilt, ile]
    cases h
    refine VW.ret ?_
    simp [Post, PostM, PostC, PostC2, Nx, Bk]
  refine VW.block ?_
  refine VW.loopF (i_field_isTable_L0 a0 a1) (fun s4 => [(0, .val (i64 a0)), (1, .val (dM a1)), (10, .val (dM a1)), (11, .val (i64 (a1.length : Int))), (12, .val (i64 s4))]) hx4 (Fits.of rfl) ?_
  clear hx4
  intro s4 ox4 hx4o hx4b
  unfold i_field_isTable_L0 at hx4o
  refine VW.ws tau_ok Sound.none [some 13] [(0, .val (i64 a0)), (1, .val (dM a1)), (10, .val (dM a1)), (11, .val (i64 (a1.length : Int))), (12, .val (i64 s4)), (13, .val (.bool (ilt s4 (a1.length : Int))))] rfl ?_ ?_
  · simp <;> simp [ieq, ilt, ile]
  refine VW.sqc fun K7 hK7 hCK7 => ?_
  refine VW.cond rfl (fun hb8 => ?_) (fun hb8 => ?_)
  rotate_left
  ·
    replace hb8 : ¬ (s4 < (a1.length : Int)) := by simpa [ieq, ilt, ile] using hb8
    rw [if_neg hb8] at hx4o
    refine VW.exit ?_
    cases hx4o
    have hq := hx4b _ rfl
    subst hq
    exact ⟨_, rfl, Fits.of rfl⟩
  replace hb8 : s4 < (a1.length : Int) := by simpa [ieq, ilt, ile] using hb8
  rw [if_pos hb8] at hx4o
  refine VW.skip ?_
  refine hK7 _ ?_
  refine VW.sqc fun K9 hK9 hCK9 => ?_
  refine VW.block ?_
  obtain ⟨v10, hv10, hx4o⟩ := bind_some hx4o
  obtain ⟨hv10a, hv10b, hv10c, hv10d⟩ := idx_some hv10
  refine VW.ws tau_ok Sound.none [some 14, some 15, some 6] [(0, .val (i64 a0)), (1, .val (dM a1)), (6, .val (dI v10)), (10, .val (dM a1)), (11, .val (i64 (a1.length : Int))), (12, .val (i64 s4))] rfl ?_ ?_
  · simp [hv10a, hv10b, hv10c, hv10d] <;> simp [ieq, ilt, ile]
  obtain ⟨x16, hx16, hx4o⟩ := bind_some hx4o
  refine VW.cut [(0, .val (i64 a0)), (1, .val (dM a1)), (10, .val (dM a1)), (11, .val (i64 (a1.length : Int))), (12, .val (i64 s4)), (38, .val (.bool x16))] ?_ fun hy => ?_
  rotate_left
  · clear hx4o
    obtain ⟨v11, hv11, hx16⟩ := bind_some hx16
    obtain ⟨hv11a, hv11b, hv11c, hv11d⟩ := idx_some hv11
    replace hv11b : 0 < a1.length := hv11b
    replace hv11c : a1[0]? = some v11 := hv11c
    replace hv11d : ∀ h, a1[0]'h = v11 := hv11d
    by_cases hp12 : ¬ (v10.length : Int) = (v11.length : Int)
    · rw [if_pos hp12] at hx16
      have hp12b : ieq (v10.length : Int) (v11.length : Int) = false := by simpa [ieq, ilt, ile] using hp12
      have hp12s := hp12b
      try simp at hp12s
      cases hx16
      refine VW.ws tau_ok Sound.none [some 16, some 17, some 18, some 19, some 20, some 21, some 22, some 23, some 24, some 25, some 26, some 27, some 28, some 29, some 30, some 31, some 32, some 33, some 34, some 35, some 36, some 37, some 38] _ rfl ?_ hy
      simp [hv11a, hv11b, hv11c, hv11d, hp12b, hp12s] <;> simp [ieq, ilt, ile]
    · rw [if_neg hp12] at hx16
      have hp12b : ieq (v10.length : Int) (v11.length : Int) = true := by simpa [ieq, ilt, ile] using hp12
      have hp12s := hp12b
      try simp at hp12s
      by_cases hp13 : (v10.length : Int) < 1
      · rw [if_pos hp13] at hx16
        have hp13b : ilt (v10.length : Int) 1 = true := by simpa [ieq, ilt, ile] using hp13
        have hp13s := hp13b
        try simp at hp13s
        cases hx16
        refine VW.ws tau_ok Sound.none [some 16, some 17, some 18, some 19, some 20, some 21, some 22, some 23, some 24, some 25, some 26, some 27, some 28, some 29, some 30, some 31, some 32, some 33, some 34, some 35, some 36, some 37, some 38] _ rfl ?_ hy
        simp [hv11a, hv11b, hv11c, hv11d, hp12b, hp12s, hp13b, hp13s] <;> simp [ieq, ilt, ile]
      · rw [if_neg hp13] at hx16
        have hp13b : ilt (v10.length : Int) 1 = false := by simpa [ieq, ilt, ile] using hp13
        have hp13s := hp13b
        try simp at hp13s
        by_cases hp14 : 16 < (v10.length : Int)
        · rw [if_pos hp14] at hx16
          have hp14b : ilt 16 (v10.length : Int) = true := by simpa [ieq, ilt, ile] using hp14
          have hp14s := hp14b
          try simp at hp14s
          cases hx16
          refine VW.ws tau_ok Sound.none [some 16, some 17, some 18, some 19, some 20, some 21, some 22, some 23, some 24, some 25, some 26, some 27, some 28, some 29, some 30, some 31, some 32, some 33, some 34, some 35, some 36, some 37, some 38] _ rfl ?_ hy
          simp [hv11a, hv11b, hv11c, hv11d, hp12b, hp12s, hp13b, hp13s, hp14b, hp14s] <;> simp [ieq, ilt, ile]
        · rw [if_neg hp14] at hx16
          have hp14b : ilt 16 (v10.length : Int) = false := by simpa [ieq, ilt, ile] using hp14
          have hp14s := hp14b
          try simp at hp14s
          obtain ⟨v15, hv15, hx16⟩ := bind_some hx16
          cases hx16
          refine VW.ws tau_ok (Sound.none.add 36 (i_field_is_ok hv15) rfl) [some 16, some 17, some 18, some 19, some 20, some 21, some 22, some 23, some 24, some 25, some 26, some 27, some 28, some 29, some 30, some 31, some 32, some 33, some 34, some 35, some 36, some 37, some 38] _ rfl ?_ hy
          simp [hv11a, hv11b, hv11c, hv11d, hp12b, hp12s, hp13b, hp13s, hp14b, hp14s] <;> simp [ieq, ilt, ile]
  refine VW.cond rfl (fun hb17 => ?_) (fun hb17 => ?_)
  rotate_left
  ·
    replace hb17 : ¬ (x16 = true) := by simpa [ieq, ilt, ile] using hb17
    rw [if_neg hb17] at hx4o
    refine VW.skip ?_
    refine hK9 _ ?_
    refine VW.wr tau_ok Sound.none [some 39, some 12] [(0, .val (i64 a0)), (1, .val (dM a1)), (10, .val (dM a1)), (11, .val (i64 (a1.length : Int))), (12, .val (i64 (w64 (s4 + 1))))] rfl ?_ ?_
    · simp <;> simp [ieq, ilt, ile]
    cases hx4o
    exact ⟨_, rfl, Fits.of rfl⟩
  replace hb17 : x16 = true := by simpa [ieq, ilt, ile] using hb17
  rw [if_pos hb17] at hx4o
  refine VW.ws tau_ok Sound.none [some 4] [(4, .val (.bool false))] rfl ?_ ?_
  · simp <;> simp [ieq, ilt, ile]
  cases hx4o
  have hq := hx4b _ rfl
  subst hq
  dsimp only at h
  cases h
  refine VW.ret ?_
  simp [Post, PostM, PostC, PostC2, Nx, Bk]

theorem i_field_isMatrix_ok {a0 : Int} {a1 : List (List Int)} {r : Bool} (h : i_field_isMatrix a0 a1 = some r) :
    VCall Try.prog 209 [i64 a0, dM a1] [.sc (.bool r)] := by
  unfold i_field_isMatrix at h
  refine VCall.enter Try.call209 Try.func209 rfl 13 Try.ntmps209 (by simp) [.tmp 4] rfl ?_
  show VW _ _ _ (mk [(0, .val (i64 a0)), (1, .val (dM a1))]) _
  refine VW.ws tau_ok Sound.none [some 4] [(0, .val (i64 a0)), (1, .val (dM a1))] rfl ?_ ?_
  · simp <;> simp [ieq, ilt, ile]
  obtain ⟨x3, hx3, h⟩ := bind_some h
  refine VW.cut [(4, .val (.bool x3))] ?_ fun hy => ?_
  rotate_left
  · clear h
    by_cases hp1 : 0 < (a1.length : Int)
    · rw [if_pos hp1] at hx3
      have hp1b : ilt 0 (a1.length : Int) = true := by simpa [ieq, ilt, ile] using hp1
      have hp1s := hp1b
      try simp at hp1s
      obtain ⟨v2, hv2, hx3⟩ := bind_some hx3
      cases hx3
      refine VW.ws tau_ok (Sound.none.add 11 (i_field_isTable_ok hv2) rfl) [some 5, some 6, some 7, some 8, some 9, some 10, some 11, some 12, some 4] _ rfl ?_ hy
      simp [hp1b, hp1s] <;> simp [ieq, ilt, ile]
    · rw [if_neg hp1] at hx3
      have hp1b : ilt 0 (a1.length : Int) = false := by simpa [ieq, ilt, ile] using hp1
      have hp1s := hp1b
      try simp at hp1s
      cases hx3
      refine VW.ws tau_ok Sound.none [some 5, some 6, some 7, some 8, some 9, some 10, some 11, some 12, some 4] _ rfl ?_ hy
      simp [hp1b, hp1s] <;> simp [ieq, ilt, ile]
  cases h
  refine VW.ret ?_
  simp [Post, PostM, PostC, PostC2, Nx, Bk]

theorem i_Doubling_isMatrix_ok {a0_0 : Int} {a0_1 : List Int} {a1 : List (List Int)} {r : Bool} (h : i_Doubling_isMatrix a0_0 a0_1 a1 = some r) :
    VCall Try.prog 181 [.agg [i64 a0_0, dI a0_1], dM a1] [.sc (.bool r)] := by
  unfold i_Doubling_isMatrix at h
  refine VCall.enter Try.call181 Try.func181 rfl 25 Try.ntmps181 (by simp) [.tmp 4] rfl ?_
  show VW _ _ _ (mk [(0, .val (.agg [i64 a0_0, dI a0_1])), (1, .val (dM a1))]) _
  refine VW.ws tau_ok Sound.none [some 2, some 4] [(1, .val (dM a1)), (2, .val (.ptr [i64 a0_0, dI a0_1]))] rfl ?_ ?_
  · simp <;> simp [ieq, ilt, ile]
  obtain ⟨x8, hx8, h⟩ := bind_some h
  refine VW.cut [(4, .val (.bool x8))] ?_ fun hy => ?_
  rotate_left
  · clear h
    obtain ⟨v1, hv1, hx8⟩ := bind_some hx8
    obtain ⟨v2, hv2, hx8⟩ := bind_some hx8
    by_cases hp3 : v2 = true
    · rw [if_pos hp3] at hx8
      have hp3b : v2 = true := by simpa [ieq, ilt, ile] using hp3
      have hp3s := hp3b
      try simp at hp3s
      obtain ⟨v4, hv4, hx8⟩ := bind_some hx8
      by_cases hp5 : (a1.length : Int) = v4
      · rw [if_pos hp5] at hx8
        have hp5b : ieq (a1.length : Int) v4 = true := by simpa [ieq, ilt, ile] using hp5
        have hp5s := hp5b
        try simp at hp5s
        obtain ⟨v6, hv6, hx8⟩ := bind_some hx8
        obtain ⟨hv6a, hv6b, hv6c, hv6d⟩ := idx_some hv6
        replace hv6b : 0 < a1.length := hv6b
        replace hv6c : a1[0]? = some v6 := hv6c
        replace hv6d : ∀ h, a1[0]'h = v6 := hv6d
        obtain ⟨v7, hv7, hx8⟩ := bind_some hx8
        cases hx8
        refine VW.wds tau_ok ((((Sound.none.add 6 (i_Doubling_field_ok hv1) rfl).add 8 (i_field_isMatrix_ok hv2) rfl).add 13 (i_Doubling_size_ok hv4) rfl).add 22 (i_Doubling_size_ok hv7) rfl) try_mixed [some 5, some 6, some 7, some 8, some 9, some 10, some 11, some 12, some 13, some 14, some 15, some 16, some 17, some 18, some 19, some 20, some 21, some 22, some 23, some 24, some 4] _ 21 rfl (by kernel_rfl) (by rfl) ?_ hy
        simp [hp3b, hp3s, hp5b, hp5s, hv6a, hv6b, hv6c, hv6d] <;> simp [ieq, ilt, ile]
      · rw [if_neg hp5] at hx8
        have hp5b : ieq (a1.length : Int) v4 = false := by simpa [ieq, ilt, ile] using hp5
        have hp5s := hp5b
        try simp at hp5s
        cases hx8
        refine VW.wds tau_ok (((Sound.none.add 6 (i_Doubling_field_ok hv1) rfl).add 8 (i_field_isMatrix_ok hv2) rfl).add 13 (i_Doubling_size_ok hv4) rfl) try_mixed [some 5, some 6, some 7, some 8, some 9, some 10, some 11, some 12, some 13, some 14, some 15, some 16, some 17, some 18, some 19, some 20, some 21, some 22, some 23, some 24, some 4] _ 21 rfl (by kernel_rfl) (by rfl) ?_ hy
        simp [hp3b, hp3s, hp5b, hp5s] <;> simp [ieq, ilt, ile]
    · rw [if_neg hp3] at hx8
      have hp3b : v2 = false := by simpa [ieq, ilt, ile] using hp3
      have hp3s := hp3b
      try simp at hp3s
      cases hx8
      refine VW.wds tau_ok ((Sound.none.add 6 (i_Doubling_field_ok hv1) rfl).add 8 (i_field_isMatrix_ok hv2) rfl) try_mixed [some 5, some 6, some 7, some 8, some 9, some 10, some 11, some 12, some 13, some 14, some 15, some 16, some 17, some 18, some 19, some 20, some 21, some 22, some 23, some 24, some 4] _ 21 rfl (by kernel_rfl) (by rfl) ?_ hy
      simp [hp3b, hp3s] <;> simp [ieq, ilt, ile]
  cases h
  refine VW.ret ?_
  simp [Post, PostM, PostC, PostC2, Nx, Bk]

theorem i_checkThree_c1_ok {a0 : List (List Int)} {a1_0 : Int} {a1_1 : List Int} {r : Bool} (h : i_checkThree_c1 a0 a1_0 a1_1 = some r) :
    VCall Try.prog 180 [dM a0, .ptr [i64 a1_0, dI a1_1]] [.sc (.bool r)] := by
  unfold i_checkThree_c1 at h
  refine VCall.enter Try.call180 Try.func180 rfl 8 Try.ntmps180 (by simp) [.tmp 3] rfl ?_
  show VW _ _ _ (mk [(0, .val (dM a0)), (1, .val (.ptr [i64 a1_0, dI a1_1]))]) _
  refine VW.ws tau_ok Sound.none [some 3] [(0, .val (dM a0)), (1, .val (.ptr [i64 a1_0, dI a1_1]))] rfl ?_ ?_
  · simp <;> simp [ieq, ilt, ile]
  obtain ⟨v1, hv1, h⟩ := bind_some h
  refine VW.ws tau_ok (Sound.none.add 6 (i_Doubling_isMatrix_ok hv1) rfl) [some 4, some 5, some 6, some 7, some 3] [(3, .val (.bool (!v1)))] rfl ?_ ?_
  · simp <;> simp [ieq, ilt, ile]
  cases h
  refine VW.ret ?_
  simp [Post, PostM, PostC, PostC2, Nx, Bk]

theorem g_slices_IndexFunc_LLLI_LLI_of_i_checkThree_c1_ok {a0 : List (List (List Int))} {a1_0_0 : Int} {a1_0_1 : List Int} {r : Int} (h : g_slices_IndexFunc_LLLI_LLI_of_i_checkThree_c1 a0 a1_0_0 a1_0_1 = some r) :
    VCall Try.prog 224 [dC a0, .fn 180 [.ptr [i64 a1_0_0, dI a1_0_1]]] [.sc (i64 r)] := by
  unfold g_slices_IndexFunc_LLLI_LLI_of_i_checkThree_c1 at h
  refine VCall.enter Try.call224 Try.func224 rfl 19 Try.ntmps224 (by simp) [.tmp 4] rfl ?_
  show VW _ _ _ (mk [(0, .val (dC a0)), (1, .val (.fn 180 [.ptr [i64 a1_0_0, dI a1_0_1]]))]) _
  refine VW.ws tau_ok Sound.none [some 4] [(0, .val (dC a0)), (1, .val (.fn 180 [.ptr [i64 a1_0_0, dI a1_0_1]]))] rfl ?_ ?_
  · simp <;> simp [ieq, ilt, ile]
  refine VW.sqc fun K1 hK1 hCK1 => ?_
  refine VW.ws tau_ok Sound.none [some 6, some 7, some 8] [(0, .val (dC a0)), (1, .val (.fn 180 [.ptr [i64 a1_0_0, dI a1_0_1]])), (7, .val (i64 (a0.length : Int))), (8, .val (i64 0))] rfl ?_ ?_
  · simp <;> simp [ieq, ilt, ile]
  obtain ⟨x2, hx2, h⟩ := bind_some h
  refine VW.tlO (fun y4 => []) x2 (hCK1) ?_ ?_
  · clear hx2
    rintro y4 rfl
    dsimp only at h
    refine hK1 _ ?_
    refine VW.ws tau_ok Sound.none [some 4] [(4, .val (i64 (-1)))] rfl ?_ ?_
    · simp <;> simp [ieq, ilt, ile]
    cases h
    refine VW.ret ?_
    simp [Post, PostM, PostC, PostC2, Nx, Bk]
  refine VW.block ?_
  refine VW.loopF (g_slices_IndexFunc_LLLI_LLI_of_i_checkThree_c1_L0 a0 a1_0_0 a1_0_1) (fun s2 => [(0, .val (dC a0)), (1, .val (.fn 180 [.ptr [i64 a1_0_0, dI a1_0_1]])), (7, .val (i64 (a0.length : Int))), (8, .val (i64 s2))]) hx2 (Fits.of rfl) ?_
  clear hx2
  intro s2 ox2 hx2o hx2b
  unfold g_slices_IndexFunc_LLLI_LLI_of_i_checkThree_c1_L0 at hx2o
  refine VW.ws tau_ok Sound.none [some 9] [(0, .val (dC a0)), (1, .val (.fn 180 [.ptr [i64 a1_0_0, dI a1_0_1]])), (7, .val (i64 (a0.length : Int))), (8, .val (i64 s2)), (9, .val (.bool (ilt s2 (a0.length : Int))))] rfl ?_ ?_
  · simp <;> simp [ieq, ilt, ile]
  refine VW.sqc fun K5 hK5 hCK5 => ?_
  refine VW.cond rfl (fun hb6 => ?_) (fun hb6 => ?_)
  rotate_left
  ·
    replace hb6 : ¬ (s2 < (a0.length : Int)) := by simpa [ieq, ilt, ile] using hb6
    rw [if_neg hb6] at hx2o
    refine VW.exit ?_
    cases hx2o
    have hq := hx2b _ rfl
    subst hq
    exact ⟨_, rfl, Fits.of rfl⟩
  replace hb6 : s2 < (a0.length : Int) := by simpa [ieq, ilt, ile] using hb6
  rw [if_pos hb6] at hx2o
  refine VW.skip ?_
  refine hK5 _ ?_
  refine VW.sqc fun K7 hK7 hCK7 => ?_
  refine VW.block ?_
  refine VW.ws tau_ok Sound.none [some 10, some 5] [(0, .val (dC a0)), (1, .val (.fn 180 [.ptr [i64 a1_0_0, dI a1_0_1]])), (5, .val (i64 s2)), (7, .val (i64 (a0.length : Int))), (8, .val (i64 s2))] rfl ?_ ?_
  · simp <;> simp [ieq, ilt, ile]
  obtain ⟨v8, hv8, hx2o⟩ := bind_some hx2o
  obtain ⟨hv8a, hv8b, hv8c, hv8d⟩ := idx_some hv8
  obtain ⟨v9, hv9, hx2o⟩ := bind_some hx2o
  refine VW.ws tau_ok (Sound.none.add 16 (i_checkThree_c1_ok hv9) rfl) [some 11, some 12, some 13, some 14, some 15, some 16] [(0, .val (dC a0)), (1, .val (.fn 180 [.ptr [i64 a1_0_0, dI a1_0_1]])), (5, .val (i64 s2)), (7, .val (i64 (a0.length : Int))), (8, .val (i64 s2)), (16, .val (.bool v9))] rfl ?_ ?_
  · simp [hv8a, hv8b, hv8c, hv8d] <;> simp [ieq, ilt, ile]
  refine VW.cond rfl (fun hb10 => ?_) (fun hb10 => ?_)
  rotate_left
  ·
    replace hb10 : ¬ (v9 = true) := by simpa [ieq, ilt, ile] using hb10
    rw [if_neg hb10] at hx2o
    refine VW.skip ?_
    refine hK7 _ ?_
    refine VW.wr tau_ok Sound.none [some 18, some 8] [(0, .val (dC a0)), (1, .val (.fn 180 [.ptr [i64 a1_0_0, dI a1_0_1]])), (7, .val (i64 (a0.length : Int))), (8, .val (i64 (w64 (s2 + 1))))] rfl ?_ ?_
    · simp <;> simp [ieq, ilt, ile]
    cases hx2o
    exact ⟨_, rfl, Fits.of rfl⟩
  replace hb10 : v9 = true := by simpa [ieq, ilt, ile] using hb10
  rw [if_pos hb10] at hx2o
  refine VW.ws tau_ok Sound.none [some 17, some 4] [(4, .val (i64 s2))] rfl ?_ ?_
  · simp <;> simp [ieq, ilt, ile]
  cases hx2o
  have hq := hx2b _ rfl
  subst hq
  dsimp only at h
  cases h
  refine VW.ret ?_
  simp [Post, PostM, PostC, PostC2, Nx, Bk]

theorem g_slices_ContainsFunc_LLLI_LLI_of_i_checkThree_c1_ok {a0 : List (List (List Int))} {a1_0_0 : Int} {a1_0_1 : List Int} {r : Bool} (h : g_slices_ContainsFunc_LLLI_LLI_of_i_checkThree_c1 a0 a1_0_0 a1_0_1 = some r) :
    VCall Try.prog 179 [dC a0, .fn 180 [.ptr [i64 a1_0_0, dI a1_0_1]]] [.sc (.bool r)] := by
  unfold g_slices_ContainsFunc_LLLI_LLI_of_i_checkThree_c1 at h
  refine VCall.enter Try.call179 Try.func179 rfl 9 Try.ntmps179 (by simp) [.tmp 4] rfl ?_
  show VW _ _ _ (mk [(0, .val (dC a0)), (1, .val (.fn 180 [.ptr [i64 a1_0_0, dI a1_0_1]]))]) _
  refine VW.ws tau_ok Sound.none [some 4] [(0, .val (dC a0)), (1, .val (.fn 180 [.ptr [i64 a1_0_0, dI a1_0_1]]))] rfl ?_ ?_
  · simp <;> simp [ieq, ilt, ile]
  obtain ⟨v1, hv1, h⟩ := bind_some h
  refine VW.ws tau_ok (Sound.none.add 7 (g_slices_IndexFunc_LLLI_LLI_of_i_checkThree_c1_ok hv1) rfl) [some 5, some 6, some 7, some 8, some 4] [(4, .val (.bool (ile 0 v1)))] rfl ?_ ?_
  · simp <;> simp [ieq, ilt, ile]
  cases h
  refine VW.ret ?_
  simp [Post, PostM, PostC, PostC2, Nx, Bk]

theorem i_checkThree_ok {a0_0 : Int} {a0_1 : List Int} {a1 : List (List Int)} {a2 : List (List (List Int))} {r : Int} (h : i_checkThree a0_0 a0_1 a1 a2 = some r) :
    VCall Try.prog 113 [.agg [i64 a0_0, dI a0_1], dM a1, dC a2] [.sc (i64 r)] := by
  unfold i_checkThree at h
  refine VCall.enter Try.call113 Try.func113 rfl 26 Try.ntmps113 (by simp) [.tmp 6] rfl ?_
  show VW _ _ _ (mk [(0, .val (.agg [i64 a0_0, dI a0_1])), (1, .val (dM a1)), (2, .val (dC a2))]) _
  refine VW.ws tau_ok Sound.none [some 3, some 6] [(1, .val (dM a1)), (2, .val (dC a2)), (3, .val (.ptr [i64 a0_0, dI a0_1]))] rfl ?_ ?_
  · simp <;> simp [ieq, ilt, ile]
  refine VW.sqc fun K1 hK1 hCK1 => ?_
  refine VW.block ?_
  obtain ⟨v2, hv2, h⟩ := bind_some h
  refine VW.ws tau_ok (Sound.none.add 9 (i_IsDoubling_ok hv2) rfl) [some 8, some 9, some 10, some 7] [(1, .val (dM a1)), (2, .val (dC a2)), (3, .val (.ptr [i64 a0_0, dI a0_1])), (7, .val (.bool (!v2)))] rfl ?_ ?_
  · simp <;> simp [ieq, ilt, ile]
  refine VW.cond rfl (fun hb3 => ?_) (fun hb3 => ?_)
  ·
    replace hb3 : v2 = false := by simpa [ieq, ilt, ile] using hb3
    rw [if_pos hb3] at h
    refine VW.ws tau_ok Sound.none [some 6] [(6, .val (i64 1))] rfl ?_ ?_
    · simp <;> simp [ieq, ilt, ile]
    cases h
    refine VW.ret ?_
    simp [Post, PostM, PostC, PostC2, Nx, Bk]
  replace hb3 : ¬ (v2 = false) := by simpa [ieq, ilt, ile] using hb3
  rw [if_neg hb3] at h
  refine VW.ws tau_ok Sound.none [some 12, some 13, some 14, some 15, some 11] [(1, .val (dM a1)), (2, .val (dC a2)), (3, .val (.ptr [i64 a0_0, dI a0_1])), (11, .val (.bool (ilt 3 (a0_1.length : Int))))] rfl ?_ ?_
  · simp <;> simp [ieq, ilt, ile]
  refine VW.cond rfl (fun hb4 => ?_) (fun hb4 => ?_)
  ·
    replace hb4 : 3 < (a0_1.length : Int) := by simpa [ieq, ilt, ile] using hb4
    rw [if_pos hb4] at h
    refine VW.ws tau_ok Sound.none [some 6] [(6, .val (i64 3))] rfl ?_ ?_
    · simp <;> simp [ieq, ilt, ile]
    cases h
    refine VW.ret ?_
    simp [Post, PostM, PostC, PostC2, Nx, Bk]
  replace hb4 : ¬ (3 < (a0_1.length : Int)) := by simpa [ieq, ilt, ile] using hb4
  rw [if_neg hb4] at h
  obtain ⟨x8, hx8, h⟩ := bind_some h
  refine VW.cut [(16, .val (.bool x8))] ?_ fun hy => ?_
  rotate_left
  · clear h
    obtain ⟨v5, hv5, hx8⟩ := bind_some hx8
    by_cases hp6 : ¬ v5 = 0
    · rw [if_pos hp6] at hx8
      have hp6b : ieq v5 0 = false := by simpa [ieq, ilt, ile] using hp6
      have hp6s := hp6b
      try simp at hp6s
      cases hx8
      refine VW.ws tau_ok (Sound.none.add 19 (i_checkElements_ok hv5) rfl) [some 17, some 18, some 19, some 20, some 21, some 22, some 23, some 24, some 25, some 16] _ rfl ?_ hy
      simp [hp6b, hp6s] <;> simp [ieq, ilt, ile]
    · rw [if_neg hp6] at hx8
      have hp6b : ieq v5 0 = true := by simpa [ieq, ilt, ile] using hp6
      have hp6s := hp6b
      try simp at hp6s
      obtain ⟨v7, hv7, hx8⟩ := bind_some hx8
      cases hx8
      refine VW.ws tau_ok ((Sound.none.add 19 (i_checkElements_ok hv5) rfl).add 24 (g_slices_ContainsFunc_LLLI_LLI_of_i_checkThree_c1_ok hv7) rfl) [some 17, some 18, some 19, some 20, some 21, some 22, some 23, some 24, some 25, some 16] _ rfl ?_ hy
      simp [hp6b, hp6s] <;> simp [ieq, ilt, ile]
  refine VW.cond rfl (fun hb9 => ?_) (fun hb9 => ?_)
  ·
    replace hb9 : x8 = true := by simpa [ieq, ilt, ile] using hb9
    rw [if_pos hb9] at h
    refine VW.ws tau_ok Sound.none [some 6] [(6, .val (i64 2))] rfl ?_ ?_
    · simp <;> simp [ieq, ilt, ile]
    cases h
    refine VW.ret ?_
    simp [Post, PostM, PostC, PostC2, Nx, Bk]
  replace hb9 : ¬ (x8 = true) := by simpa [ieq, ilt, ile] using hb9
  rw [if_neg hb9] at h
  refine VW.skip ?_
  refine hK1 _ ?_
  refine VW.ws tau_ok Sound.none [some 6] [(6, .val (i64 0))] rfl ?_ ?_
  · simp <;> simp [ieq, ilt, ile]
  cases h
  refine VW.ret ?_
  simp [Post, PostM, PostC, PostC2, Nx, Bk]

theorem i_unit_ok {a0 : Int} {r : List (List Int)} (h : i_unit a0 = some r) :
    VCall Try.prog 167 [i64 a0] [.own true (dM r)] := by
  unfold i_unit at h
  refine VCall.enter Try.call167 Try.func167 rfl 22 Try.ntmps167 (by simp) [.tmp 2] rfl ?_
  show VW _ _ _ (mk [(0, .val (i64 a0))]) _
  refine VW.ws tau_ok Sound.none [some 2] [(0, .val (i64 a0))] rfl ?_ ?_
  · simp <;> simp [ieq, ilt, ile]
  refine VW.ws tau_ok Sound.none [some 6, some 3] [(0, .val (i64 a0)), (3, .ref 3 [] true (dM []))] rfl ?_ ?_
  · simp <;> simp [ieq, ilt, ile]
  refine VW.sqc fun K1 hK1 hCK1 => ?_
  refine VW.ws tau_ok Sound.none [some 7, some 8] [(0, .val (i64 a0)), (3, .ref 3 [] true (dM [])), (7, .val (i64 a0)), (8, .val (i64 0))] rfl ?_ ?_
  · simp <;> simp [ieq, ilt, ile]
  obtain ⟨x2, hx2, h⟩ := bind_some h
  refine VW.tlE [(3, .ref 3 [] true (dM x2))] (hCK1) ?_ ?_
  · clear hx2
    refine hK1 _ ?_
    refine VW.ws tau_ok Sound.none [some 21, some 2] [(2, .ref 2 [] true (dM x2))] rfl ?_ ?_
    · simp <;> simp [ieq, ilt, ile]
    cases h
    refine VW.ret ?_
    simp [Post, PostM, PostC, PostC2, Nx, Bk]
  refine VW.block ?_
  refine VW.loopF (i_unit_L0 a0) (fun s2 => [(0, .val (i64 a0)), (3, .ref 3 [] true (dM s2.1)), (7, .val (i64 a0)), (8, .val (i64 s2.2))]) hx2 (Fits.of rfl) ?_
  clear hx2
  intro s2 ox2 hx2o hx2b
  unfold i_unit_L0 at hx2o
  refine VW.ws tau_ok Sound.none [some 9] [(0, .val (i64 a0)), (3, .ref 3 [] true (dM s2.1)), (7, .val (i64 a0)), (8, .val (i64 s2.2)), (9, .val (.bool (ilt s2.2 a0)))] rfl ?_ ?_
  · simp <;> simp [ieq, ilt, ile]
  refine VW.sqc fun K4 hK4 hCK4 => ?_
  refine VW.cond rfl (fun hb5 => ?_) (fun hb5 => ?_)
  rotate_left
  ·
    replace hb5 : ¬ (s2.2 < a0) := by simpa [ieq, ilt, ile] using hb5
    rw [if_neg hb5] at hx2o
    refine VW.exit ?_
    cases hx2o
    have hq := hx2b _ rfl
    subst hq
    exact Fits.of rfl
  replace hb5 : s2.2 < a0 := by simpa [ieq, ilt, ile] using hb5
  rw [if_pos hb5] at hx2o
  refine VW.skip ?_
  refine hK4 _ ?_
  refine VW.sqc fun K6 hK6 hCK6 => ?_
  refine VW.block ?_
  refine VW.ws tau_ok Sound.none [some 10, some 4] [(0, .val (i64 a0)), (3, .ref 3 [] true (dM s2.1)), (4, .val (i64 s2.2)), (7, .val (i64 a0)), (8, .val (i64 s2.2))] rfl ?_ ?_
  · simp <;> simp [ieq, ilt, ile]
  obtain ⟨hc7, hx2o⟩ := chk_some hx2o
  have hc7s := hc7
  try simp at hc7s
  refine VW.ws tau_ok Sound.none [some 11, some 12, some 5] [(0, .val (i64 a0)), (3, .ref 3 [] true (dM s2.1)), (4, .val (i64 s2.2)), (5, .ref 5 [] true (dI (List.replicate a0.toNat 0))), (7, .val (i64 a0)), (8, .val (i64 s2.2))] rfl ?_ ?_
  · simp [hc7, hc7s] <;> simp [ieq, ilt, ile]
  obtain ⟨l8, hl8, hx2o⟩ := bind_some hx2o
  rw [Option.some.inj hl8]
  obtain ⟨v9, hv9, hx2o⟩ := bind_some hx2o
  obtain ⟨hv9a, hv9b, hv9c, hv9d⟩ := idx_some hv9
  refine VW.ws tau_ok Sound.none [some 13, some 14, some 15, none] [(0, .val (i64 a0)), (3, .ref 3 [] true (dM s2.1)), (5, .ref 5 [] true (dI (l8.set s2.2.toNat 1))), (7, .val (i64 a0)), (8, .val (i64 s2.2))] rfl ?_ ?_
  · simp [hv9a, hv9b, hv9c, hv9d] <;> simp [ieq, ilt, ile]
  obtain ⟨hc10, hx2o⟩ := chk_some hx2o
  have hc10s := hc10
  try simp at hc10s
  refine VW.wr tau_ok Sound.none [some 16, some 17, some 18, some 19, some 3] [(0, .val (i64 a0)), (3, .ref 3 [] true (dM (s2.1 ++ [l8.set s2.2.toNat 1]))), (7, .val (i64 a0)), (8, .val (i64 s2.2))] rfl ?_ ?_
  · simp [hc10, hc10s] <;> simp [ieq, ilt, ile]
  refine hK6 _ ?_
  refine VW.wr tau_ok Sound.none [some 20, some 8] [(0, .val (i64 a0)), (3, .ref 3 [] true (dM (s2.1 ++ [l8.set s2.2.toNat 1]))), (7, .val (i64 a0)), (8, .val (i64 (w64 (s2.2 + 1))))] rfl ?_ ?_
  · simp <;> simp [ieq, ilt, ile]
  cases hx2o
  exact ⟨_, rfl, Fits.of rfl⟩

theorem i_field_num_ok {a0 : Int} {a1 : Int} {r : Int} (h : i_field_num a0 a1 = some r) :
    VCall Try.prog 156 [i64 a0, i64 a1] [.sc (i64 r)] := by
  unfold i_field_num at h
  refine VCall.enter Try.call156 Try.func156 rfl 14 Try.ntmps156 (by simp) [.tmp 4] rfl ?_
  show VW _ _ _ (mk [(0, .val (i64 a0)), (1, .val (i64 a1))]) _
  refine VW.ws tau_ok Sound.none [some 4] [(0, .val (i64 a0)), (1, .val (i64 a1))] rfl ?_ ?_
  · simp <;> simp [ieq, ilt, ile]
  refine VW.ws tau_ok Sound.none [some 6, some 5] [(1, .val (i64 a1)), (5, .val (i64 a0))] rfl ?_ ?_
  · simp <;> simp [ieq, ilt, ile]
  obtain ⟨hc1, h⟩ := chk_some h
  have hc1s := hc1
  try simp at hc1s
  obtain ⟨hc2, h⟩ := chk_some h
  have hc2s := hc2
  try simp at hc2s
  refine VW.ws tau_ok Sound.none [some 7, some 8, some 9, some 10, some 11, some 12, some 13, some 4] [(4, .val (i64 ((w64 ((a1.tmod a0) + a0)).tmod a0)))] rfl ?_ ?_
  · simp [hc1, hc1s, hc2, hc2s] <;> simp [ieq, ilt, ile]
  cases h
  refine VW.ret ?_
  simp [Post, PostM, PostC, PostC2, Nx, Bk]

theorem i_field_scaled_ok {a0 : Int} {a1 : List Int} {a2 : Int} {r : List Int} (h : i_field_scaled a0 a1 a2 = some r) :
    VCall Try.prog 186 [i64 a0, dI a1, i64 a2] [.own true (dI r)] := by
  unfold i_field_scaled at h
  refine VCall.enter Try.call186 Try.func186 rfl 27 Try.ntmps186 (by simp) [.tmp 6] rfl ?_
  show VW _ _ _ (mk [(0, .val (i64 a0)), (1, .val (dI a1)), (2, .val (i64 a2))]) _
  refine VW.ws tau_ok Sound.none [some 6] [(0, .val (i64 a0)), (1, .val (dI a1)), (2, .val (i64 a2))] rfl ?_ ?_
  · simp <;> simp [ieq, ilt, ile]
  refine VW.ws tau_ok Sound.none [some 10, some 7] [(0, .val (i64 a0)), (1, .val (dI a1)), (2, .val (i64 a2)), (7, .ref 7 [] true (dI []))] rfl ?_ ?_
  · simp <;> simp [ieq, ilt, ile]
  refine VW.sqc fun K1 hK1 hCK1 => ?_
  refine VW.ws tau_ok Sound.none [some 11, some 12, some 13] [(0, .val (i64 a0)), (2, .val (i64 a2)), (7, .ref 7 [] true (dI [])), (11, .val (dI a1)), (12, .val (i64 (a1.length : Int))), (13, .val (i64 0))] rfl ?_ ?_
  · simp <;> simp [ieq, ilt, ile]
  obtain ⟨x2, hx2, h⟩ := bind_some h
  refine VW.tlE [(7, .ref 7 [] true (dI x2))] (hCK1) ?_ ?_
  · clear hx2
    refine hK1 _ ?_
    refine VW.ws tau_ok Sound.none [some 26, some 6] [(6, .ref 6 [] true (dI x2))] rfl ?_ ?_
    · simp <;> simp [ieq, ilt, ile]
    cases h
    refine VW.ret ?_
    simp [Post, PostM, PostC, PostC2, Nx, Bk]
  refine VW.block ?_
  refine VW.loopF (i_field_scaled_L0 a0 a1 a2) (fun s2 => [(0, .val (i64 a0)), (2, .val (i64 a2)), (7, .ref 7 [] true (dI s2.1)), (11, .val (dI a1)), (12, .val (i64 (a1.length : Int))), (13, .val (i64 s2.2))]) hx2 (Fits.of rfl) ?_
  clear hx2
  intro s2 ox2 hx2o hx2b
  unfold i_field_scaled_L0 at hx2o
  refine VW.ws tau_ok Sound.none [some 14] [(0, .val (i64 a0)), (2, .val (i64 a2)), (7, .ref 7 [] true (dI s2.1)), (11, .val (dI a1)), (12, .val (i64 (a1.length : Int))), (13, .val (i64 s2.2)), (14, .val (.bool (ilt s2.2 (a1.length : Int))))] rfl ?_ ?_
  · simp <;> simp [ieq, ilt, ile]
  refine VW.sqc fun K4 hK4 hCK4 => ?_
  refine VW.cond rfl (fun hb5 => ?_) (fun hb5 => ?_)
  rotate_left
  ·
    replace hb5 : ¬ (s2.2 < (a1.length : Int)) := by simpa [ieq, ilt, ile] using hb5
    rw [if_neg hb5] at hx2o
    refine VW.exit ?_
    cases hx2o
    have hq := hx2b _ rfl
    subst hq
    exact Fits.of rfl
  replace hb5 : s2.2 < (a1.length : Int) := by simpa [ieq, ilt, ile] using hb5
  rw [if_pos hb5] at hx2o
  refine VW.skip ?_
  refine hK4 _ ?_
  refine VW.sqc fun K6 hK6 hCK6 => ?_
  refine VW.block ?_
  obtain ⟨v7, hv7, hx2o⟩ := bind_some hx2o
  obtain ⟨hv7a, hv7b, hv7c, hv7d⟩ := idx_some hv7
  refine VW.ws tau_ok Sound.none [some 15, some 16, some 9] [(0, .val (i64 a0)), (2, .val (i64 a2)), (7, .ref 7 [] true (dI s2.1)), (9, .val (i64 v7)), (11, .val (dI a1)), (12, .val (i64 (a1.length : Int))), (13, .val (i64 s2.2))] rfl ?_ ?_
  · simp [hv7a, hv7b, hv7c, hv7d] <;> simp [ieq, ilt, ile]
  obtain ⟨v8, hv8, hx2o⟩ := bind_some hx2o
  obtain ⟨hc9, hx2o⟩ := chk_some hx2o
  have hc9s := hc9
  try simp at hc9s
  refine VW.wr tau_ok (Sound.none.add 22 (i_field_num_ok hv8) rfl) [some 17, some 18, some 19, some 20, some 21, some 22, some 23, some 24, some 7] [(0, .val (i64 a0)), (2, .val (i64 a2)), (7, .ref 7 [] true (dI (s2.1 ++ [v8]))), (11, .val (dI a1)), (12, .val (i64 (a1.length : Int))), (13, .val (i64 s2.2))] rfl ?_ ?_
  · simp [hc9, hc9s] <;> simp [ieq, ilt, ile]
  refine hK6 _ ?_
  refine VW.wr tau_ok Sound.none [some 25, some 13] [(0, .val (i64 a0)), (2, .val (i64 a2)), (7, .ref 7 [] true (dI (s2.1 ++ [v8]))), (11, .val (dI a1)), (12, .val (i64 (a1.length : Int))), (13, .val (i64 (w64 (s2.2 + 1))))] rfl ?_ ?_
  · simp <;> simp [ieq, ilt, ile]
  cases hx2o
  exact ⟨_, rfl, Fits.of rfl⟩

theorem i_field_conjugate_ok {a0 : Int} {a1 : List Int} {r : List Int} (h : i_field_conjugate a0 a1 = some r) :
    VCall Try.prog 195 [i64 a0, dI a1] [.own true (dI r)] := by
  unfold i_field_conjugate at h
  refine VCall.enter Try.call195 Try.func195 rfl 15 Try.ntmps195 (by simp) [.tmp 4] rfl ?_
  show VW _ _ _ (mk [(0, .val (i64 a0)), (1, .val (dI a1))]) _
  refine VW.ws tau_ok Sound.none [some 4] [(0, .val (i64 a0)), (1, .val (dI a1))] rfl ?_ ?_
  · simp <;> simp [ieq, ilt, ile]
  obtain ⟨v1, hv1, h⟩ := bind_some h
  refine VW.ws tau_ok (Sound.none.add 8 (i_field_scaled_ok hv1) rfl) [some 6, some 7, some 8, some 5] [(1, .val (dI a1)), (5, .ref 5 [] true (dI v1))] rfl ?_ ?_
  · simp <;> simp [ieq, ilt, ile]
  obtain ⟨v2, hv2, h⟩ := bind_some h
  obtain ⟨hv2a, hv2b, hv2c, hv2d⟩ := idx_some hv2
  replace hv2b : 0 < a1.length := hv2b
  replace hv2c : a1[0]? = some v2 := hv2c
  replace hv2d : ∀ h, a1[0]'h = v2 := hv2d
  obtain ⟨v3, hv3, h⟩ := bind_some h
  obtain ⟨hv3a, hv3b, hv3c, hv3d⟩ := idx_some hv3
  replace hv3b : 0 < v1.length := hv3b
  replace hv3c : v1[0]? = some v3 := hv3c
  replace hv3d : ∀ h, v1[0]'h = v3 := hv3d
  refine VW.ws tau_ok Sound.none [some 9, some 10, some 11, some 12, some 13, none] [(5, .ref 5 [] true (dI (v1.set 0 v2)))] rfl ?_ ?_
  · simp [hv2a, hv2b, hv2c, hv2d, hv3a, hv3b, hv3c, hv3d] <;> simp [ieq, ilt, ile]
  refine VW.ws tau_ok Sound.none [some 14, some 4] [(4, .ref 4 [] true (dI (v1.set 0 v2)))] rfl ?_ ?_
  · simp <;> simp [ieq, ilt, ile]
  cases h
  refine VW.ret ?_
  simp [Post, PostM, PostC, PostC2, Nx, Bk]

theorem i_field_plus_ok {a0 : Int} {a1 : List Int} {a2 : List Int} {a3 : Int} {r : List Int} (h : i_field_plus a0 a1 a2 a3 = some r) :
    VCall Try.prog 188 [i64 a0, dI a1, dI a2, i64 a3] [.own true (dI r)] := by
  unfold i_field_plus at h
  refine VCall.enter Try.call188 Try.func188 rfl 35 Try.ntmps188 (by simp) [.tmp 8] rfl ?_
  show VW _ _ _ (mk [(0, .val (i64 a0)), (1, .val (dI a1)), (2, .val (dI a2)), (3, .val (i64 a3))]) _
  refine VW.ws tau_ok Sound.none [some 8] [(0, .val (i64 a0)), (1, .val (dI a1)), (2, .val (dI a2)), (3, .val (i64 a3))] rfl ?_ ?_
  · simp <;> simp [ieq, ilt, ile]
  refine VW.ws tau_ok Sound.none [some 12, some 9] [(0, .val (i64 a0)), (1, .val (dI a1)), (2, .val (dI a2)), (3, .val (i64 a3)), (9, .ref 9 [] true (dI []))] rfl ?_ ?_
  · simp <;> simp [ieq, ilt, ile]
  refine VW.sqc fun K1 hK1 hCK1 => ?_
  refine VW.ws tau_ok Sound.none [some 13, some 14, some 15] [(0, .val (i64 a0)), (2, .val (dI a2)), (3, .val (i64 a3)), (9, .ref 9 [] true (dI [])), (13, .val (dI a1)), (14, .val (i64 (a1.length : Int))), (15, .val (i64 0))] rfl ?_ ?_
  · simp <;> simp [ieq, ilt, ile]
  obtain ⟨x2, hx2, h⟩ := bind_some h
  refine VW.tlE [(9, .ref 9 [] true (dI x2))] (hCK1) ?_ ?_
  · clear hx2
    refine hK1 _ ?_
    refine VW.ws tau_ok Sound.none [some 34, some 8] [(8, .ref 8 [] true (dI x2))] rfl ?_ ?_
    · simp <;> simp [ieq, ilt, ile]
    cases h
    refine VW.ret ?_
    simp [Post, PostM, PostC, PostC2, Nx, Bk]
  refine VW.block ?_
  refine VW.loopF (i_field_plus_L0 a0 a1 a2 a3) (fun s2 => [(0, .val (i64 a0)), (2, .val (dI a2)), (3, .val (i64 a3)), (9, .ref 9 [] true (dI s2.1)), (13, .val (dI a1)), (14, .val (i64 (a1.length : Int))), (15, .val (i64 s2.2))]) hx2 (Fits.of rfl) ?_
  clear hx2
  intro s2 ox2 hx2o hx2b
  unfold i_field_plus_L0 at hx2o
  refine VW.ws tau_ok Sound.none [some 16] [(0, .val (i64 a0)), (2, .val (dI a2)), (3, .val (i64 a3)), (9, .ref 9 [] true (dI s2.1)), (13, .val (dI a1)), (14, .val (i64 (a1.length : Int))), (15, .val (i64 s2.2)), (16, .val (.bool (ilt s2.2 (a1.length : Int))))] rfl ?_ ?_
  · simp <;> simp [ieq, ilt, ile]
  refine VW.sqc fun K4 hK4 hCK4 => ?_
  refine VW.cond rfl (fun hb5 => ?_) (fun hb5 => ?_)
  rotate_left
  ·
    replace hb5 : ¬ (s2.2 < (a1.length : Int)) := by simpa [ieq, ilt, ile] using hb5
    rw [if_neg hb5] at hx2o
    refine VW.exit ?_
    cases hx2o
    have hq := hx2b _ rfl
    subst hq
    exact Fits.of rfl
  replace hb5 : s2.2 < (a1.length : Int) := by simpa [ieq, ilt, ile] using hb5
  rw [if_pos hb5] at hx2o
  refine VW.skip ?_
  refine hK4 _ ?_
  refine VW.sqc fun K6 hK6 hCK6 => ?_
  refine VW.block ?_
  obtain ⟨v7, hv7, hx2o⟩ := bind_some hx2o
  obtain ⟨hv7a, hv7b, hv7c, hv7d⟩ := idx_some hv7
  refine VW.ws tau_ok Sound.none [some 17, some 18, some 19, some 10, some 11] [(0, .val (i64 a0)), (2, .val (dI a2)), (3, .val (i64 a3)), (9, .ref 9 [] true (dI s2.1)), (10, .val (i64 s2.2)), (11, .val (i64 v7)), (13, .val (dI a1)), (14, .val (i64 (a1.length : Int))), (15, .val (i64 s2.2))] rfl ?_ ?_
  · simp [hv7a, hv7b, hv7c, hv7d] <;> simp [ieq, ilt, ile]
  obtain ⟨v8, hv8, hx2o⟩ := bind_some hx2o
  obtain ⟨hv8a, hv8b, hv8c, hv8d⟩ := idx_some hv8
  obtain ⟨v9, hv9, hx2o⟩ := bind_some hx2o
  obtain ⟨hc10, hx2o⟩ := chk_some hx2o
  have hc10s := hc10
  try simp at hc10s
  refine VW.wr tau_ok (Sound.none.add 30 (i_field_num_ok hv9) rfl) [some 20, some 21, some 22, some 23, some 24, some 25, some 26, some 27, some 28, some 29, some 30, some 31, some 32, some 9] [(0, .val (i64 a0)), (2, .val (dI a2)), (3, .val (i64 a3)), (9, .ref 9 [] true (dI (s2.1 ++ [v9]))), (13, .val (dI a1)), (14, .val (i64 (a1.length : Int))), (15, .val (i64 s2.2))] rfl ?_ ?_
  · simp [hv8a, hv8b, hv8c, hv8d, hc10, hc10s] <;> simp [ieq, ilt, ile]
  refine hK6 _ ?_
  refine VW.wr tau_ok Sound.none [some 33, some 15] [(0, .val (i64 a0)), (2, .val (dI a2)), (3, .val (i64 a3)), (9, .ref 9 [] true (dI (s2.1 ++ [v9]))), (13, .val (dI a1)), (14, .val (i64 (a1.length : Int))), (15, .val (i64 (w64 (s2.2 + 1))))] rfl ?_ ?_
  · simp <;> simp [ieq, ilt, ile]
  cases hx2o
  exact ⟨_, rfl, Fits.of rfl⟩

theorem i_field_doubled_b_ok {self : Int → (List Int) → (List Int) → (List Int) → Option (List Int)} (hself : ∀ {a0 a1 a2 a3} {r : List Int}, self a0 a1 a2 a3 = some r → VCall Try.prog 220 [i64 a0, dI a1, dI a2, dI a3] [.own true (dI r)]) {a0 : Int} {a1 : List Int} {a2 : List Int} {a3 : List Int} {r : List Int} (h : i_field_doubled_b self a0 a1 a2 a3 = some r) :
    VCall Try.prog 220 [i64 a0, dI a1, dI a2, dI a3] [.own true (dI r)] := by
  unfold i_field_doubled_b at h
  refine VCall.enter Try.call220 Try.func220 rfl 87 Try.ntmps220 (by simp) [.tmp 8] rfl ?_
  show VW _ _ _ (mk [(0, .val (i64 a0)), (1, .val (dI a1)), (2, .val (dI a2)), (3, .val (dI a3))]) _
  refine VW.ws tau_ok Sound.none [some 8] [(0, .val (i64 a0)), (1, .val (dI a1)), (2, .val (dI a2)), (3, .val (dI a3))] rfl ?_ ?_
  · simp <;> simp [ieq, ilt, ile]
  refine VW.sqc fun K1 hK1 hCK1 => ?_
  refine VW.ws tau_ok Sound.none [some 18, some 19, some 20] [(0, .val (i64 a0)), (1, .val (dI a1)), (2, .val (dI a2)), (3, .val (dI a3)), (20, .val (.bool (ieq (a1.length : Int) 0)))] rfl ?_ ?_
  · simp <;> simp [ieq, ilt, ile]
  refine VW.cond rfl (fun hb2 => ?_) (fun hb2 => ?_)
  ·
    replace hb2 : (a1.length : Int) = 0 := by simpa [ieq, ilt, ile] using hb2
    rw [if_pos hb2] at h
    obtain ⟨v3, hv3, h⟩ := bind_some h
    obtain ⟨hv3a, hv3b, hv3c, hv3d⟩ := idx_some hv3
    replace hv3b : 0 < a2.length := hv3b
    replace hv3c : a2[0]? = some v3 := hv3c
    replace hv3d : ∀ h, a2[0]'h = v3 := hv3d
    obtain ⟨v4, hv4, h⟩ := bind_some h
    obtain ⟨hv4a, hv4b, hv4c, hv4d⟩ := idx_some hv4
    replace hv4b : 0 < a3.length := hv4b
    replace hv4c : a3[0]? = some v4 := hv4c
    replace hv4d : ∀ h, a3[0]'h = v4 := hv4d
    obtain ⟨v5, hv5, h⟩ := bind_some h
    refine VW.wds tau_ok (Sound.none.add 29 (i_field_num_ok hv5) rfl) try_mixed [some 21, some 22, some 23, some 24, some 25, some 26, some 27, some 28, some 29, some 30, some 8] [(8, .ref 8 [] true (dI [v5]))] 10 rfl (by kernel_rfl) (by rfl) ?_ ?_
    · simp [hv3a, hv3b, hv3c, hv3d, hv4a, hv4b, hv4c, hv4d] <;> simp [ieq, ilt, ile]
    cases h
    refine VW.ret ?_
    simp [Post, PostM, PostC, PostC2, Nx, Bk]
  replace hb2 : ¬ ((a1.length : Int) = 0) := by simpa [ieq, ilt, ile] using hb2
  rw [if_neg hb2] at h
  refine VW.skip ?_
  refine hK1 _ ?_
  refine VW.ws tau_ok Sound.none [some 31, some 32, some 33, some 34, some 35, some 36, some 9, some 10] [(0, .val (i64 a0)), (1, .val (dI a1)), (2, .val (dI a2)), (3, .val (dI a3)), (9, .val (i64 (w64 ((a1.length : Int) - 1)))), (10, .val (i64 (w64 ((a2.length : Int).tdiv 2))))] rfl ?_ ?_
  · simp <;> simp [ieq, ilt, ile]
  obtain ⟨hc6, h⟩ := chk_some h
  have hc6s := hc6
  try simp at hc6s
  obtain ⟨hc7, h⟩ := chk_some h
  have hc7s := hc7
  try simp at hc7s
  obtain ⟨hc8, h⟩ := chk_some h
  have hc8s := hc8
  try simp at hc8s
  obtain ⟨hc9, h⟩ := chk_some h
  have hc9s := hc9
  try simp at hc9s
  refine VW.wds tau_ok Sound.none try_mixed [some 37, some 38, some 39, some 40, some 41, some 42, some 43, some 44, some 45, some 46, some 47, some 48, some 11, some 12, some 13, some 14] [(0, .val (i64 a0)), (1, .val (dI a1)), (9, .val (i64 (w64 ((a1.length : Int) - 1)))), (11, .val (dI (a2.take (w64 ((a2.length : Int).tdiv 2)).toNat))), (12, .val (dI (a2.drop (w64 ((a2.length : Int).tdiv 2)).toNat))), (13, .val (dI (a3.take (w64 ((a2.length : Int).tdiv 2)).toNat))), (14, .val (dI (a3.drop (w64 ((a2.length : Int).tdiv 2)).toNat)))] 16 rfl (by kernel_rfl) (by rfl) ?_ ?_
  · simp [hc6, hc6s, hc7, hc7s, hc8, hc8s, hc9, hc9s] <;> simp [ieq, ilt, ile]
  obtain ⟨hc10, h⟩ := chk_some h
  have hc10s := hc10
  try simp at hc10s
  refine VW.ws tau_ok Sound.none [some 49, some 50, some 51, some 15] [(0, .val (i64 a0)), (1, .val (dI a1)), (9, .val (i64 (w64 ((a1.length : Int) - 1)))), (11, .val (dI (a2.take (w64 ((a2.length : Int).tdiv 2)).toNat))), (12, .val (dI (a2.drop (w64 ((a2.length : Int).tdiv 2)).toNat))), (13, .val (dI (a3.take (w64 ((a2.length : Int).tdiv 2)).toNat))), (14, .val (dI (a3.drop (w64 ((a2.length : Int).tdiv 2)).toNat))), (15, .val (dI (a1.take (w64 ((a1.length : Int) - 1)).toNat)))] rfl ?_ ?_
  · simp [hc10, hc10s] <;> simp [ieq, ilt, ile]
  obtain ⟨v11, hv11, h⟩ := bind_some h
  obtain ⟨v12, hv12, h⟩ := bind_some h
  obtain ⟨v13, hv13, h⟩ := bind_some h
  obtain ⟨v14, hv14, h⟩ := bind_some h
  obtain ⟨hv14a, hv14b, hv14c, hv14d⟩ := idx_some hv14
  obtain ⟨v15, hv15, h⟩ := bind_some h
  refine VW.wds tau_ok ((((Sound.none.add 57 (hself hv11) rfl).add 62 (i_field_conjugate_ok hv12) rfl).add 64 (hself hv13) rfl).add 69 (i_field_plus_ok hv15) rfl) try_mixed [some 52, some 53, some 54, some 55, some 56, some 57, some 58, some 59, some 60, some 61, some 62, some 63, some 64, some 65, some 66, some 67, some 68, some 69, some 16] [(0, .val (i64 a0)), (11, .val (dI (a2.take (w64 ((a2.length : Int).tdiv 2)).toNat))), (12, .val (dI (a2.drop (w64 ((a2.length : Int).tdiv 2)).toNat))), (13, .val (dI (a3.take (w64 ((a2.length : Int).tdiv 2)).toNat))), (14, .val (dI (a3.drop (w64 ((a2.length : Int).tdiv 2)).toNat))), (15, .val (dI (a1.take (w64 ((a1.length : Int) - 1)).toNat))), (16, .ref 16 [] true (dI v15))] 18 rfl (by kernel_rfl) (by rfl) ?_ ?_
  · simp [hv14a, hv14b, hv14c, hv14d] <;> simp [ieq, ilt, ile]
  obtain ⟨v16, hv16, h⟩ := bind_some h
  obtain ⟨v17, hv17, h⟩ := bind_some h
  obtain ⟨v18, hv18, h⟩ := bind_some h
  obtain ⟨v19, hv19, h⟩ := bind_some h
  refine VW.ws tau_ok ((((Sound.none.add 75 (hself hv16) rfl).add 81 (i_field_conjugate_ok hv17) rfl).add 82 (hself hv18) rfl).add 83 (i_field_plus_ok hv19) rfl) [some 70, some 71, some 72, some 73, some 74, some 75, some 76, some 77, some 78, some 79, some 80, some 81, some 82, some 83, some 17] [(16, .ref 16 [] true (dI v15)), (17, .ref 17 [] true (dI v19))] rfl ?_ ?_
  · simp <;> simp [ieq, ilt, ile]
  obtain ⟨hc20, h⟩ := chk_some h
  have hc20s := hc20
  try simp at hc20s
  refine VW.ws tau_ok Sound.none [some 84, some 85, some 86, some 8] [(8, .ref 8 [] true (dI (v15 ++ v19)))] rfl ?_ ?_
  · simp [hc20, hc20s] <;> simp [ieq, ilt, ile]
  cases h
  refine VW.ret ?_
  simp [Post, PostM, PostC, PostC2, Nx, Bk]
theorem i_field_doubled_ok : ∀ {n : Nat} {a0 : Int} {a1 : List Int} {a2 : List Int} {a3 : List Int} {r : List Int} (_ : i_field_doubled n a0 a1 a2 a3 = some r),
    VCall Try.prog 220 [i64 a0, dI a1, dI a2, dI a3] [.own true (dI r)]
  | 0, _, _, _, _, _, h => by cases h
  | n + 1, _, _, _, _, _, h => i_field_doubled_b_ok (fun h => i_field_doubled_ok (n := n) h) h

theorem i_Doubling_times_ok {a0_0 : Int} {a0_1 : List Int} {a1 : List Int} {a2 : List Int} {r : List Int} (h : i_Doubling_times a0_0 a0_1 a1 a2 = some r) :
    VCall Try.prog 168 [.agg [i64 a0_0, dI a0_1], dI a1, dI a2] [.own true (dI r)] := by
  unfold i_Doubling_times at h
  refine VCall.enter Try.call168 Try.func168 rfl 14 Try.ntmps168 (by simp) [.tmp 6] rfl ?_
  show VW _ _ _ (mk [(0, .val (.agg [i64 a0_0, dI a0_1])), (1, .val (dI a1)), (2, .val (dI a2))]) _
  refine VW.ws tau_ok Sound.none [some 3, some 6] [(1, .val (dI a1)), (2, .val (dI a2)), (3, .val (.ptr [i64 a0_0, dI a0_1]))] rfl ?_ ?_
  · simp <;> simp [ieq, ilt, ile]
  obtain ⟨v1, hv1, h⟩ := bind_some h
  obtain ⟨v2, hv2, h⟩ := bind_some h
  refine VW.wds tau_ok ((Sound.none.add 8 (i_Doubling_field_ok hv1) rfl).add 13 (i_field_doubled_ok (n := BIG) hv2) rfl) try_mixed [some 7, some 8, some 9, some 10, some 11, some 12, some 13, some 6] [(6, .ref 6 [] true (dI v2))] 7 rfl (by kernel_rfl) (by rfl) ?_ ?_
  · simp <;> simp [ieq, ilt, ile]
  cases h
  refine VW.ret ?_
  simp [Post, PostM, PostC, PostC2, Nx, Bk]

theorem i_Doubling_products_ok {a0_0 : Int} {a0_1 : List Int} {r : List (List Int)} (h : i_Doubling_products a0_0 a0_1 = some r) :
    VCall Try.prog 91 [.agg [i64 a0_0, dI a0_1]] [.own true (dM r)] := by
  unfold i_Doubling_products at h
  refine VCall.enter Try.call91 Try.func91 rfl 48 Try.ntmps91 (by simp) [.tmp 2] rfl ?_
  show VW _ _ _ (mk [(0, .val (.agg [i64 a0_0, dI a0_1]))]) _
  refine VW.ws tau_ok Sound.none [some 1, some 2] [(1, .val (.ptr [i64 a0_0, dI a0_1]))] rfl ?_ ?_
  · simp <;> simp [ieq, ilt, ile]
  refine VW.ws tau_ok Sound.none [some 9, some 3] [(1, .val (.ptr [i64 a0_0, dI a0_1])), (3, .ref 3 [] true (dM []))] rfl ?_ ?_
  · simp <;> simp [ieq, ilt, ile]
  refine VW.sqc fun K1 hK1 hCK1 => ?_
  obtain ⟨v2, hv2, h⟩ := bind_some h
  obtain ⟨v3, hv3, h⟩ := bind_some h
  refine VW.ws tau_ok ((Sound.none.add 11 (i_Doubling_size_ok hv2) rfl).add 12 (i_unit_ok hv3) rfl) [some 10, some 11, some 12, some 13, some 14] [(1, .val (.ptr [i64 a0_0, dI a0_1])), (3, .ref 3 [] true (dM [])), (12, .ref 12 [] true (dM v3)), (13, .val (i64 (v3.length : Int))), (14, .val (i64 0))] rfl ?_ ?_
  · simp <;> simp [ieq, ilt, ile]
  obtain ⟨x4, hx4, h⟩ := bind_some h
  refine VW.tlE [(3, .ref 3 [] true (dM x4))] (hCK1) ?_ ?_
  · clear hx4
    refine hK1 _ ?_
    refine VW.ws tau_ok Sound.none [some 47, some 2] [(2, .ref 2 [] true (dM x4))] rfl ?_ ?_
    · simp <;> simp [ieq, ilt, ile]
    cases h
    refine VW.ret ?_
    simp [Post, PostM, PostC, PostC2, Nx, Bk]
  refine VW.block ?_
  refine VW.loopF (i_Doubling_products_L0 a0_0 a0_1 v3) (fun s4 => [(1, .val (.ptr [i64 a0_0, dI a0_1])), (3, .ref 3 [] true (dM s4.1)), (12, .ref 12 [] true (dM v3)), (13, .val (i64 (v3.length : Int))), (14, .val (i64 s4.2))]) hx4 (Fits.of rfl) ?_
  clear hx4
  intro s4 ox4 hx4o hx4b
  unfold i_Doubling_products_L0 at hx4o
  refine VW.ws tau_ok Sound.none [some 15] [(1, .val (.ptr [i64 a0_0, dI a0_1])), (3, .ref 3 [] true (dM s4.1)), (12, .ref 12 [] true (dM v3)), (13, .val (i64 (v3.length : Int))), (14, .val (i64 s4.2)), (15, .val (.bool (ilt s4.2 (v3.length : Int))))] rfl ?_ ?_
  · simp <;> simp [ieq, ilt, ile]
  refine VW.sqc fun K6 hK6 hCK6 => ?_
  refine VW.cond rfl (fun hb7 => ?_) (fun hb7 => ?_)
  rotate_left
  ·
    replace hb7 : ¬ (s4.2 < (v3.length : Int)) := by simpa [ieq, ilt, ile] using hb7
    rw [if_neg hb7] at hx4o
    refine VW.exit ?_
    cases hx4o
    have hq := hx4b _ rfl
    subst hq
    exact Fits.of rfl
  replace hb7 : s4.2 < (v3.length : Int) := by simpa [ieq, ilt, ile] using hb7
  rw [if_pos hb7] at hx4o
  refine VW.skip ?_
  refine hK6 _ ?_
  refine VW.sqc fun K8 hK8 hCK8 => ?_
  refine VW.block ?_
  obtain ⟨v9, hv9, hx4o⟩ := bind_some hx4o
  obtain ⟨hv9a, hv9b, hv9c, hv9d⟩ := idx_some hv9
  refine VW.ws tau_ok Sound.none [some 16, some 17, some 18, some 4, some 5] [(1, .val (.ptr [i64 a0_0, dI a0_1])), (3, .ref 3 [] true (dM s4.1)), (4, .val (i64 s4.2)), (5, .ref 12 [s4.2.toNat] true (dI v9)), (12, .ref 12 [] true (dM v3)), (13, .val (i64 (v3.length : Int))), (14, .val (i64 s4.2))] rfl ?_ ?_
  · simp [hv9a, hv9b, hv9c, hv9d] <;> simp [ieq, ilt, ile]
  refine VW.ws tau_ok Sound.none [some 19, some 6] [(1, .val (.ptr [i64 a0_0, dI a0_1])), (3, .ref 3 [] true (dM s4.1)), (4, .val (i64 s4.2)), (5, .ref 12 [s4.2.toNat] true (dI v9)), (6, .ref 6 [] true (dI [])), (12, .ref 12 [] true (dM v3)), (13, .val (i64 (v3.length : Int))), (14, .val (i64 s4.2))] rfl ?_ ?_
  · simp <;> simp [ieq, ilt, ile]
  refine VW.sqc fun K10 hK10 hCK10 => ?_
  obtain ⟨v11, hv11, hx4o⟩ := bind_some hx4o
  obtain ⟨v12, hv12, hx4o⟩ := bind_some hx4o
  refine VW.ws tau_ok ((Sound.none.add 21 (i_Doubling_size_ok hv11) rfl).add 22 (i_unit_ok hv12) rfl) [some 20, some 21, some 22, some 23, some 24] [(1, .val (.ptr [i64 a0_0, dI a0_1])), (3, .ref 3 [] true (dM s4.1)), (4, .val (i64 s4.2)), (5, .ref 12 [s4.2.toNat] true (dI v9)), (6, .ref 6 [] true (dI [])), (12, .ref 12 [] true (dM v3)), (13, .val (i64 (v3.length : Int))), (14, .val (i64 s4.2)), (22, .ref 22 [] true (dM v12)), (23, .val (i64 (v12.length : Int))), (24, .val (i64 0))] rfl ?_ ?_
  · simp <;> simp [ieq, ilt, ile]
  obtain ⟨x13, hx13, hx4o⟩ := bind_some hx4o
  refine VW.tlE [(1, .val (.ptr [i64 a0_0, dI a0_1])), (3, .ref 3 [] true (dM s4.1)), (6, .ref 6 [] true (dI x13)), (12, .ref 12 [] true (dM v3)), (13, .val (i64 (v3.length : Int))), (14, .val (i64 s4.2))] (hCK10) ?_ ?_
  · clear hx13
    refine hK10 _ ?_
    obtain ⟨hc22, hx4o⟩ := chk_some hx4o
    have hc22s := hc22
    try simp at hc22s
    refine VW.wr tau_ok Sound.none [some 42, some 43, some 44, some 45, some 3] [(1, .val (.ptr [i64 a0_0, dI a0_1])), (3, .ref 3 [] true (dM (s4.1 ++ [x13]))), (12, .ref 12 [] true (dM v3)), (13, .val (i64 (v3.length : Int))), (14, .val (i64 s4.2))] rfl ?_ ?_
    · simp [hc22, hc22s] <;> simp [ieq, ilt, ile]
    refine hK8 _ ?_
    refine VW.wr tau_ok Sound.none [some 46, some 14] [(1, .val (.ptr [i64 a0_0, dI a0_1])), (3, .ref 3 [] true (dM (s4.1 ++ [x13]))), (12, .ref 12 [] true (dM v3)), (13, .val (i64 (v3.length : Int))), (14, .val (i64 (w64 (s4.2 + 1))))] rfl ?_ ?_
    · simp <;> simp [ieq, ilt, ile]
    cases hx4o
    exact ⟨_, rfl, Fits.of rfl⟩
  refine VW.block ?_
  refine VW.loopF (i_Doubling_products_L1 a0_0 a0_1 s4 v9 v12) (fun s13 => [(1, .val (.ptr [i64 a0_0, dI a0_1])), (3, .ref 3 [] true (dM s4.1)), (4, .val (i64 s4.2)), (5, .ref 12 [s4.2.toNat] true (dI v9)), (6, .ref 6 [] true (dI s13.1)), (12, .ref 12 [] true (dM v3)), (13, .val (i64 (v3.length : Int))), (14, .val (i64 s4.2)), (22, .ref 22 [] true (dM v12)), (23, .val (i64 (v12.length : Int))), (24, .val (i64 s13.2))]) hx13 (Fits.of rfl) ?_
  clear hx13
  intro s13 ox13 hx13o hx13b
  unfold i_Doubling_products_L1 at hx13o
  refine VW.ws tau_ok Sound.none [some 25] [(1, .val (.ptr [i64 a0_0, dI a0_1])), (3, .ref 3 [] true (dM s4.1)), (4, .val (i64 s4.2)), (5, .ref 12 [s4.2.toNat] true (dI v9)), (6, .ref 6 [] true (dI s13.1)), (12, .ref 12 [] true (dM v3)), (13, .val (i64 (v3.length : Int))), (14, .val (i64 s4.2)), (22, .ref 22 [] true (dM v12)), (23, .val (i64 (v12.length : Int))), (24, .val (i64 s13.2)), (25, .val (.bool (ilt s13.2 (v12.length : Int))))] rfl ?_ ?_
  · simp <;> simp [ieq, ilt, ile]
  refine VW.sqc fun K15 hK15 hCK15 => ?_
  refine VW.cond rfl (fun hb16 => ?_) (fun hb16 => ?_)
  rotate_left
  ·
    replace hb16 : ¬ (s13.2 < (v12.length : Int)) := by simpa [ieq, ilt, ile] using hb16
    rw [if_neg hb16] at hx13o
    refine VW.exit ?_
    cases hx13o
    have hq := hx13b _ rfl
    subst hq
    exact Fits.of rfl
  replace hb16 : s13.2 < (v12.length : Int) := by simpa [ieq, ilt, ile] using hb16
  rw [if_pos hb16] at hx13o
  refine VW.skip ?_
  refine hK15 _ ?_
  refine VW.sqc fun K17 hK17 hCK17 => ?_
  refine VW.block ?_
  obtain ⟨v18, hv18, hx13o⟩ := bind_some hx13o
  obtain ⟨hv18a, hv18b, hv18c, hv18d⟩ := idx_some hv18
  refine VW.ws tau_ok Sound.none [some 26, some 27, some 28, some 7, some 8] [(1, .val (.ptr [i64 a0_0, dI a0_1])), (3, .ref 3 [] true (dM s4.1)), (4, .val (i64 s4.2)), (5, .ref 12 [s4.2.toNat] true (dI v9)), (6, .ref 6 [] true (dI s13.1)), (7, .val (i64 s13.2)), (8, .ref 22 [s13.2.toNat] true (dI v18)), (12, .ref 12 [] true (dM v3)), (13, .val (i64 (v3.length : Int))), (14, .val (i64 s4.2)), (22, .ref 22 [] true (dM v12)), (23, .val (i64 (v12.length : Int))), (24, .val (i64 s13.2))] rfl ?_ ?_
  · simp [hv18a, hv18b, hv18c, hv18d] <;> simp [ieq, ilt, ile]
  obtain ⟨v19, hv19, hx13o⟩ := bind_some hx13o
  obtain ⟨v20, hv20, hx13o⟩ := bind_some hx13o
  obtain ⟨hv20a, hv20b, hv20c, hv20d⟩ := idx_some hv20
  obtain ⟨hc21, hx13o⟩ := chk_some hx13o
  have hc21s := hc21
  try simp at hc21s
  refine VW.wr tau_ok (Sound.none.add 33 (i_Doubling_times_ok hv19) rfl) [some 29, some 30, some 31, some 32, some 33, some 34, some 35, some 36, some 37, some 38, some 39, some 40, some 6] [(1, .val (.ptr [i64 a0_0, dI a0_1])), (3, .ref 3 [] true (dM s4.1)), (4, .val (i64 s4.2)), (5, .ref 12 [s4.2.toNat] true (dI v9)), (6, .ref 6 [] true (dI (s13.1 ++ [v20]))), (12, .ref 12 [] true (dM v3)), (13, .val (i64 (v3.length : Int))), (14, .val (i64 s4.2)), (22, .ref 22 [] true (dM v12)), (23, .val (i64 (v12.length : Int))), (24, .val (i64 s13.2))] rfl ?_ ?_
  · simp [hv20a, hv20b, hv20c, hv20d, hc21, hc21s] <;> simp [ieq, ilt, ile]
  refine hK17 _ ?_
  refine VW.wr tau_ok Sound.none [some 41, some 24] [(1, .val (.ptr [i64 a0_0, dI a0_1])), (3, .ref 3 [] true (dM s4.1)), (4, .val (i64 s4.2)), (5, .ref 12 [s4.2.toNat] true (dI v9)), (6, .ref 6 [] true (dI (s13.1 ++ [v20]))), (12, .ref 12 [] true (dM v3)), (13, .val (i64 (v3.length : Int))), (14, .val (i64 s4.2)), (22, .ref 22 [] true (dM v12)), (23, .val (i64 (v12.length : Int))), (24, .val (i64 (w64 (s13.2 + 1))))] rfl ?_ ?_
  · simp <;> simp [ieq, ilt, ile]
  cases hx13o
  exact ⟨_, rfl, Fits.of rfl⟩

theorem g_slices_Clone_LI_I_ok {a0 r : List Int} (h : g_slices_Clone_LI_I a0 = some r) :
    VCall Try.prog 149 [dI a0] [.own true (dI r)] := by
  unfold g_slices_Clone_LI_I at h
  obtain ⟨hc, h⟩ := chk_some h
  cases h
  refine VCall.enter Try.call149 Try.func149 rfl 8 Try.ntmps149 (by simp) [.tmp 2] rfl ?_
  show VW _ _ _ (mk [(0, .val (dI a0))]) _
  refine VW.ws tau_ok Sound.none [some 2] [(0, .val (dI a0))] rfl ?_ ?_
  · simp
  refine VW.sqc fun K hK hCK => ?_
  refine VW.nilcmp tau_ok (T := 23) (e := 2) rfl rfl rfl rfl rfl (by simp) rfl rfl rfl (by simp) fun b hb => ?_
  refine VW.cond rfl (fun h1 => ?_) (fun h1 => ?_)
  · have e := hb h1
    simp at e
    subst e
    refine VW.ws tau_ok Sound.none [some 2] [(2, .ref 2 [] true (.list []))] rfl ?_ ?_
    · simp
    refine VW.ret ?_
    simp [Post, Nx]
  · refine VW.skip ?_
    refine hK _ ?_
    refine VW.ws tau_ok Sound.none [some 5, some 6, some 7, some 2] [(2, .ref 2 [] true (dI a0))] rfl ?_ ?_
    · simp [hc]
    refine VW.ret ?_
    simp [Post, Nx]

theorem i_cloneRows_ok {a0 : List (List Int)} {r : List (List Int)} (h : i_cloneRows a0 = some r) :
    VCall Try.prog 185 [dM a0] [.own true (dM r)] := by
  unfold i_cloneRows at h
  refine VCall.enter Try.call185 Try.func185 rfl 20 Try.ntmps185 (by simp) [.tmp 2] rfl ?_
  show VW _ _ _ (mk [(0, .val (dM a0))]) _
  refine VW.ws tau_ok Sound.none [some 2] [(0, .val (dM a0))] rfl ?_ ?_
  · simp <;> simp [ieq, ilt, ile]
  refine VW.ws tau_ok Sound.none [some 6, some 3] [(0, .val (dM a0)), (3, .ref 3 [] true (dM []))] rfl ?_ ?_
  · simp <;> simp [ieq, ilt, ile]
  refine VW.sqc fun K1 hK1 hCK1 => ?_
  refine VW.ws tau_ok Sound.none [some 7, some 8, some 9] [(3, .ref 3 [] true (dM [])), (7, .val (dM a0)), (8, .val (i64 (a0.length : Int))), (9, .val (i64 0))] rfl ?_ ?_
  · simp <;> simp [ieq, ilt, ile]
  obtain ⟨x2, hx2, h⟩ := bind_some h
  refine VW.tlE [(3, .ref 3 [] true (dM x2))] (hCK1) ?_ ?_
  · clear hx2
    refine hK1 _ ?_
    refine VW.ws tau_ok Sound.none [some 19, some 2] [(2, .ref 2 [] true (dM x2))] rfl ?_ ?_
    · simp <;> simp [ieq, ilt, ile]
    cases h
    refine VW.ret ?_
    simp [Post, PostM, PostC, PostC2, Nx, Bk]
  refine VW.block ?_
  refine VW.loopF (i_cloneRows_L0 a0) (fun s2 => [(3, .ref 3 [] true (dM s2.1)), (7, .val (dM a0)), (8, .val (i64 (a0.length : Int))), (9, .val (i64 s2.2))]) hx2 (Fits.of rfl) ?_
  clear hx2
  intro s2 ox2 hx2o hx2b
  unfold i_cloneRows_L0 at hx2o
  refine VW.ws tau_ok Sound.none [some 10] [(3, .ref 3 [] true (dM s2.1)), (7, .val (dM a0)), (8, .val (i64 (a0.length : Int))), (9, .val (i64 s2.2)), (10, .val (.bool (ilt s2.2 (a0.length : Int))))] rfl ?_ ?_
  · simp <;> simp [ieq, ilt, ile]
  refine VW.sqc fun K4 hK4 hCK4 => ?_
  refine VW.cond rfl (fun hb5 => ?_) (fun hb5 => ?_)
  rotate_left
  ·
    replace hb5 : ¬ (s2.2 < (a0.length : Int)) := by simpa [ieq, ilt, ile] using hb5
    rw [if_neg hb5] at hx2o
    refine VW.exit ?_
    cases hx2o
    have hq := hx2b _ rfl
    subst hq
    exact Fits.of rfl
  replace hb5 : s2.2 < (a0.length : Int) := by simpa [ieq, ilt, ile] using hb5
  rw [if_pos hb5] at hx2o
  refine VW.skip ?_
  refine hK4 _ ?_
  refine VW.sqc fun K6 hK6 hCK6 => ?_
  refine VW.block ?_
  obtain ⟨v7, hv7, hx2o⟩ := bind_some hx2o
  obtain ⟨hv7a, hv7b, hv7c, hv7d⟩ := idx_some hv7
  refine VW.ws tau_ok Sound.none [some 11, some 12, some 5] [(3, .ref 3 [] true (dM s2.1)), (5, .val (dI v7)), (7, .val (dM a0)), (8, .val (i64 (a0.length : Int))), (9, .val (i64 s2.2))] rfl ?_ ?_
  · simp [hv7a, hv7b, hv7c, hv7d] <;> simp [ieq, ilt, ile]
  obtain ⟨v8, hv8, hx2o⟩ := bind_some hx2o
  obtain ⟨hc9, hx2o⟩ := chk_some hx2o
  have hc9s := hc9
  try simp at hc9s
  refine VW.wr tau_ok (Sound.none.add 15 (g_slices_Clone_LI_I_ok hv8) rfl) [some 13, some 14, some 15, some 16, some 17, some 3] [(3, .ref 3 [] true (dM (s2.1 ++ [v8]))), (7, .val (dM a0)), (8, .val (i64 (a0.length : Int))), (9, .val (i64 s2.2))] rfl ?_ ?_
  · simp [hc9, hc9s] <;> simp [ieq, ilt, ile]
  refine hK6 _ ?_
  refine VW.wr tau_ok Sound.none [some 18, some 9] [(3, .ref 3 [] true (dM (s2.1 ++ [v8]))), (7, .val (dM a0)), (8, .val (i64 (a0.length : Int))), (9, .val (i64 (w64 (s2.2 + 1))))] rfl ?_ ?_
  · simp <;> simp [ieq, ilt, ile]
  cases hx2o
  exact ⟨_, rfl, Fits.of rfl⟩

theorem i_field_pow_ok {a0 : Int} {a1 : Int} {a2 : Int} {r : Int} (h : i_field_pow a0 a1 a2 = some r) :
    VCall Try.prog 226 [i64 a0, i64 a1, i64 a2] [.sc (i64 r)] := by
  unfold i_field_pow at h
  refine VCall.enter Try.call226 Try.func226 rfl 18 Try.ntmps226 (by simp) [.tmp 6] rfl ?_
  show VW _ _ _ (mk [(0, .val (i64 a0)), (1, .val (i64 a1)), (2, .val (i64 a2))]) _
  refine VW.ws tau_ok Sound.none [some 6] [(0, .val (i64 a0)), (1, .val (i64 a1)), (2, .val (i64 a2))] rfl ?_ ?_
  · simp <;> simp [ieq, ilt, ile]
  refine VW.ws tau_ok Sound.none [some 7] [(0, .val (i64 a0)), (1, .val (i64 a1)), (2, .val (i64 a2)), (7, .val (i64 1))] rfl ?_ ?_
  · simp <;> simp [ieq, ilt, ile]
  refine VW.sqc fun K1 hK1 hCK1 => ?_
  refine VW.ws tau_ok Sound.none [some 8, some 9] [(0, .val (i64 a0)), (1, .val (i64 a1)), (7, .val (i64 1)), (8, .val (i64 a2)), (9, .val (i64 0))] rfl ?_ ?_
  · simp <;> simp [ieq, ilt, ile]
  obtain ⟨x2, hx2, h⟩ := bind_some h
  refine VW.tlE [(7, .val (i64 x2))] (hCK1) ?_ ?_
  · clear hx2
    refine hK1 _ ?_
    refine VW.ws tau_ok Sound.none [some 17, some 6] [(6, .val (i64 x2))] rfl ?_ ?_
    · simp <;> simp [ieq, ilt, ile]
    cases h
    refine VW.ret ?_
    simp [Post, PostM, PostC, PostC2, Nx, Bk]
  refine VW.block ?_
  refine VW.loopF (i_field_pow_L0 a0 a1 a2) (fun s2 => [(0, .val (i64 a0)), (1, .val (i64 a1)), (7, .val (i64 s2.1)), (8, .val (i64 a2)), (9, .val (i64 s2.2))]) hx2 (Fits.of rfl) ?_
  clear hx2
  intro s2 ox2 hx2o hx2b
  unfold i_field_pow_L0 at hx2o
  refine VW.ws tau_ok Sound.none [some 10] [(0, .val (i64 a0)), (1, .val (i64 a1)), (7, .val (i64 s2.1)), (8, .val (i64 a2)), (9, .val (i64 s2.2)), (10, .val (.bool (ilt s2.2 a2)))] rfl ?_ ?_
  · simp <;> simp [ieq, ilt, ile]
  refine VW.sqc fun K4 hK4 hCK4 => ?_
  refine VW.cond rfl (fun hb5 => ?_) (fun hb5 => ?_)
  rotate_left
  ·
    replace hb5 : ¬ (s2.2 < a2) := by simpa [ieq, ilt, ile] using hb5
    rw [if_neg hb5] at hx2o
    refine VW.exit ?_
    cases hx2o
    have hq := hx2b _ rfl
    subst hq
    exact Fits.of rfl
  replace hb5 : s2.2 < a2 := by simpa [ieq, ilt, ile] using hb5
  rw [if_pos hb5] at hx2o
  refine VW.skip ?_
  refine hK4 _ ?_
  refine VW.sqc fun K6 hK6 hCK6 => ?_
  refine VW.block ?_
  obtain ⟨v7, hv7, hx2o⟩ := bind_some hx2o
  refine VW.wr tau_ok (Sound.none.add 15 (i_field_num_ok hv7) rfl) [some 11, some 12, some 13, some 14, some 15, some 7] [(0, .val (i64 a0)), (1, .val (i64 a1)), (7, .val (i64 v7)), (8, .val (i64 a2)), (9, .val (i64 s2.2))] rfl ?_ ?_
  · simp <;> simp [ieq, ilt, ile]
  refine hK6 _ ?_
  refine VW.wr tau_ok Sound.none [some 16, some 9] [(0, .val (i64 a0)), (1, .val (i64 a1)), (7, .val (i64 v7)), (8, .val (i64 a2)), (9, .val (i64 (w64 (s2.2 + 1))))] rfl ?_ ?_
  · simp <;> simp [ieq, ilt, ile]
  cases hx2o
  exact ⟨_, rfl, Fits.of rfl⟩

theorem i_field_inv_ok {a0 : Int} {a1 : Int} {r : Int} (h : i_field_inv a0 a1 = some r) :
    VCall Try.prog 187 [i64 a0, i64 a1] [.sc (i64 r)] := by
  unfold i_field_inv at h
  refine VCall.enter Try.call187 Try.func187 rfl 10 Try.ntmps187 (by simp) [.tmp 4] rfl ?_
  show VW _ _ _ (mk [(0, .val (i64 a0)), (1, .val (i64 a1))]) _
  refine VW.ws tau_ok Sound.none [some 4] [(0, .val (i64 a0)), (1, .val (i64 a1))] rfl ?_ ?_
  · simp <;> simp [ieq, ilt, ile]
  obtain ⟨v1, hv1, h⟩ := bind_some h
  refine VW.ws tau_ok (Sound.none.add 9 (i_field_pow_ok hv1) rfl) [some 5, some 6, some 7, some 8, some 9, some 4] [(4, .val (i64 v1))] rfl ?_ ?_
  · simp <;> simp [ieq, ilt, ile]
  cases h
  refine VW.ret ?_
  simp [Post, PostM, PostC, PostC2, Nx, Bk]
end Go.Vam
