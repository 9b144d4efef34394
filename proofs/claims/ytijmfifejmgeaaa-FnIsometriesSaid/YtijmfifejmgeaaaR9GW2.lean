import Derived.Test.YtijmfifejmgeaaaR9T
import Derived.Test.YtijmfifejmgeaaaFmG0
import Derived.Test.YtijmfifejmgeaaaR9GW1
namespace Go.Vam
open Go Go.RowKit Go.Proofs
set_option maxRecDepth 100000
set_option linter.unusedSimpArgs false
set_option linter.unusedVariables false

theorem i_IsometryOf_ok {a0_0 : Int} {a0_1 : List Int} {a1_0 : Int} {a1_1 : List Int} {r : (List (List Int)) × Int} (h : i_IsometryOf a0_0 a0_1 a1_0 a1_1 = some r) :
  VCall Try.prog 65 [.agg [i64 a0_0,dI a0_1],.agg [i64 a1_0,dI a1_1]] [.own true (dM r.1),.sc (i64 r.2)] := by
 unfold i_IsometryOf at h
 refine VCall.enter Try.call65 Try.func65 rfl 48 Try.ntmps65 (by simp) [.tmp 4,.tmp 5] rfl ?_
 show VW _ _ _ (mk [(0,.val (.agg [i64 a0_0,dI a0_1])),(1,.val (.agg [i64 a1_0,dI a1_1]))]) _
 refine zs [(2,.val (.ptr [i64 a0_0,dI a0_1])),(3,.val (.ptr [i64 a1_0,dI a1_1]))] ?_ ?_
 ·simp
 refine VW.sqc fun K1 hK1 hCK1 => ?_
 obtain ⟨v2,B4,h⟩ := bind_some h
 refine VW.ws tau_ok (Sound.none.add 13 (i_checkSpaces_ok B4) rfl) _ [(2,.val (.ptr [i64 a0_0,dI a0_1])),(3,.val (.ptr [i64 a1_0,dI a1_1])),(6,.val (i64 v2))] rfl ?_ ?_
 ·simp
 refine zs [(2,.val (.ptr [i64 a0_0,dI a0_1])),(3,.val (.ptr [i64 a1_0,dI a1_1])),(6,.val (i64 v2)),(15,.val (.bool (!(ieq v2 0))))] ?_ ?_
 ·simp
 refine VW.cond rfl (fun Ar => ?_) (fun Ar => ?_)
 ·
  replace Ar : ¬ v2 = 0 := by simpa [ieq,ilt,ile] using Ar
  rw [if_pos Ar] at h
  refine zs [(4,.ref 4 [] true (.list [])),(5,.val (i64 v2))] ?_ ?_
  ·simp
  cases h
  refine VW.ret ?_
  simp [Post,PostM,PostC,PostC2,Nx,Bk]
 replace Ar : ¬ (¬ v2 = 0) := by simpa [ieq,ilt,ile] using Ar
 rw [if_neg Ar] at h
 refine VW.skip ?_
 refine hK1 _ ?_
 refine VW.sqc fun K4 hK4 hCK4 => ?_
 refine VW.block ?_
 obtain ⟨x8,C2,h⟩ := bind_some h
 refine VW.cut [(2,.val (.ptr [i64 a0_0,dI a0_1])),(3,.val (.ptr [i64 a1_0,dI a1_1])),(17,.val (.bool x8))] ?_ fun hy => ?_
 rotate_left
 ·clear h
  obtain ⟨v5,C3,C2⟩ := bind_some C2
  by_cases Fy : v5 = false
  ·rw [if_pos Fy] at C2
   have B8 : v5 = false := by simpa [ieq,ilt,ile] using Fy
   have B9 := B8
   try simp at B9
   cases C2
   refine VW.ws tau_ok (Sound.none.add 19 (i_Space_regular_ok C3) rfl) _ _ rfl ?_ hy
   simp [B8,B9]
  ·rw [if_neg Fy] at C2
   have B8 : v5 = true := by simpa [ieq,ilt,ile] using Fy
   have B9 := B8
   try simp at B9
   obtain ⟨v7,B5,C2⟩ := bind_some C2
   cases C2
   refine VW.ws tau_ok ((Sound.none.add 19 (i_Space_regular_ok C3) rfl).add 23 (i_Space_regular_ok B5) rfl) _ _ rfl ?_ hy
   simp [B8,B9]
 refine VW.cond rfl (fun As => ?_) (fun As => ?_)
 ·
  replace As : x8 = true := by simpa [ieq,ilt,ile] using As
  rw [if_pos As] at h
  refine zs [(4,.ref 4 [] true (.list [])),(5,.val (i64 5))] ?_ ?_
  ·simp
  cases h
  refine VW.ret ?_
  simp [Post,PostM,PostC,PostC2,Nx,Bk]
 replace As : ¬ (x8 = true) := by simpa [ieq,ilt,ile] using As
 rw [if_neg As] at h
 obtain ⟨v10,Ao,h⟩ := bind_some h
 refine VW.ws tau_ok (Sound.none.add 29 (i_isometric_ok Ao) rfl) _ [(2,.val (.ptr [i64 a0_0,dI a0_1])),(3,.val (.ptr [i64 a1_0,dI a1_1])),(26,.val (.bool (!v10)))] rfl ?_ ?_
 ·simp
 refine VW.cond rfl (fun Bc => ?_) (fun Bc => ?_)
 ·
  replace Bc : v10 = false := by simpa [ieq,ilt,ile] using Bc
  rw [if_pos Bc] at h
  refine zs [(4,.ref 4 [] true (.list [])),(5,.val (i64 4))] ?_ ?_
  ·simp
  cases h
  refine VW.ret ?_
  simp [Post,PostM,PostC,PostC2,Nx,Bk]
 replace Bc : ¬ (v10 = false) := by simpa [ieq,ilt,ile] using Bc
 rw [if_neg Bc] at h
 obtain ⟨v12,Dr,h⟩ := bind_some h
 refine VW.ws tau_ok (Sound.none.add 33 (i_Space_hasMany_ok Dr) rfl) _ [(2,.val (.ptr [i64 a0_0,dI a0_1])),(3,.val (.ptr [i64 a1_0,dI a1_1])),(31,.val (.bool v12))] rfl ?_ ?_
 ·simp
 refine VW.cond rfl (fun Ag => ?_) (fun Ag => ?_)
 ·
  replace Ag : v12 = true := by simpa [ieq,ilt,ile] using Ag
  rw [if_pos Ag] at h
  refine zs [(4,.ref 4 [] true (.list [])),(5,.val (i64 3))] ?_ ?_
  ·simp
  cases h
  refine VW.ret ?_
  simp [Post,PostM,PostC,PostC2,Nx,Bk]
 replace Ag : ¬ (v12 = true) := by simpa [ieq,ilt,ile] using Ag
 rw [if_neg Ag] at h
 refine VW.skip ?_
 refine hK4 _ ?_
 refine zs [(2,.val (.ptr [i64 a0_0,dI a0_1])),(3,.val (.ptr [i64 a1_0,dI a1_1])),(7,.ref 7 [] true (.ptr [dM []]))] ?_ ?_
 ·simp
 refine VW.sqc fun K14 hK14 hCK14 => ?_
 refine zs [(3,.val (.ptr [i64 a1_0,dI a1_1])),(7,.ref 7 [] true (.ptr [dM []])),(36,.val (dI a0_1)),(37,.val (i64 (a0_1.length : Int))),(38,.val (i64 0))] ?_ ?_
 ·simp
 obtain ⟨x15,Ds,h⟩ := bind_some h
 refine VW.tlE [(7,.ref 7 [] true (.ptr [dM x15]))] (hCK14) ?_ ?_
 ·clear Ds
  refine hK14 _ ?_
  obtain ⟨v22,Dt,h⟩ := bind_some h
  refine VW.ws tau_ok (Sound.none.add 47 (i_transpose_ok Dt) rfl) _ [(4,.ref 4 [] true (dM v22)),(5,.val (i64 0))] rfl ?_ ?_
  ·simp
  cases h
  refine VW.ret ?_
  simp [Post,PostM,PostC,PostC2,Nx,Bk]
 refine VW.block ?_
 refine VW.loopF (i_IsometryOf_L0 a0_1 a1_0 a1_1) (fun s15 => [(3,.val (.ptr [i64 a1_0,dI a1_1])),(7,.ref 7 [] true (.ptr [dM s15.1])),(36,.val (dI a0_1)),(37,.val (i64 (a0_1.length : Int))),(38,.val (i64 s15.2))]) Ds (Fits.of rfl) ?_
 clear Ds
 intro s15 ox15 Am D9
 unfold i_IsometryOf_L0 at Am
 refine zs [(3,.val (.ptr [i64 a1_0,dI a1_1])),(7,.ref 7 [] true (.ptr [dM s15.1])),(36,.val (dI a0_1)),(37,.val (i64 (a0_1.length : Int))),(38,.val (i64 s15.2)),(39,.val (.bool (ilt s15.2 (a0_1.length : Int))))] ?_ ?_
 ·simp
 refine VW.sqc fun K17 hK17 hCK17 => ?_
 refine VW.cond rfl (fun Ah => ?_) (fun Ah => ?_)
 rotate_left
 ·
  replace Ah : ¬ (s15.2 < (a0_1.length : Int)) := by simpa [ieq,ilt,ile] using Ah
  rw [if_neg Ah] at Am
  refine VW.exit ?_
  cases Am
  have hq := D9 _ rfl
  subst hq
  exact Fits.of rfl
 replace Ah : s15.2 < (a0_1.length : Int) := by simpa [ieq,ilt,ile] using Ah
 rw [if_pos Ah] at Am
 refine VW.skip ?_
 refine hK17 _ ?_
 refine VW.sqc fun K19 hK19 hCK19 => ?_
 refine VW.block ?_
 obtain ⟨v20,F0,Am⟩ := bind_some Am
 obtain ⟨Ea,Eb,Ec,Ed⟩ := idx_some F0
 refine zs [(3,.val (.ptr [i64 a1_0,dI a1_1])),(7,.ref 7 [] true (.ptr [dM s15.1])),(9,.ref 9 [] true (.ptr [i64 v20])),(36,.val (dI a0_1)),(37,.val (i64 (a0_1.length : Int))),(38,.val (i64 s15.2))] ?_ ?_
 ·simp [Ea,Eb,Ec,Ed]
 obtain ⟨v21,F1,Am⟩ := bind_some Am
 refine VW.mid2r tau_ok Sound.none [some 42,some 43,some 44] 1 0 [(3,.val (.ptr [i64 a1_0,dI a1_1])),(7,.ref 7 [] true (.ptr [dM s15.1])),(9,.ref 9 [] true (.ptr [i64 v20])),(36,.val (dI a0_1)),(37,.val (i64 (a0_1.length : Int))),(38,.val (i64 s15.2)),(42,.val (.agg [i64 a1_0,dI a1_1]))] _ [(3,.val (.ptr [i64 a1_0,dI a1_1])),(7,.ref 7 [] true (.ptr [dM s15.1])),(9,.ref 9 [] true (.ptr [i64 v20])),(36,.val (dI a0_1)),(37,.val (i64 (a0_1.length : Int))),(38,.val (i64 s15.2)),(42,.val (.agg [i64 a1_0,dI a1_1])),(43,.clo 145 [.dat (.ptr [i64 a1_0,dI a1_1]),.tok 9,.tok 7])] _ [(3,.val (.ptr [i64 a1_0,dI a1_1])),(7,.ref 7 [] true (.ptr [dM v21.2.2])),(9,.ref 9 [] true (.ptr [i64 v21.2.1])),(36,.val (dI a0_1)),(37,.val (i64 (a0_1.length : Int))),(38,.val (i64 s15.2))] _ _ rfl rfl rfl rfl rfl ?_ (step_mkf rfl rfl (by simp) rfl) ?_ (step_hof [(9,9,1,false,[i64 v21.2.1]),(7,7,2,false,[dM v21.2.2])] [43] rfl rfl rfl (by simp) rfl rfl (i_Space_vectors_of_i_IsometryOf_c1_ok F1) (.cons (CapOkS.dat') (.cons (CapOkS.tok' 9 false rfl) (.cons (CapOkS.tok' 7 false rfl) (.nil)))) rfl (show List.Nodup ([9,7] : List Nat) by decide) (show ∀ t ∈ ([] : List Nat),t ∉ ([9,7] : List Nat) by decide) (by intro q hq; simp only [List.mem_cons,List.not_mem_nil,or_false] at hq; rcases hq with rfl | rfl <;> exact ⟨rfl,rfl,_,rfl⟩) (by intro s hs; simp only [List.mem_cons,List.not_mem_nil,or_false] at hs; rcases hs with rfl <;> rfl)) ?_ ?_
 ·simp
 ·simp
 ·simp
 refine hK19 _ ?_
 refine zr [(3,.val (.ptr [i64 a1_0,dI a1_1])),(7,.ref 7 [] true (.ptr [dM v21.2.2])),(9,.ref 9 [] true (.ptr [i64 v21.2.1])),(36,.val (dI a0_1)),(37,.val (i64 (a0_1.length : Int))),(38,.val (i64 (w64 (s15.2 + 1))))] ?_ ?_
 ·simp
 cases Am
 exact ⟨_,rfl,Fits.of rfl⟩

theorem s_l01Prime_ok {a0 : Int} {r : Bool} (h : s_l01Prime a0 = some r) :
  VCall Try.prog 169 [i64 a0] [.sc (.bool r)] := by
 unfold s_l01Prime at h
 refine VCall.enter Try.call169 Try.func169 rfl 21 Try.ntmps169 (by simp) [.tmp 2] rfl ?_
 show VW _ _ _ (mk [(0,.val (i64 a0))]) _
 refine zs [(0,.val (i64 a0))] ?_ ?_
 ·simp
 obtain ⟨x5,Ai,h⟩ := bind_some h
 refine VW.cut [(2,.val (.bool x5))] ?_ fun hy => ?_
 rotate_left
 ·clear h
  by_cases Bz : a0 = 3
  ·rw [if_pos Bz] at Ai
   have M : ieq a0 3 = true := by simpa [ieq,ilt,ile] using Bz
   have N := M
   try simp at N
   cases Ai
   refine VW.ws tau_ok Sound.none _ _ rfl ?_ hy
   simp [M,N]
  ·rw [if_neg Bz] at Ai
   have M : ieq a0 3 = false := by simpa [ieq,ilt,ile] using Bz
   have N := M
   try simp at N
   by_cases B0 : a0 = 5
   ·rw [if_pos B0] at Ai
    have O : ieq a0 5 = true := by simpa [ieq,ilt,ile] using B0
    have P := O
    try simp at P
    cases Ai
    refine VW.ws tau_ok Sound.none _ _ rfl ?_ hy
    simp [M,N,O,P]
   ·rw [if_neg B0] at Ai
    have O : ieq a0 5 = false := by simpa [ieq,ilt,ile] using B0
    have P := O
    try simp at P
    by_cases B1 : a0 = 7
    ·rw [if_pos B1] at Ai
     have X : ieq a0 7 = true := by simpa [ieq,ilt,ile] using B1
     have Y := X
     try simp at Y
     cases Ai
     refine VW.ws tau_ok Sound.none _ _ rfl ?_ hy
     simp [M,N,O,P,X,Y]
    ·rw [if_neg B1] at Ai
     have X : ieq a0 7 = false := by simpa [ieq,ilt,ile] using B1
     have Y := X
     try simp at Y
     by_cases Cw : a0 = 11
     ·rw [if_pos Cw] at Ai
      have At : ieq a0 11 = true := by simpa [ieq,ilt,ile] using Cw
      have Au := At
      try simp at Au
      cases Ai
      refine VW.ws tau_ok Sound.none _ _ rfl ?_ hy
      simp [M,N,O,P,X,Y,At,Au]
     ·rw [if_neg Cw] at Ai
      have At : ieq a0 11 = false := by simpa [ieq,ilt,ile] using Cw
      have Au := At
      try simp at Au
      cases Ai
      refine VW.ws tau_ok Sound.none _ _ rfl ?_ hy
      simp [M,N,O,P,X,Y,At,Au]
 cases h
 refine VW.ret ?_
 simp [Post,PostM,PostC,PostC2,Nx,Bk]

theorem s_l01In_ok {a0 : Int} {a1 : Int} {a2 : Int} {r : Bool} (h : s_l01In a0 a1 a2 = some r) :
  VCall Try.prog 76 [i64 a0,i64 a1,i64 a2] [.sc (.bool r)] := by
 unfold s_l01In at h
 refine VCall.enter Try.call76 Try.func76 rfl 15 Try.ntmps76 (by simp) [.tmp 6] rfl ?_
 show VW _ _ _ (mk [(0,.val (i64 a0)),(1,.val (i64 a1)),(2,.val (i64 a2))]) _
 refine zs [(0,.val (i64 a0)),(1,.val (i64 a1)),(2,.val (i64 a2))] ?_ ?_
 ·simp
 obtain ⟨x2,L,h⟩ := bind_some h
 refine VW.cut [(6,.val (.bool x2))] ?_ fun hy => ?_
 rotate_left
 ·clear h
  by_cases Bz : a1 ≤ a0
  ·rw [if_pos Bz] at L
   have M : ile a1 a0 = true := by simpa [ieq,ilt,ile] using Bz
   have N := M
   try simp at N
   cases L
   refine VW.ws tau_ok Sound.none _ _ rfl ?_ hy
   simp [M,N]
  ·rw [if_neg Bz] at L
   have M : ile a1 a0 = false := by simpa [ieq,ilt,ile] using Bz
   have N := M
   try simp at N
   cases L
   refine VW.ws tau_ok Sound.none _ _ rfl ?_ hy
   simp [M,N]
 cases h
 refine VW.ret ?_
 simp [Post,PostM,PostC,PostC2,Nx,Bk]

theorem s_l01Numbers_ok {a0 : Int} {a1 : List Int} {r : Bool} (h : s_l01Numbers a0 a1 = some r) :
  VCall Try.prog 201 [i64 a0,dI a1] [.sc (.bool r)] := by
 unfold s_l01Numbers at h
 refine VCall.enter Try.call201 Try.func201 rfl 20 Try.ntmps201 (by simp) [.tmp 4] rfl ?_
 show VW _ _ _ (mk [(0,.val (i64 a0)),(1,.val (dI a1))]) _
 refine zs [(0,.val (i64 a0)),(1,.val (dI a1))] ?_ ?_
 ·simp
 refine VW.sqc fun K1 hK1 hCK1 => ?_
 refine zs [(0,.val (i64 a0)),(1,.val (dI a1)),(5,.val (i64 0))] ?_ ?_
 ·simp
 obtain ⟨x2,L,h⟩ := bind_some h
 refine VW.tlO (fun y4 => []) x2 (hCK1) ?_ ?_
 ·clear L
  rintro y4 rfl
  dsimp only at h
  refine hK1 _ ?_
  refine zs [(4,.val (.bool true))] ?_ ?_
  ·simp
  cases h
  refine VW.ret ?_
  simp [Post,PostM,PostC,PostC2,Nx,Bk]
 refine VW.block ?_
 refine VW.loopF (s_l01Numbers_L0 a0 a1) (fun s2 => [(0,.val (i64 a0)),(1,.val (dI a1)),(5,.val (i64 s2))]) L (Fits.of rfl) ?_
 clear L
 intro s2 ox2 A K
 unfold s_l01Numbers_L0 at A
 refine VW.sqc fun K5 hK5 hCK5 => ?_
 refine zs [(0,.val (i64 a0)),(1,.val (dI a1)),(5,.val (i64 s2)),(9,.val (.bool (ilt s2 (a1.length : Int))))] ?_ ?_
 ·simp
 refine VW.cond rfl (fun G => ?_) (fun G => ?_)
 rotate_left
 ·
  replace G : ¬ (s2 < (a1.length : Int)) := by simpa [ieq,ilt,ile] using G
  rw [if_neg G] at A
  refine VW.exit ?_
  cases A
  have hq := K _ rfl
  subst hq
  exact ⟨_,rfl,Fits.of rfl⟩
 replace G : s2 < (a1.length : Int) := by simpa [ieq,ilt,ile] using G
 rw [if_pos G] at A
 refine VW.skip ?_
 refine hK5 _ ?_
 refine VW.sqc fun K7 hK7 hCK7 => ?_
 refine VW.block ?_
 obtain ⟨v8,B7,A⟩ := bind_some A
 obtain ⟨Bd,Be,Bf,Bg⟩ := idx_some B7
 obtain ⟨v9,F2,A⟩ := bind_some A
 refine VW.ws tau_ok (Sound.none.add 18 (s_l01In_ok F2) rfl) _ [(0,.val (i64 a0)),(1,.val (dI a1)),(5,.val (i64 s2)),(19,.val (.bool (!v9)))] rfl ?_ ?_
 ·simp [Bd,Be,Bf,Bg]
 refine VW.cond rfl (fun Bh => ?_) (fun Bh => ?_)
 rotate_left
 ·
  replace Bh : ¬ (v9 = false) := by simpa [ieq,ilt,ile] using Bh
  rw [if_neg Bh] at A
  refine VW.skip ?_
  refine hK7 _ ?_
  refine zr [(0,.val (i64 a0)),(1,.val (dI a1)),(5,.val (i64 (w64 (s2 + 1))))] ?_ ?_
  ·simp
  cases A
  exact ⟨_,rfl,Fits.of rfl⟩
 replace Bh : v9 = false := by simpa [ieq,ilt,ile] using Bh
 rw [if_pos Bh] at A
 refine zs [(4,.val (.bool false))] ?_ ?_
 ·simp
 cases A
 have hq := K _ rfl
 subst hq
 dsimp only at h
 cases h
 refine VW.ret ?_
 simp [Post,PostM,PostC,PostC2,Nx,Bk]

theorem s_l03Is_ok {a0_0 : Int} {a0_1 : List Int} {r : Bool} (h : s_l03Is a0_0 a0_1 = some r) :
  VCall Try.prog 128 [.agg [i64 a0_0,dI a0_1]] [.sc (.bool r)] := by
 unfold s_l03Is at h
 refine VCall.enter Try.call128 Try.func128 rfl 19 Try.ntmps128 (by simp) [.tmp 2] rfl ?_
 show VW _ _ _ (mk [(0,.val (.agg [i64 a0_0,dI a0_1]))]) _
 refine zs [(1,.val (.ptr [i64 a0_0,dI a0_1]))] ?_ ?_
 ·simp
 obtain ⟨x6,A1,h⟩ := bind_some h
 refine VW.cut [(2,.val (.bool x6))] ?_ fun hy => ?_
 rotate_left
 ·clear h
  obtain ⟨v1,Du,A1⟩ := bind_some A1
  by_cases B0 : v1 = true
  ·rw [if_pos B0] at A1
   have O : v1 = true := by simpa [ieq,ilt,ile] using B0
   have P := O
   try simp at P
   obtain ⟨v3,Gr,A1⟩ := bind_some A1
   by_cases Cw : v3 = true
   ·rw [if_pos Cw] at A1
    have At : v3 = true := by simpa [ieq,ilt,ile] using Cw
    have Au := At
    try simp at Au
    obtain ⟨v5,C3,A1⟩ := bind_some A1
    cases A1
    refine VW.ws tau_ok (((Sound.none.add 5 (s_l01Prime_ok Du) rfl).add 10 (s_l01In_ok Gr) rfl).add 17 (s_l01Numbers_ok C3) rfl) _ _ rfl ?_ hy
    simp [O,P,At,Au]
   ·rw [if_neg Cw] at A1
    have At : v3 = false := by simpa [ieq,ilt,ile] using Cw
    have Au := At
    try simp at Au
    cases A1
    refine VW.ws tau_ok ((Sound.none.add 5 (s_l01Prime_ok Du) rfl).add 10 (s_l01In_ok Gr) rfl) _ _ rfl ?_ hy
    simp [O,P,At,Au]
  ·rw [if_neg B0] at A1
   have O : v1 = false := by simpa [ieq,ilt,ile] using B0
   have P := O
   try simp at P
   cases A1
   refine VW.ws tau_ok (Sound.none.add 5 (s_l01Prime_ok Du) rfl) _ _ rfl ?_ hy
   simp [O,P]
 cases h
 refine VW.ret ?_
 simp [Post,PostM,PostC,PostC2,Nx,Bk]

theorem s_l03Disc_ok {a0_0 : Int} {a0_1 : List Int} {r : Int} (h : s_l03Disc a0_0 a0_1 = some r) :
  VCall Try.prog 129 [.agg [i64 a0_0,dI a0_1]] [.sc (i64 r)] := by
 unfold s_l03Disc at h
 refine VCall.enter Try.call129 Try.func129 rfl 23 Try.ntmps129 (by simp) [.tmp 2] rfl ?_
 show VW _ _ _ (mk [(0,.val (.agg [i64 a0_0,dI a0_1]))]) _
 refine zs [(1,.val (.ptr [i64 a0_0,dI a0_1]))] ?_ ?_
 ·simp
 refine zs [(1,.val (.ptr [i64 a0_0,dI a0_1])),(3,.val (i64 1))] ?_ ?_
 ·simp
 refine VW.sqc fun K1 hK1 hCK1 => ?_
 refine zs [(1,.val (.ptr [i64 a0_0,dI a0_1])),(3,.val (i64 1)),(4,.val (i64 0))] ?_ ?_
 ·simp
 obtain ⟨x2,L,h⟩ := bind_some h
 refine VW.tlE [(3,.val (i64 x2))] (hCK1) ?_ ?_
 ·clear L
  refine hK1 _ ?_
  refine zs [(2,.val (i64 x2))] ?_ ?_
  ·simp
  cases h
  refine VW.ret ?_
  simp [Post,PostM,PostC,PostC2,Nx,Bk]
 refine VW.block ?_
 refine VW.loopF (s_l03Disc_L0 a0_0 a0_1) (fun s2 => [(1,.val (.ptr [i64 a0_0,dI a0_1])),(3,.val (i64 s2.1)),(4,.val (i64 s2.2))]) L (Fits.of rfl) ?_
 clear L
 intro s2 ox2 A K
 unfold s_l03Disc_L0 at A
 refine VW.sqc fun K4 hK4 hCK4 => ?_
 refine zs [(1,.val (.ptr [i64 a0_0,dI a0_1])),(3,.val (i64 s2.1)),(4,.val (i64 s2.2)),(9,.val (.bool (ilt s2.2 (a0_1.length : Int))))] ?_ ?_
 ·simp
 refine VW.cond rfl (fun H => ?_) (fun H => ?_)
 rotate_left
 ·
  replace H : ¬ (s2.2 < (a0_1.length : Int)) := by simpa [ieq,ilt,ile] using H
  rw [if_neg H] at A
  refine VW.exit ?_
  cases A
  have hq := K _ rfl
  subst hq
  exact Fits.of rfl
 replace H : s2.2 < (a0_1.length : Int) := by simpa [ieq,ilt,ile] using H
 rw [if_pos H] at A
 refine VW.skip ?_
 refine hK4 _ ?_
 refine VW.sqc fun K6 hK6 hCK6 => ?_
 refine VW.block ?_
 obtain ⟨v7,B5,A⟩ := bind_some A
 obtain ⟨Bi,Bj,Bl,Bm⟩ := idx_some B5
 obtain ⟨C4,A⟩ := chk_some A
 have A2 := C4
 try simp at A2
 refine VW.wdr tau_ok Sound.none try_mixed _ [(1,.val (.ptr [i64 a0_0,dI a0_1])),(3,.val (i64 ((w64 (s2.1 * v7)).tmod a0_0))),(4,.val (i64 s2.2))] 11 rfl (by kernel_rfl) (by rfl) ?_ ?_
 ·simp [Bi,Bj,Bl,Bm,C4,A2]
 refine hK6 _ ?_
 refine zr [(1,.val (.ptr [i64 a0_0,dI a0_1])),(3,.val (i64 ((w64 (s2.1 * v7)).tmod a0_0))),(4,.val (i64 (w64 (s2.2 + 1))))] ?_ ?_
 ·simp
 cases A
 exact ⟨_,rfl,Fits.of rfl⟩

theorem s_l01Root_ok {a0 : Int} {a1 : Int} {r : Int} (h : s_l01Root a0 a1 = some r) :
  VCall Try.prog 215 [i64 a0,i64 a1] [.sc (i64 r)] := by
 unfold s_l01Root at h
 refine VCall.enter Try.call215 Try.func215 rfl 19 Try.ntmps215 (by simp) [.tmp 4] rfl ?_
 show VW _ _ _ (mk [(0,.val (i64 a0)),(1,.val (i64 a1))]) _
 refine zs [(0,.val (i64 a0)),(1,.val (i64 a1))] ?_ ?_
 ·simp
 refine VW.sqc fun K1 hK1 hCK1 => ?_
 refine zs [(0,.val (i64 a0)),(1,.val (i64 a1)),(5,.val (i64 0))] ?_ ?_
 ·simp
 obtain ⟨x2,L,h⟩ := bind_some h
 refine VW.tlO (fun y4 => []) x2 (hCK1) ?_ ?_
 ·clear L
  rintro y4 rfl
  dsimp only at h
  refine hK1 _ ?_
  refine zs [(4,.val (i64 (-1)))] ?_ ?_
  ·simp
  cases h
  refine VW.ret ?_
  simp [Post,PostM,PostC,PostC2,Nx,Bk]
 refine VW.block ?_
 refine VW.loopF (s_l01Root_L0 a0 a1) (fun s2 => [(0,.val (i64 a0)),(1,.val (i64 a1)),(5,.val (i64 s2))]) L (Fits.of rfl) ?_
 clear L
 intro s2 ox2 A K
 unfold s_l01Root_L0 at A
 refine VW.sqc fun K5 hK5 hCK5 => ?_
 refine zs [(0,.val (i64 a0)),(1,.val (i64 a1)),(5,.val (i64 s2)),(8,.val (.bool (ilt s2 a0)))] ?_ ?_
 ·simp
 refine VW.cond rfl (fun G => ?_) (fun G => ?_)
 rotate_left
 ·
  replace G : ¬ (s2 < a0) := by simpa [ieq,ilt,ile] using G
  rw [if_neg G] at A
  refine VW.exit ?_
  cases A
  have hq := K _ rfl
  subst hq
  exact ⟨_,rfl,Fits.of rfl⟩
 replace G : s2 < a0 := by simpa [ieq,ilt,ile] using G
 rw [if_pos G] at A
 refine VW.skip ?_
 refine hK5 _ ?_
 refine VW.sqc fun K7 hK7 hCK7 => ?_
 refine VW.block ?_
 obtain ⟨C4,A⟩ := chk_some A
 have A2 := C4
 try simp at A2
 refine zs [(0,.val (i64 a0)),(1,.val (i64 a1)),(5,.val (i64 s2)),(17,.val (.bool (ieq ((w64 (s2 * s2)).tmod a0) a1)))] ?_ ?_
 ·simp [C4,A2]
 refine VW.cond rfl (fun As => ?_) (fun As => ?_)
 rotate_left
 ·
  replace As : ¬ (((w64 (s2 * s2)).tmod a0) = a1) := by simpa [ieq,ilt,ile] using As
  rw [if_neg As] at A
  refine VW.skip ?_
  refine hK7 _ ?_
  refine zr [(0,.val (i64 a0)),(1,.val (i64 a1)),(5,.val (i64 (w64 (s2 + 1))))] ?_ ?_
  ·simp
  cases A
  exact ⟨_,rfl,Fits.of rfl⟩
 replace As : ((w64 (s2 * s2)).tmod a0) = a1 := by simpa [ieq,ilt,ile] using As
 rw [if_pos As] at A
 refine zs [(4,.val (i64 s2))] ?_ ?_
 ·simp
 cases A
 have hq := K _ rfl
 subst hq
 dsimp only at h
 cases h
 refine VW.ret ?_
 simp [Post,PostM,PostC,PostC2,Nx,Bk]

theorem s_l03Isometric_ok {a0_0 : Int} {a0_1 : List Int} {a1_0 : Int} {a1_1 : List Int} {r : Bool} (h : s_l03Isometric a0_0 a0_1 a1_0 a1_1 = some r) :
  VCall Try.prog 150 [.agg [i64 a0_0,dI a0_1],.agg [i64 a1_0,dI a1_1]] [.sc (.bool r)] := by
 unfold s_l03Isometric at h
 refine VCall.enter Try.call150 Try.func150 rfl 76 Try.ntmps150 (by simp) [.tmp 4] rfl ?_
 show VW _ _ _ (mk [(0,.val (.agg [i64 a0_0,dI a0_1])),(1,.val (.agg [i64 a1_0,dI a1_1]))]) _
 refine zs [(2,.val (.ptr [i64 a0_0,dI a0_1])),(3,.val (.ptr [i64 a1_0,dI a1_1]))] ?_ ?_
 ·simp
 refine VW.sqc fun K1 hK1 hCK1 => ?_
 obtain ⟨x3,Bn,h⟩ := bind_some h
 refine VW.cut [(2,.val (.ptr [i64 a0_0,dI a0_1])),(3,.val (.ptr [i64 a1_0,dI a1_1])),(22,.val (.bool x3))] ?_ fun hy => ?_
 rotate_left
 ·clear h
  by_cases B0 : ¬ a0_0 = a1_0
  ·rw [if_pos B0] at Bn
   have O : ieq a0_0 a1_0 = false := by simpa [ieq,ilt,ile] using B0
   have P := O
   try simp at P
   cases Bn
   refine VW.ws tau_ok Sound.none _ _ rfl ?_ hy
   simp [O,P]
  ·rw [if_neg B0] at Bn
   have O : ieq a0_0 a1_0 = true := by simpa [ieq,ilt,ile] using B0
   have P := O
   try simp at P
   cases Bn
   refine VW.ws tau_ok Sound.none _ _ rfl ?_ hy
   simp [O,P]
 refine VW.cond rfl (fun Dv => ?_) (fun Dv => ?_)
 ·
  replace Dv : x3 = true := by simpa [ieq,ilt,ile] using Dv
  rw [if_pos Dv] at h
  refine zs [(4,.val (.bool false))] ?_ ?_
  ·simp
  cases h
  refine VW.ret ?_
  simp [Post,PostM,PostC,PostC2,Nx,Bk]
 replace Dv : ¬ (x3 = true) := by simpa [ieq,ilt,ile] using Dv
 rw [if_neg Dv] at h
 refine VW.skip ?_
 refine hK1 _ ?_
 refine zs [(2,.val (.ptr [i64 a0_0,dI a0_1])),(3,.val (.ptr [i64 a1_0,dI a1_1])),(5,.val (i64 1)),(6,.val (i64 0)),(7,.val (i64 0))] ?_ ?_
 ·simp
 refine VW.sqc fun K5 hK5 hCK5 => ?_
 refine zs [(2,.val (.ptr [i64 a0_0,dI a0_1])),(3,.val (.ptr [i64 a1_0,dI a1_1])),(5,.val (i64 1)),(6,.val (i64 0)),(7,.val (i64 0)),(8,.val (i64 0))] ?_ ?_
 ·simp
 obtain ⟨x6,A1,h⟩ := bind_some h
 refine VW.tlE [(2,.val (.ptr [i64 a0_0,dI a0_1])),(5,.val (i64 x6.1)),(6,.val (i64 x6.2.1)),(7,.val (i64 x6.2.2))] (hCK5) ?_ ?_
 ·clear A1
  refine hK5 _ ?_
  obtain ⟨x23,B6,h⟩ := bind_some h
  refine VW.cut [(4,.val (.bool x23))] ?_ fun hy => ?_
  rotate_left
  ·clear h
   by_cases Cx : x6.2.1 = x6.2.2
   ·rw [if_pos Cx] at B6
    have A3 : ieq x6.2.1 x6.2.2 = true := by simpa [ieq,ilt,ile] using Cx
    have A4 := A3
    try simp at A4
    obtain ⟨v22,Dt,B6⟩ := bind_some B6
    cases B6
    refine VW.ws tau_ok (Sound.none.add 73 (s_l01Root_ok Dt) rfl) _ _ rfl ?_ hy
    simp [A3,A4]
   ·rw [if_neg Cx] at B6
    have A3 : ieq x6.2.1 x6.2.2 = false := by simpa [ieq,ilt,ile] using Cx
    have A4 := A3
    try simp at A4
    cases B6
    refine VW.ws tau_ok Sound.none _ _ rfl ?_ hy
    simp [A3,A4]
  cases h
  refine VW.ret ?_
  simp [Post,PostM,PostC,PostC2,Nx,Bk]
 refine VW.block ?_
 refine VW.loopF (s_l03Isometric_L0 a0_0 a0_1 a1_1) (fun s6 => [(2,.val (.ptr [i64 a0_0,dI a0_1])),(3,.val (.ptr [i64 a1_0,dI a1_1])),(5,.val (i64 s6.1)),(6,.val (i64 s6.2.1)),(7,.val (i64 s6.2.2.1)),(8,.val (i64 s6.2.2.2))]) A1 (Fits.of rfl) ?_
 clear A1
 intro s6 ox6 Bo F3
 unfold s_l03Isometric_L0 at Bo
 refine VW.sqc fun K8 hK8 hCK8 => ?_
 refine zs [(2,.val (.ptr [i64 a0_0,dI a0_1])),(3,.val (.ptr [i64 a1_0,dI a1_1])),(5,.val (i64 s6.1)),(6,.val (i64 s6.2.1)),(7,.val (i64 s6.2.2.1)),(8,.val (i64 s6.2.2.2)),(27,.val (.bool (ilt s6.2.2.2 (a0_1.length : Int))))] ?_ ?_
 ·simp
 refine VW.cond rfl (fun As => ?_) (fun As => ?_)
 rotate_left
 ·
  replace As : ¬ (s6.2.2.2 < (a0_1.length : Int)) := by simpa [ieq,ilt,ile] using As
  rw [if_neg As] at Bo
  refine VW.exit ?_
  cases Bo
  have hq := F3 _ rfl
  subst hq
  exact Fits.of rfl
 replace As : s6.2.2.2 < (a0_1.length : Int) := by simpa [ieq,ilt,ile] using As
 rw [if_pos As] at Bo
 refine VW.skip ?_
 refine hK8 _ ?_
 obtain ⟨x10,Z,Bo⟩ := bind_some Bo
 refine VW.sqE [(2,.val (.ptr [i64 a0_0,dI a0_1])),(3,.val (.ptr [i64 a1_0,dI a1_1])),(5,.val (i64 x10.1)),(6,.val (i64 x10.2.1)),(7,.val (i64 x10.2.2)),(8,.val (i64 s6.2.2.2))] ?_ ?_
 ·clear Z
  refine zr [(2,.val (.ptr [i64 a0_0,dI a0_1])),(3,.val (.ptr [i64 a1_0,dI a1_1])),(5,.val (i64 x10.1)),(6,.val (i64 x10.2.1)),(7,.val (i64 x10.2.2)),(8,.val (i64 (w64 (s6.2.2.2 + 1))))] ?_ ?_
  ·simp
  cases Bo
  exact ⟨_,rfl,Fits.of rfl⟩
 refine VW.block ?_
 refine VW.sqc fun K12 hK12 hCK12 => ?_
 obtain ⟨v13,F4,Z⟩ := bind_some Z
 obtain ⟨C5,C6,C7,C8⟩ := idx_some F4
 refine zs [(2,.val (.ptr [i64 a0_0,dI a0_1])),(3,.val (.ptr [i64 a1_0,dI a1_1])),(5,.val (i64 s6.1)),(6,.val (i64 s6.2.1)),(7,.val (i64 s6.2.2.1)),(8,.val (i64 s6.2.2.2)),(35,.val (.bool (ieq v13 0)))] ?_ ?_
 ·simp [C5,C6,C7,C8]
 obtain ⟨x14,Bp,Z⟩ := bind_some Z
 refine VW.tlE [(2,.val (.ptr [i64 a0_0,dI a0_1])),(3,.val (.ptr [i64 a1_0,dI a1_1])),(5,.val (i64 x14.1)),(6,.val (i64 x14.2)),(7,.val (i64 s6.2.2.1)),(8,.val (i64 s6.2.2.2))] (hCK12) ?_ ?_
 ·clear Bp
  refine hK12 _ ?_
  obtain ⟨v18,F5,Z⟩ := bind_some Z
  obtain ⟨C9,Da,Db,Dc⟩ := idx_some F5
  refine zs [(2,.val (.ptr [i64 a0_0,dI a0_1])),(3,.val (.ptr [i64 a1_0,dI a1_1])),(5,.val (i64 x14.1)),(6,.val (i64 x14.2)),(7,.val (i64 s6.2.2.1)),(8,.val (i64 s6.2.2.2)),(53,.val (.bool (ieq v18 0)))] ?_ ?_
  ·simp [C9,Da,Db,Dc]
  refine VW.cond rfl (fun Aj => ?_) (fun Aj => ?_)
  ·
   replace Aj : v18 = 0 := by simpa [ieq,ilt,ile] using Aj
   rw [if_pos Aj] at Z
   refine zr [(2,.val (.ptr [i64 a0_0,dI a0_1])),(3,.val (.ptr [i64 a1_0,dI a1_1])),(5,.val (i64 x14.1)),(6,.val (i64 x14.2)),(7,.val (i64 (w64 (s6.2.2.1 + 1)))),(8,.val (i64 s6.2.2.2))] ?_ ?_
   ·simp
   cases Z
   exact Fits.of rfl
  replace Aj : ¬ (v18 = 0) := by simpa [ieq,ilt,ile] using Aj
  rw [if_neg Aj] at Z
  obtain ⟨Ee,Z⟩ := chk_some Z
  have Dd := Ee
  try simp at Dd
  refine VW.wdr tau_ok Sound.none try_mixed _ [(2,.val (.ptr [i64 a0_0,dI a0_1])),(3,.val (.ptr [i64 a1_0,dI a1_1])),(5,.val (i64 ((w64 (x14.1 * v18)).tmod a0_0))),(6,.val (i64 x14.2)),(7,.val (i64 s6.2.2.1)),(8,.val (i64 s6.2.2.2))] 11 rfl (by kernel_rfl) (by rfl) ?_ ?_
  ·simp [C9,Da,Db,Dc,Ee,Dd]
  cases Z
  exact Fits.of rfl
 refine VW.cond rfl (fun Bq => ?_) (fun Bq => ?_)
 ·
  replace Bq : v13 = 0 := by simpa [ieq,ilt,ile] using Bq
  rw [if_pos Bq] at Bp
  refine zr [(2,.val (.ptr [i64 a0_0,dI a0_1])),(3,.val (.ptr [i64 a1_0,dI a1_1])),(5,.val (i64 s6.1)),(6,.val (i64 (w64 (s6.2.1 + 1)))),(7,.val (i64 s6.2.2.1)),(8,.val (i64 s6.2.2.2))] ?_ ?_
  ·simp
  cases Bp
  exact Fits.of rfl
 replace Bq : ¬ (v13 = 0) := by simpa [ieq,ilt,ile] using Bq
 rw [if_neg Bq] at Bp
 obtain ⟨Ca,Bp⟩ := chk_some Bp
 have A5 := Ca
 try simp at A5
 refine VW.wdr tau_ok Sound.none try_mixed _ [(2,.val (.ptr [i64 a0_0,dI a0_1])),(3,.val (.ptr [i64 a1_0,dI a1_1])),(5,.val (i64 ((w64 (s6.1 * v13)).tmod a0_0))),(6,.val (i64 s6.2.1)),(7,.val (i64 s6.2.2.1)),(8,.val (i64 s6.2.2.2))] 11 rfl (by kernel_rfl) (by rfl) ?_ ?_
 ·simp [C5,C6,C7,C8,Ca,A5]
 cases Bp
 exact Fits.of rfl

theorem s_l03Many_ok {a0_0 : Int} {a0_1 : List Int} {r : Bool} (h : s_l03Many a0_0 a0_1 = some r) :
  VCall Try.prog 151 [.agg [i64 a0_0,dI a0_1]] [.sc (.bool r)] := by
 unfold s_l03Many at h
 refine VCall.enter Try.call151 Try.func151 rfl 18 Try.ntmps151 (by simp) [.tmp 2] rfl ?_
 show VW _ _ _ (mk [(0,.val (.agg [i64 a0_0,dI a0_1]))]) _
 refine zs [(1,.val (.ptr [i64 a0_0,dI a0_1]))] ?_ ?_
 ·simp
 refine zs [(1,.val (.ptr [i64 a0_0,dI a0_1])),(3,.val (i64 1))] ?_ ?_
 ·simp
 refine VW.sqc fun K1 hK1 hCK1 => ?_
 refine zs [(1,.val (.ptr [i64 a0_0,dI a0_1])),(3,.val (i64 1)),(4,.val (i64 0))] ?_ ?_
 ·simp
 obtain ⟨x2,L,h⟩ := bind_some h
 refine VW.tlE [(3,.val (i64 x2))] (hCK1) ?_ ?_
 ·clear L
  refine hK1 _ ?_
  refine zs [(2,.val (.bool (ilt 5000 x2)))] ?_ ?_
  ·simp
  cases h
  refine VW.ret ?_
  simp [Post,PostM,PostC,PostC2,Nx,Bk]
 refine VW.block ?_
 refine VW.loopF (s_l03Many_L0 a0_0 a0_1) (fun s2 => [(1,.val (.ptr [i64 a0_0,dI a0_1])),(3,.val (i64 s2.1)),(4,.val (i64 s2.2))]) L (Fits.of rfl) ?_
 clear L
 intro s2 ox2 A K
 unfold s_l03Many_L0 at A
 refine VW.sqc fun K4 hK4 hCK4 => ?_
 refine zs [(1,.val (.ptr [i64 a0_0,dI a0_1])),(3,.val (i64 s2.1)),(4,.val (i64 s2.2)),(9,.val (.bool (ilt s2.2 (a0_1.length : Int))))] ?_ ?_
 ·simp
 refine VW.cond rfl (fun H => ?_) (fun H => ?_)
 rotate_left
 ·
  replace H : ¬ (s2.2 < (a0_1.length : Int)) := by simpa [ieq,ilt,ile] using H
  rw [if_neg H] at A
  refine VW.exit ?_
  cases A
  have hq := K _ rfl
  subst hq
  exact Fits.of rfl
 replace H : s2.2 < (a0_1.length : Int) := by simpa [ieq,ilt,ile] using H
 rw [if_pos H] at A
 refine VW.skip ?_
 refine hK4 _ ?_
 refine VW.sqc fun K6 hK6 hCK6 => ?_
 refine VW.block ?_
 refine zr [(1,.val (.ptr [i64 a0_0,dI a0_1])),(3,.val (i64 (w64 (s2.1 * a0_0)))),(4,.val (i64 s2.2))] ?_ ?_
 ·simp
 refine hK6 _ ?_
 refine zr [(1,.val (.ptr [i64 a0_0,dI a0_1])),(3,.val (i64 (w64 (s2.1 * a0_0)))),(4,.val (i64 (w64 (s2.2 + 1))))] ?_ ?_
 ·simp
 cases A
 exact ⟨_,rfl,Fits.of rfl⟩

theorem s_l03Next_ok {a0 : Int} {a1 : List Int} {r : Bool × (List Int)} (h : s_l03Next a0 a1 = some r) :
  VMutZ Try.prog 152 (dI a1) [i64 a0] [.bool r.1] (dI r.2) := by
 unfold s_l03Next at h
 refine VMutZ.enter Try.call152 Try.func152 rfl 28 Try.ntmps152 (by simp) 2 rfl [.tmp 4] rfl ?_
 show VW _ _ _ (mk [(0,.val (i64 a0)),(1,.ref 1 [] true (dI a1))]) _
 refine zs [(0,.val (i64 a0)),(1,.ref 1 [] true (dI a1))] ?_ ?_
 ·simp
 refine VW.sqc fun K1 hK1 hCK1 => ?_
 refine zs [(0,.val (i64 a0)),(1,.ref 1 [] true (dI a1)),(5,.val (i64 (w64 ((a1.length : Int) - 1))))] ?_ ?_
 ·simp
 obtain ⟨x2,L,h⟩ := bind_some h
 refine VW.tlO (fun y4 => [(1,.ref 1 [] true (dI y4))]) x2 (hCK1) ?_ ?_
 ·clear L
  rintro y4 rfl
  dsimp only at h
  refine hK1 _ ?_
  refine zs [(1,.ref 1 [] true (dI y4)),(4,.val (.bool false))] ?_ ?_
  ·simp
  cases h
  refine VW.ret ?_
  exact PostZx.r ⟨⟨_,rfl,rfl,rfl⟩,_,_,rfl⟩
 refine VW.block ?_
 refine VW.loopF (s_l03Next_L0 a0) (fun s2 => [(0,.val (i64 a0)),(1,.ref 1 [] true (dI s2.1)),(5,.val (i64 s2.2))]) L (Fits.of rfl) ?_
 clear L
 intro s2 ox2 A K
 unfold s_l03Next_L0 at A
 refine VW.sqc fun K5 hK5 hCK5 => ?_
 refine zs [(0,.val (i64 a0)),(1,.ref 1 [] true (dI s2.1)),(5,.val (i64 s2.2)),(10,.val (.bool (ile 0 s2.2)))] ?_ ?_
 ·simp
 refine VW.cond rfl (fun G => ?_) (fun G => ?_)
 rotate_left
 ·
  replace G : ¬ (0 ≤ s2.2) := by simpa [ieq,ilt,ile] using G
  rw [if_neg G] at A
  refine VW.exit ?_
  cases A
  have hq := K _ rfl
  subst hq
  exact ⟨_,rfl,Fits.of rfl⟩
 replace G : 0 ≤ s2.2 := by simpa [ieq,ilt,ile] using G
 rw [if_pos G] at A
 refine VW.skip ?_
 refine hK5 _ ?_
 refine VW.sqc fun K7 hK7 hCK7 => ?_
 refine VW.block ?_
 obtain ⟨v8,B7,A⟩ := bind_some A
 obtain ⟨Bd,Be,Bf,Bg⟩ := idx_some B7
 refine zs [(0,.val (i64 a0)),(1,.ref 1 [] true (dI (s2.1.set s2.2.toNat (w64 (v8 + 1))))),(5,.val (i64 s2.2))] ?_ ?_
 ·simp [Bd,Be,Bf,Bg]
 refine VW.sqc fun K9 hK9 hCK9 => ?_
 obtain ⟨l10,F6,A⟩ := bind_some A
 rw [Option.some.inj F6]
 obtain ⟨v11,Br,A⟩ := bind_some A
 obtain ⟨Aa,Q,R,S⟩ := idx_some Br
 refine zs [(0,.val (i64 a0)),(1,.ref 1 [] true (dI l10)),(5,.val (i64 s2.2)),(24,.val (.bool (ilt v11 a0)))] ?_ ?_
 ·simp [Aa,Q,R,S]
 refine VW.cond rfl (fun D => ?_) (fun D => ?_)
 ·
  replace D : v11 < a0 := by simpa [ieq,ilt,ile] using D
  rw [if_pos D] at A
  refine zs [(1,.ref 1 [] true (dI l10)),(4,.val (.bool true))] ?_ ?_
  ·simp
  cases A
  have hq := K _ rfl
  subst hq
  dsimp only at h
  cases h
  refine VW.ret ?_
  exact PostZx.r ⟨⟨_,rfl,rfl,rfl⟩,_,_,rfl⟩
 replace D : ¬ (v11 < a0) := by simpa [ieq,ilt,ile] using D
 rw [if_neg D] at A
 refine VW.skip ?_
 refine hK9 _ ?_
 refine zr [(0,.val (i64 a0)),(1,.ref 1 [] true (dI (l10.set s2.2.toNat 0))),(5,.val (i64 s2.2))] ?_ ?_
 ·simp [Aa,Q,R,S]
 refine hK7 _ ?_
 refine zr [(0,.val (i64 a0)),(1,.ref 1 [] true (dI (l10.set s2.2.toNat 0))),(5,.val (i64 (w64 (s2.2 - 1))))] ?_ ?_
 ·simp
 cases A
 exact ⟨_,rfl,Fits.of rfl⟩

theorem s_l03Pair_ok {a0_0 : Int} {a0_1 : List Int} {a1 : List Int} {a2 : List Int} {r : Int} (h : s_l03Pair a0_0 a0_1 a1 a2 = some r) :
  VCall Try.prog 153 [.agg [i64 a0_0,dI a0_1],dI a1,dI a2] [.sc (i64 r)] := by
 unfold s_l03Pair at h
 refine VCall.enter Try.call153 Try.func153 rfl 39 Try.ntmps153 (by simp) [.tmp 6] rfl ?_
 show VW _ _ _ (mk [(0,.val (.agg [i64 a0_0,dI a0_1])),(1,.val (dI a1)),(2,.val (dI a2))]) _
 refine zs [(1,.val (dI a1)),(2,.val (dI a2)),(3,.val (.ptr [i64 a0_0,dI a0_1]))] ?_ ?_
 ·simp
 refine zs [(1,.val (dI a1)),(2,.val (dI a2)),(3,.val (.ptr [i64 a0_0,dI a0_1])),(7,.val (i64 0))] ?_ ?_
 ·simp
 refine VW.sqc fun K1 hK1 hCK1 => ?_
 refine zs [(1,.val (dI a1)),(2,.val (dI a2)),(3,.val (.ptr [i64 a0_0,dI a0_1])),(7,.val (i64 0)),(8,.val (i64 0))] ?_ ?_
 ·simp
 obtain ⟨x2,L,h⟩ := bind_some h
 refine VW.tlE [(7,.val (i64 x2))] (hCK1) ?_ ?_
 ·clear L
  refine hK1 _ ?_
  refine zs [(6,.val (i64 x2))] ?_ ?_
  ·simp
  cases h
  refine VW.ret ?_
  simp [Post,PostM,PostC,PostC2,Nx,Bk]
 refine VW.block ?_
 refine VW.loopF (s_l03Pair_L0 a0_0 a0_1 a1 a2) (fun s2 => [(1,.val (dI a1)),(2,.val (dI a2)),(3,.val (.ptr [i64 a0_0,dI a0_1])),(7,.val (i64 s2.1)),(8,.val (i64 s2.2))]) L (Fits.of rfl) ?_
 clear L
 intro s2 ox2 A K
 unfold s_l03Pair_L0 at A
 refine VW.sqc fun K4 hK4 hCK4 => ?_
 refine zs [(1,.val (dI a1)),(2,.val (dI a2)),(3,.val (.ptr [i64 a0_0,dI a0_1])),(7,.val (i64 s2.1)),(8,.val (i64 s2.2)),(12,.val (.bool (ilt s2.2 (a1.length : Int))))] ?_ ?_
 ·simp
 refine VW.cond rfl (fun H => ?_) (fun H => ?_)
 rotate_left
 ·
  replace H : ¬ (s2.2 < (a1.length : Int)) := by simpa [ieq,ilt,ile] using H
  rw [if_neg H] at A
  refine VW.exit ?_
  cases A
  have hq := K _ rfl
  subst hq
  exact Fits.of rfl
 replace H : s2.2 < (a1.length : Int) := by simpa [ieq,ilt,ile] using H
 rw [if_pos H] at A
 refine VW.skip ?_
 refine hK4 _ ?_
 refine VW.sqc fun K6 hK6 hCK6 => ?_
 refine VW.block ?_
 obtain ⟨v7,B5,A⟩ := bind_some A
 obtain ⟨Bi,Bj,Bl,Bm⟩ := idx_some B5
 obtain ⟨v8,B7,A⟩ := bind_some A
 obtain ⟨Bd,Be,Bf,Bg⟩ := idx_some B7
 obtain ⟨Ef,A⟩ := chk_some A
 have Cb := Ef
 try simp at Cb
 obtain ⟨v10,Ao,A⟩ := bind_some A
 obtain ⟨An,Ab,Ac,Ad⟩ := idx_some Ao
 obtain ⟨Eg,A⟩ := chk_some A
 have De := Eg
 try simp at De
 refine VW.wdr tau_ok Sound.none try_mixed _ [(1,.val (dI a1)),(2,.val (dI a2)),(3,.val (.ptr [i64 a0_0,dI a0_1])),(7,.val (i64 ((w64 (s2.1 + (w64 (((w64 (v7 * v8)).tmod a0_0) * v10)))).tmod a0_0))),(8,.val (i64 s2.2))] 24 rfl (by kernel_rfl) (by rfl) ?_ ?_
 ·simp [Bi,Bj,Bl,Bm,Bd,Be,Bf,Bg,Ef,Cb,An,Ab,Ac,Ad,Eg,De]
 refine hK6 _ ?_
 refine zr [(1,.val (dI a1)),(2,.val (dI a2)),(3,.val (.ptr [i64 a0_0,dI a0_1])),(7,.val (i64 ((w64 (s2.1 + (w64 (((w64 (v7 * v8)).tmod a0_0) * v10)))).tmod a0_0))),(8,.val (i64 (w64 (s2.2 + 1))))] ?_ ?_
 ·simp
 cases A
 exact ⟨_,rfl,Fits.of rfl⟩

theorem s_l02Turn_ok {a0 : List (List Int)} {r : List (List Int)} (h : s_l02Turn a0 = some r) :
  VCall Try.prog 154 [dM a0] [.own true (dM r)] := by
 unfold s_l02Turn at h
 refine VCall.enter Try.call154 Try.func154 rfl 38 Try.ntmps154 (by simp) [.tmp 2] rfl ?_
 show VW _ _ _ (mk [(0,.val (dM a0))]) _
 refine zs [(0,.val (dM a0))] ?_ ?_
 ·simp
 refine zs [(0,.val (dM a0)),(3,.ref 3 [] true (dM []))] ?_ ?_
 ·simp
 refine VW.sqc fun K1 hK1 hCK1 => ?_
 refine zs [(0,.val (dM a0)),(3,.ref 3 [] true (dM [])),(4,.val (i64 0))] ?_ ?_
 ·simp
 obtain ⟨x2,L,h⟩ := bind_some h
 refine VW.tlE [(3,.ref 3 [] true (dM x2))] (hCK1) ?_ ?_
 ·clear L
  refine hK1 _ ?_
  refine zs [(2,.ref 2 [] true (dM x2))] ?_ ?_
  ·simp
  cases h
  refine VW.ret ?_
  simp [Post,PostM,PostC,PostC2,Nx,Bk]
 refine VW.block ?_
 refine VW.loopF (s_l02Turn_L0 a0) (fun s2 => [(0,.val (dM a0)),(3,.ref 3 [] true (dM s2.1)),(4,.val (i64 s2.2))]) L (Fits.of rfl) ?_
 clear L
 intro s2 ox2 A K
 unfold s_l02Turn_L0 at A
 refine VW.sqc fun K4 hK4 hCK4 => ?_
 obtain ⟨v5,C3,A⟩ := bind_some A
 obtain ⟨F7,Dw,Dx,Dy⟩ := idx_some C3
 replace Dw : 0 < a0.length := Dw
 replace Dx : a0[0]? = some v5 := Dx
 replace Dy : ∀ h,a0[0]'h = v5 := Dy
 refine zs [(0,.val (dM a0)),(3,.ref 3 [] true (dM s2.1)),(4,.val (i64 s2.2)),(13,.val (.bool (ilt s2.2 (v5.length : Int))))] ?_ ?_
 ·simp [F7,Dw,Dx,Dy]
 refine VW.cond rfl (fun G => ?_) (fun G => ?_)
 rotate_left
 ·
  replace G : ¬ (s2.2 < (v5.length : Int)) := by simpa [ieq,ilt,ile] using G
  rw [if_neg G] at A
  refine VW.exit ?_
  cases A
  have hq := K _ rfl
  subst hq
  exact Fits.of rfl
 replace G : s2.2 < (v5.length : Int) := by simpa [ieq,ilt,ile] using G
 rw [if_pos G] at A
 refine VW.skip ?_
 refine hK4 _ ?_
 refine VW.sqc fun K7 hK7 hCK7 => ?_
 refine VW.block ?_
 refine zs [(0,.val (dM a0)),(3,.ref 3 [] true (dM s2.1)),(4,.val (i64 s2.2)),(5,.ref 5 [] true (dI []))] ?_ ?_
 ·simp
 refine VW.sqc fun K8 hK8 hCK8 => ?_
 refine zs [(0,.val (dM a0)),(3,.ref 3 [] true (dM s2.1)),(4,.val (i64 s2.2)),(5,.ref 5 [] true (dI [])),(6,.val (i64 0))] ?_ ?_
 ·simp
 obtain ⟨x9,F8,A⟩ := bind_some A
 refine VW.tlE [(0,.val (dM a0)),(3,.ref 3 [] true (dM s2.1)),(4,.val (i64 s2.2)),(5,.ref 5 [] true (dI x9))] (hCK8) ?_ ?_
 ·clear F8
  refine hK8 _ ?_
  obtain ⟨Ca,A⟩ := chk_some A
  have A5 := Ca
  try simp at A5
  refine zr [(0,.val (dM a0)),(3,.ref 3 [] true (dM (s2.1 ++ [x9]))),(4,.val (i64 s2.2))] ?_ ?_
  ·simp [Ca,A5]
  refine hK7 _ ?_
  refine zr [(0,.val (dM a0)),(3,.ref 3 [] true (dM (s2.1 ++ [x9]))),(4,.val (i64 (w64 (s2.2 + 1))))] ?_ ?_
  ·simp
  cases A
  exact ⟨_,rfl,Fits.of rfl⟩
 refine VW.block ?_
 refine VW.loopF (s_l02Turn_L1 a0 s2) (fun s9 => [(0,.val (dM a0)),(3,.ref 3 [] true (dM s2.1)),(4,.val (i64 s2.2)),(5,.ref 5 [] true (dI s9.1)),(6,.val (i64 s9.2))]) F8 (Fits.of rfl) ?_
 clear F8
 intro s9 ox9 Av F9
 unfold s_l02Turn_L1 at Av
 refine VW.sqc fun K11 hK11 hCK11 => ?_
 refine zs [(0,.val (dM a0)),(3,.ref 3 [] true (dM s2.1)),(4,.val (i64 s2.2)),(5,.ref 5 [] true (dI s9.1)),(6,.val (i64 s9.2)),(20,.val (.bool (ilt s9.2 (a0.length : Int))))] ?_ ?_
 ·simp
 refine VW.cond rfl (fun D => ?_) (fun D => ?_)
 rotate_left
 ·
  replace D : ¬ (s9.2 < (a0.length : Int)) := by simpa [ieq,ilt,ile] using D
  rw [if_neg D] at Av
  refine VW.exit ?_
  cases Av
  have hq := F9 _ rfl
  subst hq
  exact Fits.of rfl
 replace D : s9.2 < (a0.length : Int) := by simpa [ieq,ilt,ile] using D
 rw [if_pos D] at Av
 refine VW.skip ?_
 refine hK11 _ ?_
 refine VW.sqc fun K13 hK13 hCK13 => ?_
 refine VW.block ?_
 obtain ⟨v14,Cc,Av⟩ := bind_some Av
 obtain ⟨Cd,Ce,Cf,Cg⟩ := idx_some Cc
 obtain ⟨v15,Ch,Av⟩ := bind_some Av
 obtain ⟨Ci,Cj,Ck,Cl⟩ := idx_some Ch
 obtain ⟨Eh,Av⟩ := chk_some Av
 have Df := Eh
 try simp at Df
 refine zr [(0,.val (dM a0)),(3,.ref 3 [] true (dM s2.1)),(4,.val (i64 s2.2)),(5,.ref 5 [] true (dI (s9.1 ++ [v15]))),(6,.val (i64 s9.2))] ?_ ?_
 ·simp [Cd,Ce,Cf,Cg,Ci,Cj,Ck,Cl,Eh,Df]
 refine hK13 _ ?_
 refine zr [(0,.val (dM a0)),(3,.ref 3 [] true (dM s2.1)),(4,.val (i64 s2.2)),(5,.ref 5 [] true (dI (s9.1 ++ [v15]))),(6,.val (i64 (w64 (s9.2 + 1))))] ?_ ?_
 ·simp
 cases Av
 exact ⟨_,rfl,Fits.of rfl⟩

theorem s_IsometryOf_ok {a0_0 : Int} {a0_1 : List Int} {a1_0 : Int} {a1_1 : List Int} {r : (List (List Int)) × Int} (h : s_IsometryOf a0_0 a0_1 a1_0 a1_1 = some r) :
  VCall Try.prog 66 [.agg [i64 a0_0,dI a0_1],.agg [i64 a1_0,dI a1_1]] [.own true (dM r.1),.sc (i64 r.2)] := by
 unfold s_IsometryOf at h
 refine VCall.enter Try.call66 Try.func66 rfl 83 Try.ntmps66 (by simp) [.tmp 4,.tmp 5] rfl ?_
 show VW _ _ _ (mk [(0,.val (.agg [i64 a0_0,dI a0_1])),(1,.val (.agg [i64 a1_0,dI a1_1]))]) _
 refine zs [(2,.val (.ptr [i64 a0_0,dI a0_1])),(3,.val (.ptr [i64 a1_0,dI a1_1]))] ?_ ?_
 ·simp
 refine VW.sqc fun K1 hK1 hCK1 => ?_
 obtain ⟨x5,Ai,h⟩ := bind_some h
 refine VW.cut [(2,.val (.ptr [i64 a0_0,dI a0_1])),(3,.val (.ptr [i64 a1_0,dI a1_1])),(18,.val (.bool x5))] ?_ fun hy => ?_
 rotate_left
 ·clear h
  obtain ⟨v2,B4,Ai⟩ := bind_some Ai
  by_cases B1 : v2 = false
  ·rw [if_pos B1] at Ai
   have X : v2 = false := by simpa [ieq,ilt,ile] using B1
   have Y := X
   try simp at Y
   cases Ai
   refine VW.ws tau_ok (Sound.none.add 12 (s_l03Is_ok B4) rfl) _ _ rfl ?_ hy
   simp [X,Y]
  ·rw [if_neg B1] at Ai
   have X : v2 = true := by simpa [ieq,ilt,ile] using B1
   have Y := X
   try simp at Y
   obtain ⟨v4,Ei,Ai⟩ := bind_some Ai
   cases Ai
   refine VW.ws tau_ok ((Sound.none.add 12 (s_l03Is_ok B4) rfl).add 16 (s_l03Is_ok Ei) rfl) _ _ rfl ?_ hy
   simp [X,Y]
 refine VW.cond rfl (fun G => ?_) (fun G => ?_)
 ·
  replace G : x5 = true := by simpa [ieq,ilt,ile] using G
  rw [if_pos G] at h
  refine zs [(4,.ref 4 [] true (.list [])),(5,.val (i64 1))] ?_ ?_
  ·simp
  cases h
  refine VW.ret ?_
  simp [Post,PostM,PostC,PostC2,Nx,Bk]
 replace G : ¬ (x5 = true) := by simpa [ieq,ilt,ile] using G
 rw [if_neg G] at h
 refine VW.skip ?_
 refine hK1 _ ?_
 refine VW.sqc fun K7 hK7 hCK7 => ?_
 obtain ⟨x11,A6,h⟩ := bind_some h
 refine VW.cut [(2,.val (.ptr [i64 a0_0,dI a0_1])),(3,.val (.ptr [i64 a1_0,dI a1_1])),(26,.val (.bool x11))] ?_ fun hy => ?_
 rotate_left
 ·clear h
  obtain ⟨v8,B7,A6⟩ := bind_some A6
  by_cases Fz : v8 = 0
  ·rw [if_pos Fz] at A6
   have Cm : ieq v8 0 = true := by simpa [ieq,ilt,ile] using Fz
   have Cn := Cm
   try simp at Cn
   cases A6
   refine VW.ws tau_ok (Sound.none.add 20 (s_l03Disc_ok B7) rfl) _ _ rfl ?_ hy
   simp [Cm,Cn]
  ·rw [if_neg Fz] at A6
   have Cm : ieq v8 0 = false := by simpa [ieq,ilt,ile] using Fz
   have Cn := Cm
   try simp at Cn
   obtain ⟨v10,Ao,A6⟩ := bind_some A6
   cases A6
   refine VW.ws tau_ok ((Sound.none.add 20 (s_l03Disc_ok B7) rfl).add 24 (s_l03Disc_ok Ao) rfl) _ _ rfl ?_ hy
   simp [Cm,Cn]
 refine VW.cond rfl (fun D => ?_) (fun D => ?_)
 ·
  replace D : x11 = true := by simpa [ieq,ilt,ile] using D
  rw [if_pos D] at h
  refine zs [(4,.ref 4 [] true (.list [])),(5,.val (i64 5))] ?_ ?_
  ·simp
  cases h
  refine VW.ret ?_
  simp [Post,PostM,PostC,PostC2,Nx,Bk]
 replace D : ¬ (x11 = true) := by simpa [ieq,ilt,ile] using D
 rw [if_neg D] at h
 refine VW.skip ?_
 refine hK7 _ ?_
 refine VW.sqc fun K13 hK13 hCK13 => ?_
 obtain ⟨v14,Cc,h⟩ := bind_some h
 refine VW.ws tau_ok (Sound.none.add 29 (s_l03Isometric_ok Cc) rfl) _ [(2,.val (.ptr [i64 a0_0,dI a0_1])),(3,.val (.ptr [i64 a1_0,dI a1_1])),(30,.val (.bool (!v14)))] rfl ?_ ?_
 ·simp
 refine VW.cond rfl (fun Ak => ?_) (fun Ak => ?_)
 ·
  replace Ak : v14 = false := by simpa [ieq,ilt,ile] using Ak
  rw [if_pos Ak] at h
  refine zs [(4,.ref 4 [] true (.list [])),(5,.val (i64 4))] ?_ ?_
  ·simp
  cases h
  refine VW.ret ?_
  simp [Post,PostM,PostC,PostC2,Nx,Bk]
 replace Ak : ¬ (v14 = false) := by simpa [ieq,ilt,ile] using Ak
 rw [if_neg Ak] at h
 refine VW.skip ?_
 refine hK13 _ ?_
 refine VW.sqc fun K16 hK16 hCK16 => ?_
 obtain ⟨v17,Dz,h⟩ := bind_some h
 refine VW.ws tau_ok (Sound.none.add 32 (s_l03Many_ok Dz) rfl) _ [(2,.val (.ptr [i64 a0_0,dI a0_1])),(3,.val (.ptr [i64 a1_0,dI a1_1])),(32,.val (.bool v17))] rfl ?_ ?_
 ·simp
 refine VW.cond rfl (fun Ah => ?_) (fun Ah => ?_)
 ·
  replace Ah : v17 = true := by simpa [ieq,ilt,ile] using Ah
  rw [if_pos Ah] at h
  refine zs [(4,.ref 4 [] true (.list [])),(5,.val (i64 3))] ?_ ?_
  ·simp
  cases h
  refine VW.ret ?_
  simp [Post,PostM,PostC,PostC2,Nx,Bk]
 replace Ah : ¬ (v17 = true) := by simpa [ieq,ilt,ile] using Ah
 rw [if_neg Ah] at h
 refine VW.skip ?_
 refine hK16 _ ?_
 refine zs [(2,.val (.ptr [i64 a0_0,dI a0_1])),(3,.val (.ptr [i64 a1_0,dI a1_1])),(6,.ref 6 [] true (dM []))] ?_ ?_
 ·simp
 refine VW.sqc fun K19 hK19 hCK19 => ?_
 refine zs [(2,.val (.ptr [i64 a0_0,dI a0_1])),(3,.val (.ptr [i64 a1_0,dI a1_1])),(6,.ref 6 [] true (dM [])),(7,.val (i64 0))] ?_ ?_
 ·simp
 obtain ⟨x20,Bs,h⟩ := bind_some h
 refine VW.tlE [(6,.ref 6 [] true (dM x20))] (hCK19) ?_ ?_
 ·clear Bs
  refine hK19 _ ?_
  obtain ⟨v46,Ga,h⟩ := bind_some h
  refine VW.ws tau_ok (Sound.none.add 82 (s_l02Turn_ok Ga) rfl) _ [(4,.ref 4 [] true (dM v46)),(5,.val (i64 0))] rfl ?_ ?_
  ·simp
  cases h
  refine VW.ret ?_
  simp [Post,PostM,PostC,PostC2,Nx,Bk]
 refine VW.block ?_
 refine VW.loopF (s_IsometryOf_L0 a0_0 a0_1 a1_0 a1_1) (fun s20 => [(2,.val (.ptr [i64 a0_0,dI a0_1])),(3,.val (.ptr [i64 a1_0,dI a1_1])),(6,.ref 6 [] true (dM s20.1)),(7,.val (i64 s20.2))]) Bs (Fits.of rfl) ?_
 clear Bs
 intro s20 ox20 C Co
 unfold s_IsometryOf_L0 at C
 refine VW.sqc fun K22 hK22 hCK22 => ?_
 refine zs [(2,.val (.ptr [i64 a0_0,dI a0_1])),(3,.val (.ptr [i64 a1_0,dI a1_1])),(6,.ref 6 [] true (dM s20.1)),(7,.val (i64 s20.2)),(38,.val (.bool (ilt s20.2 (a0_1.length : Int))))] ?_ ?_
 ·simp
 refine VW.cond rfl (fun I => ?_) (fun I => ?_)
 rotate_left
 ·
  replace I : ¬ (s20.2 < (a0_1.length : Int)) := by simpa [ieq,ilt,ile] using I
  rw [if_neg I] at C
  refine VW.exit ?_
  cases C
  have hq := Co _ rfl
  subst hq
  exact Fits.of rfl
 replace I : s20.2 < (a0_1.length : Int) := by simpa [ieq,ilt,ile] using I
 rw [if_pos I] at C
 refine VW.skip ?_
 refine hK22 _ ?_
 refine VW.sqc fun K24 hK24 hCK24 => ?_
 refine VW.block ?_
 obtain ⟨Ej,C⟩ := chk_some C
 have Dg := Ej
 try simp at Dg
 refine zs [(2,.val (.ptr [i64 a0_0,dI a0_1])),(3,.val (.ptr [i64 a1_0,dI a1_1])),(6,.ref 6 [] true (dM s20.1)),(7,.val (i64 s20.2)),(8,.ref 8 [] true (dI (List.replicate (a0_1.length : Int).toNat 0)))] ?_ ?_
 ·simp [Ej,Dg]
 refine VW.sqc fun K26 hK26 hCK26 => ?_
 obtain ⟨x27,D0,C⟩ := bind_some C
 refine VW.tlE [(2,.val (.ptr [i64 a0_0,dI a0_1])),(3,.val (.ptr [i64 a1_0,dI a1_1])),(6,.ref 6 [] true (dM s20.1)),(7,.val (i64 s20.2)),(8,.ref 8 [] true (dI x27))] (hCK26) ?_ ?_
 ·clear D0
  refine hK26 _ ?_
  obtain ⟨Ek,C⟩ := chk_some C
  have Dh := Ek
  try simp at Dh
  refine zr [(2,.val (.ptr [i64 a0_0,dI a0_1])),(3,.val (.ptr [i64 a1_0,dI a1_1])),(6,.ref 6 [] true (dM (s20.1 ++ [x27]))),(7,.val (i64 s20.2))] ?_ ?_
  ·simp [Ek,Dh]
  refine hK24 _ ?_
  refine zr [(2,.val (.ptr [i64 a0_0,dI a0_1])),(3,.val (.ptr [i64 a1_0,dI a1_1])),(6,.ref 6 [] true (dM (s20.1 ++ [x27]))),(7,.val (i64 (w64 (s20.2 + 1))))] ?_ ?_
  ·simp
  cases C
  exact ⟨_,rfl,Fits.of rfl⟩
 refine VW.block ?_
 refine VW.loopF (s_IsometryOf_L1 a0_0 a0_1 a1_0 a1_1 s20) (fun s27 => [(2,.val (.ptr [i64 a0_0,dI a0_1])),(3,.val (.ptr [i64 a1_0,dI a1_1])),(6,.ref 6 [] true (dM s20.1)),(7,.val (i64 s20.2)),(8,.ref 8 [] true (dI s27))]) D0 (Fits.of rfl) ?_
 clear D0
 intro s27 ox27 F Di
 unfold s_IsometryOf_L1 at F
 refine VW.sqc fun K29 hK29 hCK29 => ?_
 obtain ⟨v30,D1,F⟩ := bind_some F
 refine VW.mid tau_ok Sound.none _ 3 [(2,.val (.ptr [i64 a0_0,dI a0_1])),(3,.val (.ptr [i64 a1_0,dI a1_1])),(6,.ref 6 [] true (dM s20.1)),(7,.val (i64 s20.2)),(8,.ref 8 [] true (dI s27)),(46,.val (i64 a0_0)),(47,.ref 8 [] true (dI s27))] _ (fun _ => [(2,.val (.ptr [i64 a0_0,dI a0_1])),(3,.val (.ptr [i64 a1_0,dI a1_1])),(6,.ref 6 [] true (dM s20.1)),(7,.val (i64 s20.2)),(8,.ref 8 [] true (dI v30.2)),(48,.val (.bool v30.1))]) (fun _ => True) _ rfl rfl rfl ?_ (step_mutZ rfl rfl rfl (by simp) rfl rfl (s_l03Next_ok D1)) (fun _ _ => ?_) (fun _ _ => ?_)
 ·simp
 ·simp
 refine VW.cond rfl (fun Bt => ?_) (fun Bt => ?_)
 rotate_left
 ·
  replace Bt : ¬ (v30.1 = true) := by simpa [ieq,ilt,ile] using Bt
  rw [if_neg Bt] at F
  refine VW.exit ?_
  cases F
  have hq := Di _ rfl
  subst hq
  exact Fits.of rfl
 replace Bt : v30.1 = true := by simpa [ieq,ilt,ile] using Bt
 rw [if_pos Bt] at F
 refine VW.skip ?_
 refine hK29 _ ?_
 refine VW.block ?_
 obtain ⟨v32,D2,F⟩ := bind_some F
 obtain ⟨v33,D3,F⟩ := bind_some F
 obtain ⟨Cp,Cq,Cr,Cs⟩ := idx_some D3
 refine VW.wds tau_ok (Sound.none.add 52 (s_l03Pair_ok D2) rfl) try_mixed _ [(2,.val (.ptr [i64 a0_0,dI a0_1])),(3,.val (.ptr [i64 a1_0,dI a1_1])),(6,.ref 6 [] true (dM s20.1)),(7,.val (i64 s20.2)),(8,.ref 8 [] true (dI v30.2)),(9,.val (.bool (ieq v32 v33)))] 11 rfl (by kernel_rfl) (by rfl) ?_ ?_
 ·simp [Cp,Cq,Cr,Cs]
 refine VW.sqc fun K34 hK34 hCK34 => ?_
 refine zs [(2,.val (.ptr [i64 a0_0,dI a0_1])),(3,.val (.ptr [i64 a1_0,dI a1_1])),(6,.ref 6 [] true (dM s20.1)),(7,.val (i64 s20.2)),(8,.ref 8 [] true (dI v30.2)),(9,.val (.bool (ieq v32 v33))),(10,.val (i64 0))] ?_ ?_
 ·simp
 obtain ⟨x35,D4,F⟩ := bind_some F
 refine VW.tlE [(2,.val (.ptr [i64 a0_0,dI a0_1])),(3,.val (.ptr [i64 a1_0,dI a1_1])),(6,.ref 6 [] true (dM s20.1)),(7,.val (i64 s20.2)),(8,.ref 8 [] true (dI v30.2)),(9,.val (.bool x35))] (hCK34) ?_ ?_
 ·clear D4
  refine hK34 _ ?_
  refine zs [(2,.val (.ptr [i64 a0_0,dI a0_1])),(3,.val (.ptr [i64 a1_0,dI a1_1])),(6,.ref 6 [] true (dM s20.1)),(7,.val (i64 s20.2)),(8,.ref 8 [] true (dI v30.2)),(76,.val (.bool x35))] ?_ ?_
  ·simp
  refine VW.cond rfl (fun Bu => ?_) (fun Bu => ?_)
  rotate_left
  ·
   replace Bu : ¬ (x35 = true) := by simpa [ieq,ilt,ile] using Bu
   rw [if_neg Bu] at F
   refine VW.skip ?_
   cases F
   exact ⟨_,rfl,Fits.of rfl⟩
  replace Bu : x35 = true := by simpa [ieq,ilt,ile] using Bu
  rw [if_pos Bu] at F
  refine VW.exit ?_
  cases F
  have hq := Di _ rfl
  subst hq
  exact Fits.of rfl
 refine VW.block ?_
 refine VW.loopF (s_IsometryOf_L2 a1_0 a1_1 s20 v30) (fun s35 => [(2,.val (.ptr [i64 a0_0,dI a0_1])),(3,.val (.ptr [i64 a1_0,dI a1_1])),(6,.ref 6 [] true (dM s20.1)),(7,.val (i64 s20.2)),(8,.ref 8 [] true (dI v30.2)),(9,.val (.bool s35.1)),(10,.val (i64 s35.2))]) D4 (Fits.of rfl) ?_
 clear D4
 intro s35 ox35 U El
 unfold s_IsometryOf_L2 at U
 refine VW.sqc fun K37 hK37 hCK37 => ?_
 obtain ⟨x39,Cy,U⟩ := bind_some U
 refine VW.cut [(2,.val (.ptr [i64 a0_0,dI a0_1])),(3,.val (.ptr [i64 a1_0,dI a1_1])),(6,.ref 6 [] true (dM s20.1)),(7,.val (i64 s20.2)),(8,.ref 8 [] true (dI v30.2)),(9,.val (.bool s35.1)),(10,.val (i64 s35.2)),(65,.val (.bool x39))] ?_ fun hy => ?_
 rotate_left
 ·clear U
  by_cases Cz : s35.2 < (s20.1.length : Int)
  ·rw [if_pos Cz] at Cy
   have A7 : ilt s35.2 (s20.1.length : Int) = true := by simpa [ieq,ilt,ile] using Cz
   have A8 := A7
   try simp at A8
   cases Cy
   refine VW.ws tau_ok Sound.none _ _ rfl ?_ hy
   simp [A7,A8]
  ·rw [if_neg Cz] at Cy
   have A7 : ilt s35.2 (s20.1.length : Int) = false := by simpa [ieq,ilt,ile] using Cz
   have A8 := A7
   try simp at A8
   cases Cy
   refine VW.ws tau_ok Sound.none _ _ rfl ?_ hy
   simp [A7,A8]
 refine VW.cond rfl (fun Bv => ?_) (fun Bv => ?_)
 rotate_left
 ·
  replace Bv : ¬ (x39 = true) := by simpa [ieq,ilt,ile] using Bv
  rw [if_neg Bv] at U
  refine VW.exit ?_
  cases U
  have hq := El _ rfl
  subst hq
  exact Fits.of rfl
 replace Bv : x39 = true := by simpa [ieq,ilt,ile] using Bv
 rw [if_pos Bv] at U
 refine VW.skip ?_
 refine hK37 _ ?_
 refine VW.sqc fun K41 hK41 hCK41 => ?_
 refine VW.block ?_
 obtain ⟨v42,Gb,U⟩ := bind_some U
 obtain ⟨Em,En,Eo,Ep⟩ := idx_some Gb
 obtain ⟨v43,Gc,U⟩ := bind_some U
 refine VW.wdr tau_ok (Sound.none.add 74 (s_l03Pair_ok Gc) rfl) try_mixed _ [(2,.val (.ptr [i64 a0_0,dI a0_1])),(3,.val (.ptr [i64 a1_0,dI a1_1])),(6,.ref 6 [] true (dM s20.1)),(7,.val (i64 s20.2)),(8,.ref 8 [] true (dI v30.2)),(9,.val (.bool (ieq v43 0))),(10,.val (i64 s35.2))] 9 rfl (by kernel_rfl) (by rfl) ?_ ?_
 ·simp [Em,En,Eo,Ep]
 refine hK41 _ ?_
 refine zr [(2,.val (.ptr [i64 a0_0,dI a0_1])),(3,.val (.ptr [i64 a1_0,dI a1_1])),(6,.ref 6 [] true (dM s20.1)),(7,.val (i64 s20.2)),(8,.ref 8 [] true (dI v30.2)),(9,.val (.bool (ieq v43 0))),(10,.val (i64 (w64 (s35.2 + 1))))] ?_ ?_
 ·simp
 cases U
 exact ⟨_,rfl,Fits.of rfl⟩

theorem i_AreIsometric_ok {a0_0 : Int} {a0_1 : List Int} {a1_0 : Int} {a1_1 : List Int} {r : Bool × Int} (h : i_AreIsometric a0_0 a0_1 a1_0 a1_1 = some r) :
  VCall Try.prog 67 [.agg [i64 a0_0,dI a0_1],.agg [i64 a1_0,dI a1_1]] [.sc (.bool r.1),.sc (i64 r.2)] := by
 unfold i_AreIsometric at h
 refine VCall.enter Try.call67 Try.func67 rfl 17 Try.ntmps67 (by simp) [.tmp 4,.tmp 5] rfl ?_
 show VW _ _ _ (mk [(0,.val (.agg [i64 a0_0,dI a0_1])),(1,.val (.agg [i64 a1_0,dI a1_1]))]) _
 refine zs [(2,.val (.ptr [i64 a0_0,dI a0_1])),(3,.val (.ptr [i64 a1_0,dI a1_1]))] ?_ ?_
 ·simp
 refine VW.sqc fun K1 hK1 hCK1 => ?_
 obtain ⟨v2,B4,h⟩ := bind_some h
 refine VW.ws tau_ok (Sound.none.add 10 (i_checkSpaces_ok B4) rfl) _ [(2,.val (.ptr [i64 a0_0,dI a0_1])),(3,.val (.ptr [i64 a1_0,dI a1_1])),(6,.val (i64 v2))] rfl ?_ ?_
 ·simp
 refine zs [(2,.val (.ptr [i64 a0_0,dI a0_1])),(3,.val (.ptr [i64 a1_0,dI a1_1])),(6,.val (i64 v2)),(12,.val (.bool (!(ieq v2 0))))] ?_ ?_
 ·simp
 refine VW.cond rfl (fun Ar => ?_) (fun Ar => ?_)
 ·
  replace Ar : ¬ v2 = 0 := by simpa [ieq,ilt,ile] using Ar
  rw [if_pos Ar] at h
  refine zs [(4,.val (.bool false)),(5,.val (i64 v2))] ?_ ?_
  ·simp
  cases h
  refine VW.ret ?_
  simp [Post,PostM,PostC,PostC2,Nx,Bk]
 replace Ar : ¬ (¬ v2 = 0) := by simpa [ieq,ilt,ile] using Ar
 rw [if_neg Ar] at h
 refine VW.skip ?_
 refine hK1 _ ?_
 obtain ⟨v4,Ei,h⟩ := bind_some h
 refine VW.ws tau_ok (Sound.none.add 16 (i_isometric_ok Ei) rfl) _ [(4,.val (.bool v4)),(5,.val (i64 0))] rfl ?_ ?_
 ·simp
 cases h
 refine VW.ret ?_
 simp [Post,PostM,PostC,PostC2,Nx,Bk]

theorem s_AreIsometric_ok {a0_0 : Int} {a0_1 : List Int} {a1_0 : Int} {a1_1 : List Int} {r : Bool × Int} (h : s_AreIsometric a0_0 a0_1 a1_0 a1_1 = some r) :
  VCall Try.prog 68 [.agg [i64 a0_0,dI a0_1],.agg [i64 a1_0,dI a1_1]] [.sc (.bool r.1),.sc (i64 r.2)] := by
 unfold s_AreIsometric at h
 refine VCall.enter Try.call68 Try.func68 rfl 17 Try.ntmps68 (by simp) [.tmp 4,.tmp 5] rfl ?_
 show VW _ _ _ (mk [(0,.val (.agg [i64 a0_0,dI a0_1])),(1,.val (.agg [i64 a1_0,dI a1_1]))]) _
 refine zs [(2,.val (.ptr [i64 a0_0,dI a0_1])),(3,.val (.ptr [i64 a1_0,dI a1_1]))] ?_ ?_
 ·simp
 refine VW.sqc fun K1 hK1 hCK1 => ?_
 obtain ⟨x5,Ai,h⟩ := bind_some h
 refine VW.cut [(2,.val (.ptr [i64 a0_0,dI a0_1])),(3,.val (.ptr [i64 a1_0,dI a1_1])),(13,.val (.bool x5))] ?_ fun hy => ?_
 rotate_left
 ·clear h
  obtain ⟨v2,B4,Ai⟩ := bind_some Ai
  by_cases B1 : v2 = false
  ·rw [if_pos B1] at Ai
   have X : v2 = false := by simpa [ieq,ilt,ile] using B1
   have Y := X
   try simp at Y
   cases Ai
   refine VW.ws tau_ok (Sound.none.add 7 (s_l03Is_ok B4) rfl) _ _ rfl ?_ hy
   simp [X,Y]
  ·rw [if_neg B1] at Ai
   have X : v2 = true := by simpa [ieq,ilt,ile] using B1
   have Y := X
   try simp at Y
   obtain ⟨v4,Ei,Ai⟩ := bind_some Ai
   cases Ai
   refine VW.ws tau_ok ((Sound.none.add 7 (s_l03Is_ok B4) rfl).add 11 (s_l03Is_ok Ei) rfl) _ _ rfl ?_ hy
   simp [X,Y]
 refine VW.cond rfl (fun G => ?_) (fun G => ?_)
 ·
  replace G : x5 = true := by simpa [ieq,ilt,ile] using G
  rw [if_pos G] at h
  refine zs [(4,.val (.bool false)),(5,.val (i64 1))] ?_ ?_
  ·simp
  cases h
  refine VW.ret ?_
  simp [Post,PostM,PostC,PostC2,Nx,Bk]
 replace G : ¬ (x5 = true) := by simpa [ieq,ilt,ile] using G
 rw [if_neg G] at h
 refine VW.skip ?_
 refine hK1 _ ?_
 obtain ⟨v7,B5,h⟩ := bind_some h
 refine VW.ws tau_ok (Sound.none.add 16 (s_l03Isometric_ok B5) rfl) _ [(4,.val (.bool v7)),(5,.val (i64 0))] rfl ?_ ?_
 ·simp
 cases h
 refine VW.ret ?_
 simp [Post,PostM,PostC,PostC2,Nx,Bk]

theorem l_likeInts_ok {a0 : List Int} {a1 : List Int} {r : Bool} (h : l_likeInts a0 a1 = some r) :
  VCall Try.prog 39 [dI a0,dI a1] [.sc (.bool r)] := by
 unfold l_likeInts at h
 refine VCall.enter Try.call39 Try.func39 rfl 26 Try.ntmps39 (by simp) [.tmp 4] rfl ?_
 show VW _ _ _ (mk [(0,.val (dI a0)),(1,.val (dI a1))]) _
 refine zs [(0,.val (dI a0)),(1,.val (dI a1))] ?_ ?_
 ·simp
 refine VW.sqc fun K1 hK1 hCK1 => ?_
 refine zs [(0,.val (dI a0)),(1,.val (dI a1)),(10,.val (.bool (!(ieq (a0.length : Int) (a1.length : Int)))))] ?_ ?_
 ·simp
 refine VW.cond rfl (fun Aw => ?_) (fun Aw => ?_)
 ·
  replace Aw : ¬ (a0.length : Int) = (a1.length : Int) := by simpa [ieq,ilt,ile] using Aw
  rw [if_pos Aw] at h
  refine zs [(4,.val (.bool false))] ?_ ?_
  ·simp
  cases h
  refine VW.ret ?_
  simp [Post,PostM,PostC,PostC2,Nx,Bk]
 replace Aw : ¬ (¬ (a0.length : Int) = (a1.length : Int)) := by simpa [ieq,ilt,ile] using Aw
 rw [if_neg Aw] at h
 refine VW.skip ?_
 refine hK1 _ ?_
 refine VW.sqc fun K3 hK3 hCK3 => ?_
 refine zs [(0,.val (dI a0)),(1,.val (dI a1)),(5,.val (i64 0))] ?_ ?_
 ·simp
 obtain ⟨x4,Ct,h⟩ := bind_some h
 refine VW.tlO (fun y6 => []) x4 (hCK3) ?_ ?_
 ·clear Ct
  rintro y6 rfl
  dsimp only at h
  refine hK3 _ ?_
  refine zs [(4,.val (.bool true))] ?_ ?_
  ·simp
  cases h
  refine VW.ret ?_
  simp [Post,PostM,PostC,PostC2,Nx,Bk]
 refine VW.block ?_
 refine VW.loopF (l_likeInts_L0 a0 a1) (fun s4 => [(0,.val (dI a0)),(1,.val (dI a1)),(5,.val (i64 s4))]) Ct (Fits.of rfl) ?_
 clear Ct
 intro s4 ox4 B A9
 unfold l_likeInts_L0 at B
 refine VW.sqc fun K7 hK7 hCK7 => ?_
 refine zs [(0,.val (dI a0)),(1,.val (dI a1)),(5,.val (i64 s4)),(14,.val (.bool (ilt s4 (a0.length : Int))))] ?_ ?_
 ·simp
 refine VW.cond rfl (fun Ax => ?_) (fun Ax => ?_)
 rotate_left
 ·
  replace Ax : ¬ (s4 < (a0.length : Int)) := by simpa [ieq,ilt,ile] using Ax
  rw [if_neg Ax] at B
  refine VW.exit ?_
  cases B
  have hq := A9 _ rfl
  subst hq
  exact ⟨_,rfl,Fits.of rfl⟩
 replace Ax : s4 < (a0.length : Int) := by simpa [ieq,ilt,ile] using Ax
 rw [if_pos Ax] at B
 refine VW.skip ?_
 refine hK7 _ ?_
 refine VW.sqc fun K9 hK9 hCK9 => ?_
 refine VW.block ?_
 obtain ⟨v10,Ao,B⟩ := bind_some B
 obtain ⟨An,Ab,Ac,Ad⟩ := idx_some Ao
 obtain ⟨v11,Br,B⟩ := bind_some B
 obtain ⟨Aa,Q,R,S⟩ := idx_some Br
 refine VW.wds tau_ok Sound.none try_mixed _ [(0,.val (dI a0)),(1,.val (dI a1)),(5,.val (i64 s4)),(25,.val (.bool (!(ieq v10 v11))))] 9 rfl (by kernel_rfl) (by rfl) ?_ ?_
 ·simp [An,Ab,Ac,Ad,Aa,Q,R,S]
 refine VW.cond rfl (fun D => ?_) (fun D => ?_)
 rotate_left
 ·
  replace D : ¬ (¬ v10 = v11) := by simpa [ieq,ilt,ile] using D
  rw [if_neg D] at B
  refine VW.skip ?_
  refine hK9 _ ?_
  refine zr [(0,.val (dI a0)),(1,.val (dI a1)),(5,.val (i64 (w64 (s4 + 1))))] ?_ ?_
  ·simp
  cases B
  exact ⟨_,rfl,Fits.of rfl⟩
 replace D : ¬ v10 = v11 := by simpa [ieq,ilt,ile] using D
 rw [if_pos D] at B
 refine zs [(4,.val (.bool false))] ?_ ?_
 ·simp
 cases B
 have hq := A9 _ rfl
 subst hq
 dsimp only at h
 cases h
 refine VW.ret ?_
 simp [Post,PostM,PostC,PostC2,Nx,Bk]

theorem l_likeRows5_ok {a0 : List (List Int)} {a1 : List (List Int)} {r : Bool} (h : l_likeRows5 a0 a1 = some r) :
  VCall Try.prog 61 [dM a0,dM a1] [.sc (.bool r)] := by
 unfold l_likeRows5 at h
 refine VCall.enter Try.call61 Try.func61 rfl 27 Try.ntmps61 (by simp) [.tmp 4] rfl ?_
 show VW _ _ _ (mk [(0,.val (dM a0)),(1,.val (dM a1))]) _
 refine zs [(0,.val (dM a0)),(1,.val (dM a1))] ?_ ?_
 ·simp
 refine VW.sqc fun K1 hK1 hCK1 => ?_
 refine zs [(0,.val (dM a0)),(1,.val (dM a1)),(10,.val (.bool (!(ieq (a0.length : Int) (a1.length : Int)))))] ?_ ?_
 ·simp
 refine VW.cond rfl (fun Aw => ?_) (fun Aw => ?_)
 ·
  replace Aw : ¬ (a0.length : Int) = (a1.length : Int) := by simpa [ieq,ilt,ile] using Aw
  rw [if_pos Aw] at h
  refine zs [(4,.val (.bool false))] ?_ ?_
  ·simp
  cases h
  refine VW.ret ?_
  simp [Post,PostM,PostC,PostC2,Nx,Bk]
 replace Aw : ¬ (¬ (a0.length : Int) = (a1.length : Int)) := by simpa [ieq,ilt,ile] using Aw
 rw [if_neg Aw] at h
 refine VW.skip ?_
 refine hK1 _ ?_
 refine VW.sqc fun K3 hK3 hCK3 => ?_
 refine zs [(0,.val (dM a0)),(1,.val (dM a1)),(5,.val (i64 0))] ?_ ?_
 ·simp
 obtain ⟨x4,Ct,h⟩ := bind_some h
 refine VW.tlO (fun y6 => []) x4 (hCK3) ?_ ?_
 ·clear Ct
  rintro y6 rfl
  dsimp only at h
  refine hK3 _ ?_
  refine zs [(4,.val (.bool true))] ?_ ?_
  ·simp
  cases h
  refine VW.ret ?_
  simp [Post,PostM,PostC,PostC2,Nx,Bk]
 refine VW.block ?_
 refine VW.loopF (l_likeRows5_L0 a0 a1) (fun s4 => [(0,.val (dM a0)),(1,.val (dM a1)),(5,.val (i64 s4))]) Ct (Fits.of rfl) ?_
 clear Ct
 intro s4 ox4 B A9
 unfold l_likeRows5_L0 at B
 refine VW.sqc fun K7 hK7 hCK7 => ?_
 refine zs [(0,.val (dM a0)),(1,.val (dM a1)),(5,.val (i64 s4)),(14,.val (.bool (ilt s4 (a0.length : Int))))] ?_ ?_
 ·simp
 refine VW.cond rfl (fun Ax => ?_) (fun Ax => ?_)
 rotate_left
 ·
  replace Ax : ¬ (s4 < (a0.length : Int)) := by simpa [ieq,ilt,ile] using Ax
  rw [if_neg Ax] at B
  refine VW.exit ?_
  cases B
  have hq := A9 _ rfl
  subst hq
  exact ⟨_,rfl,Fits.of rfl⟩
 replace Ax : s4 < (a0.length : Int) := by simpa [ieq,ilt,ile] using Ax
 rw [if_pos Ax] at B
 refine VW.skip ?_
 refine hK7 _ ?_
 refine VW.sqc fun K9 hK9 hCK9 => ?_
 refine VW.block ?_
 obtain ⟨v10,Ao,B⟩ := bind_some B
 obtain ⟨An,Ab,Ac,Ad⟩ := idx_some Ao
 obtain ⟨v11,Br,B⟩ := bind_some B
 obtain ⟨Aa,Q,R,S⟩ := idx_some Br
 obtain ⟨v12,Dr,B⟩ := bind_some B
 refine VW.wds tau_ok (Sound.none.add 25 (l_likeInts_ok Dr) rfl) try_mixed _ [(0,.val (dM a0)),(1,.val (dM a1)),(5,.val (i64 s4)),(26,.val (.bool (!v12)))] 10 rfl (by kernel_rfl) (by rfl) ?_ ?_
 ·simp [An,Ab,Ac,Ad,Aa,Q,R,S]
 refine VW.cond rfl (fun Ag => ?_) (fun Ag => ?_)
 rotate_left
 ·
  replace Ag : ¬ (v12 = false) := by simpa [ieq,ilt,ile] using Ag
  rw [if_neg Ag] at B
  refine VW.skip ?_
  refine hK9 _ ?_
  refine zr [(0,.val (dM a0)),(1,.val (dM a1)),(5,.val (i64 (w64 (s4 + 1))))] ?_ ?_
  ·simp
  cases B
  exact ⟨_,rfl,Fits.of rfl⟩
 replace Ag : v12 = false := by simpa [ieq,ilt,ile] using Ag
 rw [if_pos Ag] at B
 refine zs [(4,.val (.bool false))] ?_ ?_
 ·simp
 cases B
 have hq := A9 _ rfl
 subst hq
 dsimp only at h
 cases h
 refine VW.ret ?_
 simp [Post,PostM,PostC,PostC2,Nx,Bk]

theorem i_CountVectors_ok {a0_0 : Int} {a0_1 : List Int} {a1 : Int} {r : Int × Int} (h : i_CountVectors a0_0 a0_1 a1 = some r) :
  VCall Try.prog 69 [.agg [i64 a0_0,dI a0_1],i64 a1] [.sc (i64 r.1),.sc (i64 r.2)] := by
 unfold i_CountVectors at h
 refine VCall.enter Try.call69 Try.func69 rfl 73 Try.ntmps69 (by simp) [.tmp 4,.tmp 5] rfl ?_
 show VW _ _ _ (mk [(0,.val (.agg [i64 a0_0,dI a0_1])),(1,.val (i64 a1))]) _
 refine zs [(1,.val (i64 a1)),(2,.val (.ptr [i64 a0_0,dI a0_1]))] ?_ ?_
 ·simp
 refine VW.sqc fun K1 hK1 hCK1 => ?_
 obtain ⟨v2,B4,h⟩ := bind_some h
 refine VW.ws tau_ok (Sound.none.add 14 (i_IsSpace_ok B4) rfl) _ [(1,.val (i64 a1)),(2,.val (.ptr [i64 a0_0,dI a0_1])),(15,.val (.bool (!v2)))] rfl ?_ ?_
 ·simp
 refine VW.cond rfl (fun Ar => ?_) (fun Ar => ?_)
 ·
  replace Ar : v2 = false := by simpa [ieq,ilt,ile] using Ar
  rw [if_pos Ar] at h
  refine zs [(4,.val (i64 0)),(5,.val (i64 1))] ?_ ?_
  ·simp
  cases h
  refine VW.ret ?_
  simp [Post,PostM,PostC,PostC2,Nx,Bk]
 replace Ar : ¬ (v2 = false) := by simpa [ieq,ilt,ile] using Ar
 rw [if_neg Ar] at h
 refine VW.skip ?_
 refine hK1 _ ?_
 refine VW.sqc fun K4 hK4 hCK4 => ?_
 obtain ⟨v5,C3,h⟩ := bind_some h
 obtain ⟨v6,Gs,h⟩ := bind_some h
 refine VW.ws tau_ok ((Sound.none.add 17 (i_Space_field_ok C3) rfl).add 20 (i_field_is_ok Gs) rfl) _ [(1,.val (i64 a1)),(2,.val (.ptr [i64 a0_0,dI a0_1])),(21,.val (.bool (!v6)))] rfl ?_ ?_
 ·simp
 refine VW.cond rfl (fun Bw => ?_) (fun Bw => ?_)
 ·
  replace Bw : v6 = false := by simpa [ieq,ilt,ile] using Bw
  rw [if_pos Bw] at h
  refine zs [(4,.val (i64 0)),(5,.val (i64 2))] ?_ ?_
  ·simp
  cases h
  refine VW.ret ?_
  simp [Post,PostM,PostC,PostC2,Nx,Bk]
 replace Bw : ¬ (v6 = false) := by simpa [ieq,ilt,ile] using Bw
 rw [if_neg Bw] at h
 refine VW.skip ?_
 refine hK4 _ ?_
 obtain ⟨C4,h⟩ := chk_some h
 have A2 := C4
 try simp at A2
 refine zs [(1,.val (i64 a1)),(2,.val (.ptr [i64 a0_0,dI a0_1])),(6,.ref 6 [] true (dI (List.replicate a0_0.toNat 0)))] ?_ ?_
 ·simp [C4,A2]
 obtain ⟨l9,Gt,h⟩ := bind_some h
 rw [Option.some.inj Gt]
 obtain ⟨v10,Ao,h⟩ := bind_some h
 obtain ⟨An,Ab,Ac,Ad⟩ := idx_some Ao
 replace Ab : 0 < l9.length := Ab
 replace Ac : l9[0]? = some v10 := Ac
 replace Ad : ∀ h,l9[0]'h = v10 := Ad
 refine zs [(1,.val (i64 a1)),(2,.val (.ptr [i64 a0_0,dI a0_1])),(6,.ref 6 [] true (dI (l9.set 0 1)))] ?_ ?_
 ·simp [An,Ab,Ac,Ad]
 refine VW.sqc fun K11 hK11 hCK11 => ?_
 refine zs [(1,.val (i64 a1)),(2,.val (.ptr [i64 a0_0,dI a0_1])),(6,.ref 6 [] true (dI (l9.set 0 1))),(28,.val (dI a0_1)),(29,.val (i64 (a0_1.length : Int))),(30,.val (i64 0))] ?_ ?_
 ·simp
 obtain ⟨x12,D5,h⟩ := bind_some h
 refine VW.tlE [(1,.val (i64 a1)),(6,.ref 6 [] true (dI x12))] (hCK11) ?_ ?_
 ·clear D5
  refine hK11 _ ?_
  obtain ⟨v34,Gd,h⟩ := bind_some h
  obtain ⟨Eq,Er,Es,Et⟩ := idx_some Gd
  refine zs [(4,.val (i64 v34)),(5,.val (i64 0))] ?_ ?_
  ·simp [Eq,Er,Es,Et]
  cases h
  refine VW.ret ?_
  simp [Post,PostM,PostC,PostC2,Nx,Bk]
 refine VW.block ?_
 refine VW.loopF (i_CountVectors_L0 a0_0 a0_1) (fun s12 => [(1,.val (i64 a1)),(2,.val (.ptr [i64 a0_0,dI a0_1])),(6,.ref 6 [] true (dI s12.1)),(28,.val (dI a0_1)),(29,.val (i64 (a0_1.length : Int))),(30,.val (i64 s12.2))]) D5 (Fits.of rfl) ?_
 clear D5
 intro s12 ox12 Ae Eu
 unfold i_CountVectors_L0 at Ae
 refine zs [(1,.val (i64 a1)),(2,.val (.ptr [i64 a0_0,dI a0_1])),(6,.ref 6 [] true (dI s12.1)),(28,.val (dI a0_1)),(29,.val (i64 (a0_1.length : Int))),(30,.val (i64 s12.2)),(31,.val (.bool (ilt s12.2 (a0_1.length : Int))))] ?_ ?_
 ·simp
 refine VW.sqc fun K14 hK14 hCK14 => ?_
 refine VW.cond rfl (fun Ak => ?_) (fun Ak => ?_)
 rotate_left
 ·
  replace Ak : ¬ (s12.2 < (a0_1.length : Int)) := by simpa [ieq,ilt,ile] using Ak
  rw [if_neg Ak] at Ae
  refine VW.exit ?_
  cases Ae
  have hq := Eu _ rfl
  subst hq
  exact Fits.of rfl
 replace Ak : s12.2 < (a0_1.length : Int) := by simpa [ieq,ilt,ile] using Ak
 rw [if_pos Ak] at Ae
 refine VW.skip ?_
 refine hK14 _ ?_
 refine VW.sqc fun K16 hK16 hCK16 => ?_
 refine VW.block ?_
 obtain ⟨v17,Dz,Ae⟩ := bind_some Ae
 obtain ⟨Ev,Ew,Ex,Ey⟩ := idx_some Dz
 refine zs [(1,.val (i64 a1)),(2,.val (.ptr [i64 a0_0,dI a0_1])),(6,.ref 6 [] true (dI s12.1)),(8,.val (i64 v17)),(28,.val (dI a0_1)),(29,.val (i64 (a0_1.length : Int))),(30,.val (i64 s12.2))] ?_ ?_
 ·simp [Ev,Ew,Ex,Ey]
 obtain ⟨Ez,Ae⟩ := chk_some Ae
 have Dj := Ez
 try simp at Dj
 refine zs [(1,.val (i64 a1)),(2,.val (.ptr [i64 a0_0,dI a0_1])),(6,.ref 6 [] true (dI s12.1)),(8,.val (i64 v17)),(9,.ref 9 [] true (dI (List.replicate a0_0.toNat 0))),(28,.val (dI a0_1)),(29,.val (i64 (a0_1.length : Int))),(30,.val (i64 s12.2))] ?_ ?_
 ·simp [Ez,Dj]
 refine VW.sqc fun K19 hK19 hCK19 => ?_
 refine zs [(1,.val (i64 a1)),(2,.val (.ptr [i64 a0_0,dI a0_1])),(8,.val (i64 v17)),(9,.ref 9 [] true (dI (List.replicate a0_0.toNat 0))),(28,.val (dI a0_1)),(29,.val (i64 (a0_1.length : Int))),(30,.val (i64 s12.2)),(37,.ref 6 [] true (dI s12.1)),(38,.val (i64 (s12.1.length : Int))),(39,.val (i64 0))] ?_ ?_
 ·simp
 obtain ⟨x20,Bs,Ae⟩ := bind_some Ae
 refine VW.tlE [(1,.val (i64 a1)),(2,.val (.ptr [i64 a0_0,dI a0_1])),(9,.ref 9 [] true (dI x20)),(28,.val (dI a0_1)),(29,.val (i64 (a0_1.length : Int))),(30,.val (i64 s12.2))] (hCK19) ?_ ?_
 ·clear Bs
  refine hK19 _ ?_
  refine zr [(1,.val (i64 a1)),(2,.val (.ptr [i64 a0_0,dI a0_1])),(6,.ref 6 [] true (dI x20)),(28,.val (dI a0_1)),(29,.val (i64 (a0_1.length : Int))),(30,.val (i64 s12.2))] ?_ ?_
  ·simp
  refine hK16 _ ?_
  refine zr [(1,.val (i64 a1)),(2,.val (.ptr [i64 a0_0,dI a0_1])),(6,.ref 6 [] true (dI x20)),(28,.val (dI a0_1)),(29,.val (i64 (a0_1.length : Int))),(30,.val (i64 (w64 (s12.2 + 1))))] ?_ ?_
  ·simp
  cases Ae
  exact ⟨_,rfl,Fits.of rfl⟩
 refine VW.block ?_
 refine VW.loopF (i_CountVectors_L1 a0_0 a0_1 s12 v17) (fun s20 => [(1,.val (i64 a1)),(2,.val (.ptr [i64 a0_0,dI a0_1])),(8,.val (i64 v17)),(9,.ref 9 [] true (dI s20.1)),(28,.val (dI a0_1)),(29,.val (i64 (a0_1.length : Int))),(30,.val (i64 s12.2)),(37,.ref 6 [] true (dI s12.1)),(38,.val (i64 (s12.1.length : Int))),(39,.val (i64 s20.2))]) Bs (Fits.of rfl) ?_
 clear Bs
 intro s20 ox20 C Co
 unfold i_CountVectors_L1 at C
 refine zs [(1,.val (i64 a1)),(2,.val (.ptr [i64 a0_0,dI a0_1])),(8,.val (i64 v17)),(9,.ref 9 [] true (dI s20.1)),(28,.val (dI a0_1)),(29,.val (i64 (a0_1.length : Int))),(30,.val (i64 s12.2)),(37,.ref 6 [] true (dI s12.1)),(38,.val (i64 (s12.1.length : Int))),(39,.val (i64 s20.2)),(40,.val (.bool (ilt s20.2 (s12.1.length : Int))))] ?_ ?_
 ·simp
 refine VW.sqc fun K22 hK22 hCK22 => ?_
 refine VW.cond rfl (fun I => ?_) (fun I => ?_)
 rotate_left
 ·
  replace I : ¬ (s20.2 < (s12.1.length : Int)) := by simpa [ieq,ilt,ile] using I
  rw [if_neg I] at C
  refine VW.exit ?_
  cases C
  have hq := Co _ rfl
  subst hq
  exact Fits.of rfl
 replace I : s20.2 < (s12.1.length : Int) := by simpa [ieq,ilt,ile] using I
 rw [if_pos I] at C
 refine VW.skip ?_
 refine hK22 _ ?_
 refine VW.sqc fun K24 hK24 hCK24 => ?_
 refine VW.block ?_
 obtain ⟨v25,D6,C⟩ := bind_some C
 obtain ⟨B2,B3,Cu,Cv⟩ := idx_some D6
 refine zs [(1,.val (i64 a1)),(2,.val (.ptr [i64 a0_0,dI a0_1])),(8,.val (i64 v17)),(9,.ref 9 [] true (dI s20.1)),(10,.val (i64 s20.2)),(11,.val (i64 v25)),(28,.val (dI a0_1)),(29,.val (i64 (a0_1.length : Int))),(30,.val (i64 s12.2)),(37,.ref 6 [] true (dI s12.1)),(38,.val (i64 (s12.1.length : Int))),(39,.val (i64 s20.2))] ?_ ?_
 ·simp [B2,B3,Cu,Cv]
 refine zs [(1,.val (i64 a1)),(2,.val (.ptr [i64 a0_0,dI a0_1])),(8,.val (i64 v17)),(9,.ref 9 [] true (dI s20.1)),(10,.val (i64 s20.2)),(11,.val (i64 v25)),(28,.val (dI a0_1)),(29,.val (i64 (a0_1.length : Int))),(30,.val (i64 s12.2)),(37,.ref 6 [] true (dI s12.1)),(38,.val (i64 (s12.1.length : Int))),(39,.val (i64 s20.2)),(45,.val (i64 a0_0)),(46,.val (i64 0))] ?_ ?_
 ·simp
 obtain ⟨x26,D7,C⟩ := bind_some C
 refine VW.tlE [(1,.val (i64 a1)),(2,.val (.ptr [i64 a0_0,dI a0_1])),(8,.val (i64 v17)),(9,.ref 9 [] true (dI x26)),(28,.val (dI a0_1)),(29,.val (i64 (a0_1.length : Int))),(30,.val (i64 s12.2)),(37,.ref 6 [] true (dI s12.1)),(38,.val (i64 (s12.1.length : Int))),(39,.val (i64 s20.2))] (hCK24) ?_ ?_
 ·clear D7
  refine hK24 _ ?_
  refine zr [(1,.val (i64 a1)),(2,.val (.ptr [i64 a0_0,dI a0_1])),(8,.val (i64 v17)),(9,.ref 9 [] true (dI x26)),(28,.val (dI a0_1)),(29,.val (i64 (a0_1.length : Int))),(30,.val (i64 s12.2)),(37,.ref 6 [] true (dI s12.1)),(38,.val (i64 (s12.1.length : Int))),(39,.val (i64 (w64 (s20.2 + 1))))] ?_ ?_
  ·simp
  cases C
  exact ⟨_,rfl,Fits.of rfl⟩
 refine VW.block ?_
 refine VW.loopF (i_CountVectors_L2 a0_0 a0_1 v17 s20 v25) (fun s26 => [(1,.val (i64 a1)),(2,.val (.ptr [i64 a0_0,dI a0_1])),(8,.val (i64 v17)),(9,.ref 9 [] true (dI s26.1)),(10,.val (i64 s20.2)),(11,.val (i64 v25)),(28,.val (dI a0_1)),(29,.val (i64 (a0_1.length : Int))),(30,.val (i64 s12.2)),(37,.ref 6 [] true (dI s12.1)),(38,.val (i64 (s12.1.length : Int))),(39,.val (i64 s20.2)),(45,.val (i64 a0_0)),(46,.val (i64 s26.2))]) D7 (Fits.of rfl) ?_
 clear D7
 intro s26 ox26 Af E0
 unfold i_CountVectors_L2 at Af
 refine zs [(1,.val (i64 a1)),(2,.val (.ptr [i64 a0_0,dI a0_1])),(8,.val (i64 v17)),(9,.ref 9 [] true (dI s26.1)),(10,.val (i64 s20.2)),(11,.val (i64 v25)),(28,.val (dI a0_1)),(29,.val (i64 (a0_1.length : Int))),(30,.val (i64 s12.2)),(37,.ref 6 [] true (dI s12.1)),(38,.val (i64 (s12.1.length : Int))),(39,.val (i64 s20.2)),(45,.val (i64 a0_0)),(46,.val (i64 s26.2)),(47,.val (.bool (ilt s26.2 a0_0)))] ?_ ?_
 ·simp
 refine VW.sqc fun K28 hK28 hCK28 => ?_
 refine VW.cond rfl (fun Bx => ?_) (fun Bx => ?_)
 rotate_left
 ·
  replace Bx : ¬ (s26.2 < a0_0) := by simpa [ieq,ilt,ile] using Bx
  rw [if_neg Bx] at Af
  refine VW.exit ?_
  cases Af
  have hq := E0 _ rfl
  subst hq
  exact Fits.of rfl
 replace Bx : s26.2 < a0_0 := by simpa [ieq,ilt,ile] using Bx
 rw [if_pos Bx] at Af
 refine VW.skip ?_
 refine hK28 _ ?_
 refine VW.sqc fun K30 hK30 hCK30 => ?_
 refine VW.block ?_
 refine zs [(1,.val (i64 a1)),(2,.val (.ptr [i64 a0_0,dI a0_1])),(8,.val (i64 v17)),(9,.ref 9 [] true (dI s26.1)),(10,.val (i64 s20.2)),(11,.val (i64 v25)),(12,.val (i64 s26.2)),(28,.val (dI a0_1)),(29,.val (i64 (a0_1.length : Int))),(30,.val (i64 s12.2)),(37,.ref 6 [] true (dI s12.1)),(38,.val (i64 (s12.1.length : Int))),(39,.val (i64 s20.2)),(45,.val (i64 a0_0)),(46,.val (i64 s26.2))] ?_ ?_
 ·simp
 obtain ⟨v31,Ge,Af⟩ := bind_some Af
 obtain ⟨v32,D2,Af⟩ := bind_some Af
 obtain ⟨v33,D3,Af⟩ := bind_some Af
 obtain ⟨Cp,Cq,Cr,Cs⟩ := idx_some D3
 refine VW.wr tau_ok ((Sound.none.add 51 (i_Space_field_ok Ge) rfl).add 59 (i_field_num_ok D2) rfl) _ [(1,.val (i64 a1)),(2,.val (.ptr [i64 a0_0,dI a0_1])),(8,.val (i64 v17)),(9,.ref 9 [] true (dI (s26.1.set v32.toNat (w64 (v33 + v25))))),(10,.val (i64 s20.2)),(11,.val (i64 v25)),(28,.val (dI a0_1)),(29,.val (i64 (a0_1.length : Int))),(30,.val (i64 s12.2)),(37,.ref 6 [] true (dI s12.1)),(38,.val (i64 (s12.1.length : Int))),(39,.val (i64 s20.2)),(45,.val (i64 a0_0)),(46,.val (i64 s26.2))] rfl ?_ ?_
 ·simp [Cp,Cq,Cr,Cs]
 refine hK30 _ ?_
 refine zr [(1,.val (i64 a1)),(2,.val (.ptr [i64 a0_0,dI a0_1])),(8,.val (i64 v17)),(9,.ref 9 [] true (dI (s26.1.set v32.toNat (w64 (v33 + v25))))),(10,.val (i64 s20.2)),(11,.val (i64 v25)),(28,.val (dI a0_1)),(29,.val (i64 (a0_1.length : Int))),(30,.val (i64 s12.2)),(37,.ref 6 [] true (dI s12.1)),(38,.val (i64 (s12.1.length : Int))),(39,.val (i64 s20.2)),(45,.val (i64 a0_0)),(46,.val (i64 (w64 (s26.2 + 1))))] ?_ ?_
 ·simp
 cases Af
 exact ⟨_,rfl,Fits.of rfl⟩

theorem i_field_isTable_ok {a0 : Int} {a1 : List (List Int)} {r : Bool} (h : i_field_isTable a0 a1 = some r) :
  VCall Try.prog 231 [i64 a0,dM a1] [.sc (.bool r)] := by
 unfold i_field_isTable at h
 refine VCall.enter Try.call231 Try.func231 rfl 40 Try.ntmps231 (by simp) [.tmp 4] rfl ?_
 show VW _ _ _ (mk [(0,.val (i64 a0)),(1,.val (dM a1))]) _
 refine zs [(0,.val (i64 a0)),(1,.val (dM a1))] ?_ ?_
 ·simp
 refine VW.sqc fun K1 hK1 hCK1 => ?_
 refine zs [(0,.val (i64 a0)),(1,.val (dM a1)),(9,.val (.bool (ilt 16 (a1.length : Int))))] ?_ ?_
 ·simp
 refine VW.cond rfl (fun Aw => ?_) (fun Aw => ?_)
 ·
  replace Aw : 16 < (a1.length : Int) := by simpa [ieq,ilt,ile] using Aw
  rw [if_pos Aw] at h
  refine zs [(4,.val (.bool false))] ?_ ?_
  ·simp
  cases h
  refine VW.ret ?_
  simp [Post,PostM,PostC,PostC2,Nx,Bk]
 replace Aw : ¬ (16 < (a1.length : Int)) := by simpa [ieq,ilt,ile] using Aw
 rw [if_neg Aw] at h
 refine VW.skip ?_
 refine hK1 _ ?_
 refine VW.sqc fun K3 hK3 hCK3 => ?_
 refine zs [(0,.val (i64 a0)),(1,.val (dM a1)),(10,.val (dM a1)),(11,.val (i64 (a1.length : Int))),(12,.val (i64 0))] ?_ ?_
 ·simp
 obtain ⟨x4,Ct,h⟩ := bind_some h
 refine VW.tlO (fun y6 => []) x4 (hCK3) ?_ ?_
 ·clear Ct
  rintro y6 rfl
  dsimp only at h
  refine hK3 _ ?_
  refine zs [(4,.val (.bool true))] ?_ ?_
  ·simp
  cases h
  refine VW.ret ?_
  simp [Post,PostM,PostC,PostC2,Nx,Bk]
 refine VW.block ?_
 refine VW.loopF (i_field_isTable_L0 a0 a1) (fun s4 => [(0,.val (i64 a0)),(1,.val (dM a1)),(10,.val (dM a1)),(11,.val (i64 (a1.length : Int))),(12,.val (i64 s4))]) Ct (Fits.of rfl) ?_
 clear Ct
 intro s4 ox4 B A9
 unfold i_field_isTable_L0 at B
 refine zs [(0,.val (i64 a0)),(1,.val (dM a1)),(10,.val (dM a1)),(11,.val (i64 (a1.length : Int))),(12,.val (i64 s4)),(13,.val (.bool (ilt s4 (a1.length : Int))))] ?_ ?_
 ·simp
 refine VW.sqc fun K7 hK7 hCK7 => ?_
 refine VW.cond rfl (fun Ax => ?_) (fun Ax => ?_)
 rotate_left
 ·
  replace Ax : ¬ (s4 < (a1.length : Int)) := by simpa [ieq,ilt,ile] using Ax
  rw [if_neg Ax] at B
  refine VW.exit ?_
  cases B
  have hq := A9 _ rfl
  subst hq
  exact ⟨_,rfl,Fits.of rfl⟩
 replace Ax : s4 < (a1.length : Int) := by simpa [ieq,ilt,ile] using Ax
 rw [if_pos Ax] at B
 refine VW.skip ?_
 refine hK7 _ ?_
 refine VW.sqc fun K9 hK9 hCK9 => ?_
 refine VW.block ?_
 obtain ⟨v10,Ao,B⟩ := bind_some B
 obtain ⟨An,Ab,Ac,Ad⟩ := idx_some Ao
 refine zs [(0,.val (i64 a0)),(1,.val (dM a1)),(6,.val (dI v10)),(10,.val (dM a1)),(11,.val (i64 (a1.length : Int))),(12,.val (i64 s4))] ?_ ?_
 ·simp [An,Ab,Ac,Ad]
 obtain ⟨x16,J,B⟩ := bind_some B
 refine VW.cut [(0,.val (i64 a0)),(1,.val (dM a1)),(10,.val (dM a1)),(11,.val (i64 (a1.length : Int))),(12,.val (i64 s4)),(38,.val (.bool x16))] ?_ fun hy => ?_
 rotate_left
 ·clear B
  obtain ⟨v11,Br,J⟩ := bind_some J
  obtain ⟨Aa,Q,R,S⟩ := idx_some Br
  replace Q : 0 < a1.length := Q
  replace R : a1[0]? = some v11 := R
  replace S : ∀ h,a1[0]'h = v11 := S
  by_cases C0 : ¬ (v10.length : Int) = (v11.length : Int)
  ·rw [if_pos C0] at J
   have Ay : ieq (v10.length : Int) (v11.length : Int) = false := by simpa [ieq,ilt,ile] using C0
   have Az := Ay
   try simp at Az
   cases J
   refine VW.ws tau_ok Sound.none _ _ rfl ?_ hy
   simp [Aa,Q,R,S,Ay,Az]
  ·rw [if_neg C0] at J
   have Ay : ieq (v10.length : Int) (v11.length : Int) = true := by simpa [ieq,ilt,ile] using C0
   have Az := Ay
   try simp at Az
   by_cases A0 : (v10.length : Int) < 1
   ·rw [if_pos A0] at J
    have V : ilt (v10.length : Int) 1 = true := by simpa [ieq,ilt,ile] using A0
    have W := V
    try simp at W
    cases J
    refine VW.ws tau_ok Sound.none _ _ rfl ?_ hy
    simp [Aa,Q,R,S,Ay,Az,V,W]
   ·rw [if_neg A0] at J
    have V : ilt (v10.length : Int) 1 = false := by simpa [ieq,ilt,ile] using A0
    have W := V
    try simp at W
    by_cases C1 : 16 < (v10.length : Int)
    ·rw [if_pos C1] at J
     have Ba : ilt 16 (v10.length : Int) = true := by simpa [ieq,ilt,ile] using C1
     have Bb := Ba
     try simp at Bb
     cases J
     refine VW.ws tau_ok Sound.none _ _ rfl ?_ hy
     simp [Aa,Q,R,S,Ay,Az,V,W,Ba,Bb]
    ·rw [if_neg C1] at J
     have Ba : ilt 16 (v10.length : Int) = false := by simpa [ieq,ilt,ile] using C1
     have Bb := Ba
     try simp at Bb
     obtain ⟨v15,Ch,J⟩ := bind_some J
     cases J
     refine VW.ws tau_ok (Sound.none.add 36 (i_field_is_ok Ch) rfl) _ _ rfl ?_ hy
     simp [Aa,Q,R,S,Ay,Az,V,W,Ba,Bb]
 refine VW.cond rfl (fun Al => ?_) (fun Al => ?_)
 rotate_left
 ·
  replace Al : ¬ (x16 = true) := by simpa [ieq,ilt,ile] using Al
  rw [if_neg Al] at B
  refine VW.skip ?_
  refine hK9 _ ?_
  refine zr [(0,.val (i64 a0)),(1,.val (dM a1)),(10,.val (dM a1)),(11,.val (i64 (a1.length : Int))),(12,.val (i64 (w64 (s4 + 1))))] ?_ ?_
  ·simp
  cases B
  exact ⟨_,rfl,Fits.of rfl⟩
 replace Al : x16 = true := by simpa [ieq,ilt,ile] using Al
 rw [if_pos Al] at B
 refine zs [(4,.val (.bool false))] ?_ ?_
 ·simp
 cases B
 have hq := A9 _ rfl
 subst hq
 dsimp only at h
 cases h
 refine VW.ret ?_
 simp [Post,PostM,PostC,PostC2,Nx,Bk]

theorem i_field_isMatrix_ok {a0 : Int} {a1 : List (List Int)} {r : Bool} (h : i_field_isMatrix a0 a1 = some r) :
  VCall Try.prog 209 [i64 a0,dM a1] [.sc (.bool r)] := by
 unfold i_field_isMatrix at h
 refine VCall.enter Try.call209 Try.func209 rfl 13 Try.ntmps209 (by simp) [.tmp 4] rfl ?_
 show VW _ _ _ (mk [(0,.val (i64 a0)),(1,.val (dM a1))]) _
 refine zs [(0,.val (i64 a0)),(1,.val (dM a1))] ?_ ?_
 ·simp
 obtain ⟨x3,Bn,h⟩ := bind_some h
 refine VW.cut [(4,.val (.bool x3))] ?_ fun hy => ?_
 rotate_left
 ·clear h
  by_cases Bz : 0 < (a1.length : Int)
  ·rw [if_pos Bz] at Bn
   have M : ilt 0 (a1.length : Int) = true := by simpa [ieq,ilt,ile] using Bz
   have N := M
   try simp at N
   obtain ⟨v2,B4,Bn⟩ := bind_some Bn
   cases Bn
   refine VW.ws tau_ok (Sound.none.add 11 (i_field_isTable_ok B4) rfl) _ _ rfl ?_ hy
   simp [M,N]
  ·rw [if_neg Bz] at Bn
   have M : ilt 0 (a1.length : Int) = false := by simpa [ieq,ilt,ile] using Bz
   have N := M
   try simp at N
   cases Bn
   refine VW.ws tau_ok Sound.none _ _ rfl ?_ hy
   simp [M,N]
 cases h
 refine VW.ret ?_
 simp [Post,PostM,PostC,PostC2,Nx,Bk]

theorem i_cloneRows_ok {a0 : List (List Int)} {r : List (List Int)} (h : i_cloneRows a0 = some r) :
  VCall Try.prog 185 [dM a0] [.own true (dM r)] := by
 unfold i_cloneRows at h
 refine VCall.enter Try.call185 Try.func185 rfl 20 Try.ntmps185 (by simp) [.tmp 2] rfl ?_
 show VW _ _ _ (mk [(0,.val (dM a0))]) _
 refine zs [(0,.val (dM a0))] ?_ ?_
 ·simp
 refine zs [(0,.val (dM a0)),(3,.ref 3 [] true (dM []))] ?_ ?_
 ·simp
 refine VW.sqc fun K1 hK1 hCK1 => ?_
 refine zs [(3,.ref 3 [] true (dM [])),(7,.val (dM a0)),(8,.val (i64 (a0.length : Int))),(9,.val (i64 0))] ?_ ?_
 ·simp
 obtain ⟨x2,L,h⟩ := bind_some h
 refine VW.tlE [(3,.ref 3 [] true (dM x2))] (hCK1) ?_ ?_
 ·clear L
  refine hK1 _ ?_
  refine zs [(2,.ref 2 [] true (dM x2))] ?_ ?_
  ·simp
  cases h
  refine VW.ret ?_
  simp [Post,PostM,PostC,PostC2,Nx,Bk]
 refine VW.block ?_
 refine VW.loopF (i_cloneRows_L0 a0) (fun s2 => [(3,.ref 3 [] true (dM s2.1)),(7,.val (dM a0)),(8,.val (i64 (a0.length : Int))),(9,.val (i64 s2.2))]) L (Fits.of rfl) ?_
 clear L
 intro s2 ox2 A K
 unfold i_cloneRows_L0 at A
 refine zs [(3,.ref 3 [] true (dM s2.1)),(7,.val (dM a0)),(8,.val (i64 (a0.length : Int))),(9,.val (i64 s2.2)),(10,.val (.bool (ilt s2.2 (a0.length : Int))))] ?_ ?_
 ·simp
 refine VW.sqc fun K4 hK4 hCK4 => ?_
 refine VW.cond rfl (fun H => ?_) (fun H => ?_)
 rotate_left
 ·
  replace H : ¬ (s2.2 < (a0.length : Int)) := by simpa [ieq,ilt,ile] using H
  rw [if_neg H] at A
  refine VW.exit ?_
  cases A
  have hq := K _ rfl
  subst hq
  exact Fits.of rfl
 replace H : s2.2 < (a0.length : Int) := by simpa [ieq,ilt,ile] using H
 rw [if_pos H] at A
 refine VW.skip ?_
 refine hK4 _ ?_
 refine VW.sqc fun K6 hK6 hCK6 => ?_
 refine VW.block ?_
 obtain ⟨v7,B5,A⟩ := bind_some A
 obtain ⟨Bi,Bj,Bl,Bm⟩ := idx_some B5
 refine zs [(3,.ref 3 [] true (dM s2.1)),(5,.val (dI v7)),(7,.val (dM a0)),(8,.val (i64 (a0.length : Int))),(9,.val (i64 s2.2))] ?_ ?_
 ·simp [Bi,Bj,Bl,Bm]
 obtain ⟨v8,B7,A⟩ := bind_some A
 obtain ⟨Ef,A⟩ := chk_some A
 have Cb := Ef
 try simp at Cb
 refine VW.wr tau_ok (Sound.none.add 15 (g_slices_Clone_LI_I_ok B7) rfl) _ [(3,.ref 3 [] true (dM (s2.1 ++ [v8]))),(7,.val (dM a0)),(8,.val (i64 (a0.length : Int))),(9,.val (i64 s2.2))] rfl ?_ ?_
 ·simp [Ef,Cb]
 refine hK6 _ ?_
 refine zr [(3,.ref 3 [] true (dM (s2.1 ++ [v8]))),(7,.val (dM a0)),(8,.val (i64 (a0.length : Int))),(9,.val (i64 (w64 (s2.2 + 1))))] ?_ ?_
 ·simp
 cases A
 exact ⟨_,rfl,Fits.of rfl⟩

theorem i_field_pow_ok {a0 : Int} {a1 : Int} {a2 : Int} {r : Int} (h : i_field_pow a0 a1 a2 = some r) :
  VCall Try.prog 226 [i64 a0,i64 a1,i64 a2] [.sc (i64 r)] := by
 unfold i_field_pow at h
 refine VCall.enter Try.call226 Try.func226 rfl 18 Try.ntmps226 (by simp) [.tmp 6] rfl ?_
 show VW _ _ _ (mk [(0,.val (i64 a0)),(1,.val (i64 a1)),(2,.val (i64 a2))]) _
 refine zs [(0,.val (i64 a0)),(1,.val (i64 a1)),(2,.val (i64 a2))] ?_ ?_
 ·simp
 refine zs [(0,.val (i64 a0)),(1,.val (i64 a1)),(2,.val (i64 a2)),(7,.val (i64 1))] ?_ ?_
 ·simp
 refine VW.sqc fun K1 hK1 hCK1 => ?_
 refine zs [(0,.val (i64 a0)),(1,.val (i64 a1)),(7,.val (i64 1)),(8,.val (i64 a2)),(9,.val (i64 0))] ?_ ?_
 ·simp
 obtain ⟨x2,L,h⟩ := bind_some h
 refine VW.tlE [(7,.val (i64 x2))] (hCK1) ?_ ?_
 ·clear L
  refine hK1 _ ?_
  refine zs [(6,.val (i64 x2))] ?_ ?_
  ·simp
  cases h
  refine VW.ret ?_
  simp [Post,PostM,PostC,PostC2,Nx,Bk]
 refine VW.block ?_
 refine VW.loopF (i_field_pow_L0 a0 a1 a2) (fun s2 => [(0,.val (i64 a0)),(1,.val (i64 a1)),(7,.val (i64 s2.1)),(8,.val (i64 a2)),(9,.val (i64 s2.2))]) L (Fits.of rfl) ?_
 clear L
 intro s2 ox2 A K
 unfold i_field_pow_L0 at A
 refine zs [(0,.val (i64 a0)),(1,.val (i64 a1)),(7,.val (i64 s2.1)),(8,.val (i64 a2)),(9,.val (i64 s2.2)),(10,.val (.bool (ilt s2.2 a2)))] ?_ ?_
 ·simp
 refine VW.sqc fun K4 hK4 hCK4 => ?_
 refine VW.cond rfl (fun H => ?_) (fun H => ?_)
 rotate_left
 ·
  replace H : ¬ (s2.2 < a2) := by simpa [ieq,ilt,ile] using H
  rw [if_neg H] at A
  refine VW.exit ?_
  cases A
  have hq := K _ rfl
  subst hq
  exact Fits.of rfl
 replace H : s2.2 < a2 := by simpa [ieq,ilt,ile] using H
 rw [if_pos H] at A
 refine VW.skip ?_
 refine hK4 _ ?_
 refine VW.sqc fun K6 hK6 hCK6 => ?_
 refine VW.block ?_
 obtain ⟨v7,B5,A⟩ := bind_some A
 refine VW.wr tau_ok (Sound.none.add 15 (i_field_num_ok B5) rfl) _ [(0,.val (i64 a0)),(1,.val (i64 a1)),(7,.val (i64 v7)),(8,.val (i64 a2)),(9,.val (i64 s2.2))] rfl ?_ ?_
 ·simp
 refine hK6 _ ?_
 refine zr [(0,.val (i64 a0)),(1,.val (i64 a1)),(7,.val (i64 v7)),(8,.val (i64 a2)),(9,.val (i64 (w64 (s2.2 + 1))))] ?_ ?_
 ·simp
 cases A
 exact ⟨_,rfl,Fits.of rfl⟩

theorem i_field_inv_ok {a0 : Int} {a1 : Int} {r : Int} (h : i_field_inv a0 a1 = some r) :
  VCall Try.prog 187 [i64 a0,i64 a1] [.sc (i64 r)] := by
 unfold i_field_inv at h
 refine VCall.enter Try.call187 Try.func187 rfl 10 Try.ntmps187 (by simp) [.tmp 4] rfl ?_
 show VW _ _ _ (mk [(0,.val (i64 a0)),(1,.val (i64 a1))]) _
 refine zs [(0,.val (i64 a0)),(1,.val (i64 a1))] ?_ ?_
 ·simp
 obtain ⟨v1,Du,h⟩ := bind_some h
 refine VW.ws tau_ok (Sound.none.add 9 (i_field_pow_ok Du) rfl) _ [(4,.val (i64 v1))] rfl ?_ ?_
 ·simp
 cases h
 refine VW.ret ?_
 simp [Post,PostM,PostC,PostC2,Nx,Bk]

theorem i_field_plus_ok {a0 : Int} {a1 : List Int} {a2 : List Int} {a3 : Int} {r : List Int} (h : i_field_plus a0 a1 a2 a3 = some r) :
  VCall Try.prog 188 [i64 a0,dI a1,dI a2,i64 a3] [.own true (dI r)] := by
 unfold i_field_plus at h
 refine VCall.enter Try.call188 Try.func188 rfl 35 Try.ntmps188 (by simp) [.tmp 8] rfl ?_
 show VW _ _ _ (mk [(0,.val (i64 a0)),(1,.val (dI a1)),(2,.val (dI a2)),(3,.val (i64 a3))]) _
 refine zs [(0,.val (i64 a0)),(1,.val (dI a1)),(2,.val (dI a2)),(3,.val (i64 a3))] ?_ ?_
 ·simp
 refine zs [(0,.val (i64 a0)),(1,.val (dI a1)),(2,.val (dI a2)),(3,.val (i64 a3)),(9,.ref 9 [] true (dI []))] ?_ ?_
 ·simp
 refine VW.sqc fun K1 hK1 hCK1 => ?_
 refine zs [(0,.val (i64 a0)),(2,.val (dI a2)),(3,.val (i64 a3)),(9,.ref 9 [] true (dI [])),(13,.val (dI a1)),(14,.val (i64 (a1.length : Int))),(15,.val (i64 0))] ?_ ?_
 ·simp
 obtain ⟨x2,L,h⟩ := bind_some h
 refine VW.tlE [(9,.ref 9 [] true (dI x2))] (hCK1) ?_ ?_
 ·clear L
  refine hK1 _ ?_
  refine zs [(8,.ref 8 [] true (dI x2))] ?_ ?_
  ·simp
  cases h
  refine VW.ret ?_
  simp [Post,PostM,PostC,PostC2,Nx,Bk]
 refine VW.block ?_
 refine VW.loopF (i_field_plus_L0 a0 a1 a2 a3) (fun s2 => [(0,.val (i64 a0)),(2,.val (dI a2)),(3,.val (i64 a3)),(9,.ref 9 [] true (dI s2.1)),(13,.val (dI a1)),(14,.val (i64 (a1.length : Int))),(15,.val (i64 s2.2))]) L (Fits.of rfl) ?_
 clear L
 intro s2 ox2 A K
 unfold i_field_plus_L0 at A
 refine zs [(0,.val (i64 a0)),(2,.val (dI a2)),(3,.val (i64 a3)),(9,.ref 9 [] true (dI s2.1)),(13,.val (dI a1)),(14,.val (i64 (a1.length : Int))),(15,.val (i64 s2.2)),(16,.val (.bool (ilt s2.2 (a1.length : Int))))] ?_ ?_
 ·simp
 refine VW.sqc fun K4 hK4 hCK4 => ?_
 refine VW.cond rfl (fun H => ?_) (fun H => ?_)
 rotate_left
 ·
  replace H : ¬ (s2.2 < (a1.length : Int)) := by simpa [ieq,ilt,ile] using H
  rw [if_neg H] at A
  refine VW.exit ?_
  cases A
  have hq := K _ rfl
  subst hq
  exact Fits.of rfl
 replace H : s2.2 < (a1.length : Int) := by simpa [ieq,ilt,ile] using H
 rw [if_pos H] at A
 refine VW.skip ?_
 refine hK4 _ ?_
 refine VW.sqc fun K6 hK6 hCK6 => ?_
 refine VW.block ?_
 obtain ⟨v7,B5,A⟩ := bind_some A
 obtain ⟨Bi,Bj,Bl,Bm⟩ := idx_some B5
 refine zs [(0,.val (i64 a0)),(2,.val (dI a2)),(3,.val (i64 a3)),(9,.ref 9 [] true (dI s2.1)),(10,.val (i64 s2.2)),(11,.val (i64 v7)),(13,.val (dI a1)),(14,.val (i64 (a1.length : Int))),(15,.val (i64 s2.2))] ?_ ?_
 ·simp [Bi,Bj,Bl,Bm]
 obtain ⟨v8,B7,A⟩ := bind_some A
 obtain ⟨Bd,Be,Bf,Bg⟩ := idx_some B7
 obtain ⟨v9,F2,A⟩ := bind_some A
 obtain ⟨E1,A⟩ := chk_some A
 have Dk := E1
 try simp at Dk
 refine VW.wr tau_ok (Sound.none.add 30 (i_field_num_ok F2) rfl) _ [(0,.val (i64 a0)),(2,.val (dI a2)),(3,.val (i64 a3)),(9,.ref 9 [] true (dI (s2.1 ++ [v9]))),(13,.val (dI a1)),(14,.val (i64 (a1.length : Int))),(15,.val (i64 s2.2))] rfl ?_ ?_
 ·simp [Bd,Be,Bf,Bg,E1,Dk]
 refine hK6 _ ?_
 refine zr [(0,.val (i64 a0)),(2,.val (dI a2)),(3,.val (i64 a3)),(9,.ref 9 [] true (dI (s2.1 ++ [v9]))),(13,.val (dI a1)),(14,.val (i64 (a1.length : Int))),(15,.val (i64 (w64 (s2.2 + 1))))] ?_ ?_
 ·simp
 cases A
 exact ⟨_,rfl,Fits.of rfl⟩

theorem i_field_determinant_ok {a0 : Int} {a1 : List (List Int)} {r : Int} (h : i_field_determinant a0 a1 = some r) :
  VCall Try.prog 137 [i64 a0,dM a1] [.sc (i64 r)] := by
 unfold i_field_determinant at h
 refine VCall.enter Try.call137 Try.func137 rfl 111 Try.ntmps137 (by simp) [.tmp 4] rfl ?_
 show VW _ _ _ (mk [(0,.val (i64 a0)),(1,.val (dM a1))]) _
 refine zs [(0,.val (i64 a0)),(1,.val (dM a1))] ?_ ?_
 ·simp
 obtain ⟨v1,Du,h⟩ := bind_some h
 refine VW.ws tau_ok (Sound.none.add 11 (i_cloneRows_ok Du) rfl) _ [(0,.val (i64 a0)),(5,.ref 5 [] true (dM v1)),(6,.val (i64 1))] rfl ?_ ?_
 ·simp
 refine VW.sqc fun K2 hK2 hCK2 => ?_
 refine zs [(0,.val (i64 a0)),(5,.ref 5 [] true (dM v1)),(6,.val (i64 1)),(13,.val (i64 (v1.length : Int))),(14,.val (i64 0))] ?_ ?_
 ·simp
 obtain ⟨x3,Bn,h⟩ := bind_some h
 refine VW.tlO (fun y5 => [(6,.val (i64 y5))]) x3 (hCK2) ?_ ?_
 ·clear Bn
  rintro y5 rfl
  dsimp only at h
  refine hK2 _ ?_
  refine zs [(4,.val (i64 y5))] ?_ ?_
  ·simp
  cases h
  refine VW.ret ?_
  simp [Post,PostM,PostC,PostC2,Nx,Bk]
 refine VW.block ?_
 refine VW.loopF (i_field_determinant_L0 a0 v1) (fun s3 => [(0,.val (i64 a0)),(5,.ref 5 [] true (dM s3.1)),(6,.val (i64 s3.2.1)),(13,.val (i64 (v1.length : Int))),(14,.val (i64 s3.2.2))]) Bn (Fits.of rfl) ?_
 clear Bn
 intro s3 ox3 T E2
 unfold i_field_determinant_L0 at T
 refine zs [(0,.val (i64 a0)),(5,.ref 5 [] true (dM s3.1)),(6,.val (i64 s3.2.1)),(13,.val (i64 (v1.length : Int))),(14,.val (i64 s3.2.2)),(15,.val (.bool (ilt s3.2.2 (v1.length : Int))))] ?_ ?_
 ·simp
 refine VW.sqc fun K6 hK6 hCK6 => ?_
 refine VW.cond rfl (fun Bw => ?_) (fun Bw => ?_)
 rotate_left
 ·
  replace Bw : ¬ (s3.2.2 < (v1.length : Int)) := by simpa [ieq,ilt,ile] using Bw
  rw [if_neg Bw] at T
  refine VW.exit ?_
  cases T
  have hq := E2 _ rfl
  subst hq
  exact ⟨_,rfl,Fits.of rfl⟩
 replace Bw : s3.2.2 < (v1.length : Int) := by simpa [ieq,ilt,ile] using Bw
 rw [if_pos Bw] at T
 refine VW.skip ?_
 refine hK6 _ ?_
 refine VW.sqc fun K8 hK8 hCK8 => ?_
 refine VW.block ?_
 refine zs [(0,.val (i64 a0)),(5,.ref 5 [] true (dM s3.1)),(6,.val (i64 s3.2.1)),(7,.val (i64 s3.2.2)),(13,.val (i64 (v1.length : Int))),(14,.val (i64 s3.2.2))] ?_ ?_
 ·simp
 refine zs [(0,.val (i64 a0)),(5,.ref 5 [] true (dM s3.1)),(6,.val (i64 s3.2.1)),(7,.val (i64 s3.2.2)),(8,.val (i64 s3.2.2)),(13,.val (i64 (v1.length : Int))),(14,.val (i64 s3.2.2))] ?_ ?_
 ·simp
 refine VW.sqc fun K9 hK9 hCK9 => ?_
 obtain ⟨x10,Z,T⟩ := bind_some T
 refine VW.tlE [(0,.val (i64 a0)),(5,.ref 5 [] true (dM s3.1)),(6,.val (i64 s3.2.1)),(7,.val (i64 s3.2.2)),(8,.val (i64 x10)),(13,.val (i64 (v1.length : Int))),(14,.val (i64 s3.2.2))] (hCK9) ?_ ?_
 ·clear Z
  refine hK9 _ ?_
  refine VW.sqc fun K18 hK18 hCK18 => ?_
  refine zs [(0,.val (i64 a0)),(5,.ref 5 [] true (dM s3.1)),(6,.val (i64 s3.2.1)),(7,.val (i64 s3.2.2)),(8,.val (i64 x10)),(13,.val (i64 (v1.length : Int))),(14,.val (i64 s3.2.2)),(37,.val (.bool (ieq x10 (s3.1.length : Int))))] ?_ ?_
  ·simp
  refine VW.cond rfl (fun Aj => ?_) (fun Aj => ?_)
  ·
   replace Aj : x10 = (s3.1.length : Int) := by simpa [ieq,ilt,ile] using Aj
   rw [if_pos Aj] at T
   refine zs [(4,.val (i64 0))] ?_ ?_
   ·simp
   cases T
   have hq := E2 _ rfl
   subst hq
   dsimp only at h
   cases h
   refine VW.ret ?_
   simp [Post,PostM,PostC,PostC2,Nx,Bk]
  replace Aj : ¬ (x10 = (s3.1.length : Int)) := by simpa [ieq,ilt,ile] using Aj
  rw [if_neg Aj] at T
  refine VW.skip ?_
  refine hK18 _ ?_
  refine VW.sqc fun K20 hK20 hCK20 => ?_
  refine zs [(0,.val (i64 a0)),(5,.ref 5 [] true (dM s3.1)),(6,.val (i64 s3.2.1)),(7,.val (i64 s3.2.2)),(8,.val (i64 x10)),(13,.val (i64 (v1.length : Int))),(14,.val (i64 s3.2.2)),(40,.val (.bool (!(ieq x10 s3.2.2))))] ?_ ?_
  ·simp
  obtain ⟨x21,Ap,T⟩ := bind_some T
  refine VW.tlE [(0,.val (i64 a0)),(5,.ref 5 [] true (dM x21.1)),(6,.val (i64 x21.2)),(7,.val (i64 s3.2.2)),(13,.val (i64 (v1.length : Int))),(14,.val (i64 s3.2.2))] (hCK20) ?_ ?_
  ·clear Ap
   refine hK20 _ ?_
   obtain ⟨v28,Gf,T⟩ := bind_some T
   obtain ⟨E3,E4,E5,E6⟩ := idx_some Gf
   obtain ⟨v29,Gg,T⟩ := bind_some T
   obtain ⟨E7,E8,E9,Fa⟩ := idx_some Gg
   obtain ⟨v30,D1,T⟩ := bind_some T
   refine VW.ws tau_ok (Sound.none.add 69 (i_field_num_ok D1) rfl) _ [(0,.val (i64 a0)),(5,.ref 5 [] true (dM x21.1)),(6,.val (i64 v30)),(7,.val (i64 s3.2.2)),(13,.val (i64 (v1.length : Int))),(14,.val (i64 s3.2.2))] rfl ?_ ?_
   ·simp [E3,E4,E5,E6,E7,E8,E9,Fa]
   refine zs [(0,.val (i64 a0)),(5,.ref 5 [] true (dM x21.1)),(6,.val (i64 v30)),(7,.val (i64 s3.2.2)),(9,.val (i64 (w64 (s3.2.2 + 1)))),(13,.val (i64 (v1.length : Int))),(14,.val (i64 s3.2.2))] ?_ ?_
   ·simp
   obtain ⟨x31,D8,T⟩ := bind_some T
   refine VW.tlE [(0,.val (i64 a0)),(5,.ref 5 [] true (dM x31)),(6,.val (i64 v30)),(13,.val (i64 (v1.length : Int))),(14,.val (i64 s3.2.2))] (hCK8) ?_ ?_
   ·clear D8
    refine hK8 _ ?_
    refine zr [(0,.val (i64 a0)),(5,.ref 5 [] true (dM x31)),(6,.val (i64 v30)),(13,.val (i64 (v1.length : Int))),(14,.val (i64 (w64 (s3.2.2 + 1))))] ?_ ?_
    ·simp
    cases T
    exact ⟨_,rfl,Fits.of rfl⟩
   refine VW.block ?_
   refine VW.loopF (i_field_determinant_L2 a0 s3) (fun s31 => [(0,.val (i64 a0)),(5,.ref 5 [] true (dM s31.1)),(6,.val (i64 v30)),(7,.val (i64 s3.2.2)),(9,.val (i64 s31.2)),(13,.val (i64 (v1.length : Int))),(14,.val (i64 s3.2.2))]) D8 (Fits.of rfl) ?_
   clear D8
   intro s31 ox31 E Fb
   unfold i_field_determinant_L2 at E
   refine VW.sqc fun K33 hK33 hCK33 => ?_
   refine zs [(0,.val (i64 a0)),(5,.ref 5 [] true (dM s31.1)),(6,.val (i64 v30)),(7,.val (i64 s3.2.2)),(9,.val (i64 s31.2)),(13,.val (i64 (v1.length : Int))),(14,.val (i64 s3.2.2)),(75,.val (.bool (ilt s31.2 (s31.1.length : Int))))] ?_ ?_
   ·simp
   refine VW.cond rfl (fun By => ?_) (fun By => ?_)
   rotate_left
   ·
    replace By : ¬ (s31.2 < (s31.1.length : Int)) := by simpa [ieq,ilt,ile] using By
    rw [if_neg By] at E
    refine VW.exit ?_
    cases E
    have hq := Fb _ rfl
    subst hq
    exact Fits.of rfl
   replace By : s31.2 < (s31.1.length : Int) := by simpa [ieq,ilt,ile] using By
   rw [if_pos By] at E
   refine VW.skip ?_
   refine hK33 _ ?_
   refine VW.sqc fun K35 hK35 hCK35 => ?_
   refine VW.block ?_
   obtain ⟨v36,Gh,E⟩ := bind_some E
   obtain ⟨Fc,Fd,Fe,Ff⟩ := idx_some Gh
   obtain ⟨v37,Gi,E⟩ := bind_some E
   obtain ⟨Fg,Fh,Fi,Fj⟩ := idx_some Gi
   obtain ⟨v38,Gj,E⟩ := bind_some E
   obtain ⟨Fk,Fl,Fm,Fn⟩ := idx_some Gj
   obtain ⟨v39,Gk,E⟩ := bind_some E
   obtain ⟨Fo,Fp,Fq,Fr⟩ := idx_some Gk
   obtain ⟨v40,Gl,E⟩ := bind_some E
   obtain ⟨v41,Gm,E⟩ := bind_some E
   refine VW.wdr tau_ok ((Sound.none.add 105 (i_field_inv_ok Gl) rfl).add 107 (i_field_plus_ok Gm) rfl) try_mixed _ [(0,.val (i64 a0)),(5,.ref 5 [] true (dM (s31.1.set s31.2.toNat v41))),(6,.val (i64 v30)),(7,.val (i64 s3.2.2)),(9,.val (i64 s31.2)),(13,.val (i64 (v1.length : Int))),(14,.val (i64 s3.2.2))] 31 rfl (by kernel_rfl) (by rfl) ?_ ?_
   ·simp [Fc,Fd,Fe,Ff,Fg,Fh,Fi,Fj,Fk,Fl,Fm,Fn,Fo,Fp,Fq,Fr]
   refine hK35 _ ?_
   refine zr [(0,.val (i64 a0)),(5,.ref 5 [] true (dM (s31.1.set s31.2.toNat v41))),(6,.val (i64 v30)),(7,.val (i64 s3.2.2)),(9,.val (i64 (w64 (s31.2 + 1)))),(13,.val (i64 (v1.length : Int))),(14,.val (i64 s3.2.2))] ?_ ?_
   ·simp
   cases E
   exact ⟨_,rfl,Fits.of rfl⟩
  refine VW.cond rfl (fun I => ?_) (fun I => ?_)
  rotate_left
  ·
   replace I : ¬ (¬ x10 = s3.2.2) := by simpa [ieq,ilt,ile] using I
   rw [if_neg I] at Ap
   refine VW.skip ?_
   cases Ap
   exact Fits.of rfl
  replace I : ¬ x10 = s3.2.2 := by simpa [ieq,ilt,ile] using I
  rw [if_pos I] at Ap
  obtain ⟨v24,Gn,Ap⟩ := bind_some Ap
  obtain ⟨Dl,Dm,Fs,Ft⟩ := idx_some Gn
  obtain ⟨v25,D6,Ap⟩ := bind_some Ap
  obtain ⟨B2,B3,Cu,Cv⟩ := idx_some D6
  have Dn := Dm
  try simp [Dl] at Dn
  have Do := B3
  try simp [B2] at Do
  obtain ⟨v26,Gp,Ap⟩ := bind_some Ap
  obtain ⟨Fu,Dp,Fv,Fw⟩ := idx_some Gp
  have Dq := Dp
  try simp at Dq
  refine VW.wds tau_ok Sound.none try_mixed _ [(0,.val (i64 a0)),(5,.ref 5 [] true (dM ((s3.1.set s3.2.2.toNat v24).set x10.toNat v25))),(6,.val (i64 s3.2.1)),(7,.val (i64 s3.2.2)),(13,.val (i64 (v1.length : Int))),(14,.val (i64 s3.2.2))] 13 rfl (by kernel_rfl) (by rfl) ?_ ?_
  ·simp [Dl,Dm,Fs,Ft,B2,B3,Cu,Cv,Dn,Do,Fu,Dp,Fv,Fw,Dq]
  obtain ⟨v27,Gq,Ap⟩ := bind_some Ap
  refine VW.wr tau_ok (Sound.none.add 58 (i_field_num_ok Gq) rfl) _ [(0,.val (i64 a0)),(5,.ref 5 [] true (dM ((s3.1.set s3.2.2.toNat v24).set x10.toNat v25))),(6,.val (i64 v27)),(7,.val (i64 s3.2.2)),(13,.val (i64 (v1.length : Int))),(14,.val (i64 s3.2.2))] rfl ?_ ?_
  ·simp
  cases Ap
  exact Fits.of rfl
 refine VW.block ?_
 refine VW.loopF (i_field_determinant_L1 s3) (fun s10 => [(0,.val (i64 a0)),(5,.ref 5 [] true (dM s3.1)),(6,.val (i64 s3.2.1)),(7,.val (i64 s3.2.2)),(8,.val (i64 s10)),(13,.val (i64 (v1.length : Int))),(14,.val (i64 s3.2.2))]) Z (Fits.of rfl) ?_
 clear Z
 intro s10 ox10 Aq Fx
 unfold i_field_determinant_L1 at Aq
 refine VW.sqc fun K12 hK12 hCK12 => ?_
 obtain ⟨x16,J,Aq⟩ := bind_some Aq
 refine VW.cut [(0,.val (i64 a0)),(5,.ref 5 [] true (dM s3.1)),(6,.val (i64 s3.2.1)),(7,.val (i64 s3.2.2)),(8,.val (i64 s10)),(13,.val (i64 (v1.length : Int))),(14,.val (i64 s3.2.2)),(31,.val (.bool x16))] ?_ fun hy => ?_
 rotate_left
 ·clear Aq
  by_cases A0 : s10 < (s3.1.length : Int)
  ·rw [if_pos A0] at J
   have V : ilt s10 (s3.1.length : Int) = true := by simpa [ieq,ilt,ile] using A0
   have W := V
   try simp at W
   obtain ⟨v14,Cc,J⟩ := bind_some J
   obtain ⟨Cd,Ce,Cf,Cg⟩ := idx_some Cc
   obtain ⟨v15,Ch,J⟩ := bind_some J
   obtain ⟨Ci,Cj,Ck,Cl⟩ := idx_some Ch
   cases J
   refine VW.ws tau_ok Sound.none _ _ rfl ?_ hy
   simp [V,W,Cd,Ce,Cf,Cg,Ci,Cj,Ck,Cl]
  ·rw [if_neg A0] at J
   have V : ilt s10 (s3.1.length : Int) = false := by simpa [ieq,ilt,ile] using A0
   have W := V
   try simp at W
   cases J
   refine VW.ws tau_ok Sound.none _ _ rfl ?_ hy
   simp [V,W]
 refine VW.cond rfl (fun Al => ?_) (fun Al => ?_)
 rotate_left
 ·
  replace Al : ¬ (x16 = true) := by simpa [ieq,ilt,ile] using Al
  rw [if_neg Al] at Aq
  refine VW.exit ?_
  cases Aq
  have hq := Fx _ rfl
  subst hq
  exact Fits.of rfl
 replace Al : x16 = true := by simpa [ieq,ilt,ile] using Al
 rw [if_pos Al] at Aq
 refine VW.skip ?_
 refine hK12 _ ?_
 refine VW.block ?_
 refine zr [(0,.val (i64 a0)),(5,.ref 5 [] true (dM s3.1)),(6,.val (i64 s3.2.1)),(7,.val (i64 s3.2.2)),(8,.val (i64 (w64 (s10 + 1)))),(13,.val (i64 (v1.length : Int))),(14,.val (i64 s3.2.2))] ?_ ?_
 ·simp
 cases Aq
 exact ⟨_,rfl,Fits.of rfl⟩
end Go.Vam
