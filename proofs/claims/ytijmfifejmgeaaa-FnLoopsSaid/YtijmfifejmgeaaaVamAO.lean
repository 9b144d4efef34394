/- slices.Sort at []int64, by the library's contract: the list that is its argument is sorted. -/
import Derived.Test.YtijmfifejmgeaaaVamAP
import Derived.Shelf.SortM.Plain
import Derived.Shelf.SortM.SortNone
import Derived.Sort.OwnSortedInts
namespace Go.Vam
open Go Go.RowKit Go.Proofs
set_option linter.unusedVariables false

theorem dI_inj {xs : List Int} {ys : List D} (h : dI xs = .list ys) : ys = xs.map (D.int .i64) := by simpa [dI] using h.symm
theorem own_ints {w : World} {O : Own} {xs : List Int} {cur : Array Value} {us : Nat → Value} {p : List Nat} (h6 : ∀ i,i < (xs.map (D.int .i64)).length → cur[i]? = some (us i))
  (h7 : ∀ i (h : i < (xs.map (D.int .i64)).length),OwnU w O 0 (p ++ [i]) (us i) (xs.map (D.int .i64))[i]) : cur.toList.take xs.length = xs.map (Value.int .i64) := by
 apply List.ext_getElem?
 intro j
 by_cases hj : j < xs.length
 ·have a1 := h6 j (by simpa using hj)
  have a2 := h7 j (by simpa using hj)
  simp only [List.getElem_map] at a2
  rw [List.getElem?_take_of_lt hj,Array.getElem?_toList,a1,List.getElem?_map,List.getElem?_eq_getElem hj]
  generalize us j = u at a2
  cases a2
  rfl
 ·rw [List.getElem?_take_eq_none (by omega),List.getElem?_eq_none (by simp; omega)]

theorem sort_mut {P : Program} {ρ : Go.Shelf.Ren} (L : SlLaysM.n5 P ρ) {xs : List Int} (h : xs.length ≤ 1099511627776) :
  VMutT P (ρ.f 5) (dI xs) [] [] (dI (srt xs)) := by
 refine ⟨L.f5.enters rfl,fun w A C vs v hA hC hinj hown hsz hv0 hvs => ?_⟩
 have hvs1 : vs = #[v] := by
  apply Array.ext_getElem?
  intro i
  match i with
  | 0 => rw [hv0]; rfl
  | i + 1 => rw [Array.getElem?_eq_none (by simp at hsz; omega),Array.getElem?_eq_none (by simp)]
 subst hvs1
 have hl := srt_len xs
 have s0 : srt [] = [] := by simp [srt]
 generalize hd : dI xs = d at hown
 cases hown with
 | nil =>
  have hx : xs = [] := by cases xs with
   | nil => rfl
   | cons a r => simp [dI] at hd
  subst hx
  refine (AnyM.slices_Sort_int_none L none 0 w).mono ?_
  rintro e w' ⟨rfl,rfl⟩
  exact ⟨_,C,rfl,trivial,.refl _ _,fun g q hq => ⟨.inl (by rw [hq]; simp),hC g q hq⟩,hinj,fun v2 h2 => by rw [s0]; exact h2⟩
 | list _ g cap cur E ys us h1 h2 h3 h4 h5 h6 h7 =>
  have hy := dI_inj hd
  subst hy
  have ht : cur.toList.take xs.length = xs.map (Value.int .i64) := own_ints h6 h7
  have hg : g < w.heap.size := (Array.getElem?_eq_some_iff.1 h2).1
  have hCg : C g = some [] := by
   obtain ⟨q,e1,e2⟩ := Option.map_eq_some_iff.1 h1
   simp only [Prod.mk.injEq,true_and] at e2
   rw [e1,e2]
  have hx3 : xs.length ≤ cur.size := by rw [h5]; simpa using h3
  have e0 : (xs.map (D.int .i64)).length = xs.length := by simp
  rw [e0]
  refine (AnyM.slices_Sort_int L g 0 cap xs w (holds_of_blockI h2 ht) hg (by omega)).mono ?_
  rintro e w' ⟨rfl,n,os,rfl⟩
  have e1 : (xs.mergeSort fun x y => decide (x ≤ y)) = srt xs := rfl
  rw [e1]
  obtain ⟨b1,b2,b3,b4,b5⟩ := grownBy_sortedI (w := w) (g := g) (n := n) (os := os) (srt xs).toArray
  refine ⟨_,C,rfl,trivial,⟨b1,b2,b3,b4,fun k hk => b5 k hk.1 fun e => ?_⟩,fun k q hq => ⟨.inl (by rw [hq]; simp),Nat.lt_of_lt_of_le (hC k q hq) b4⟩,hinj,fun v2 hv2 => ?_⟩
  ·simp only [Option.some.injEq] at e
   have := hk.2
   rw [e,hCg] at this
   cases this
  ·generalize hd2 : D.list (xs.map (D.int .i64)) = d2 at hv2
   cases hv2 with
   | nil =>
    have hx : xs = [] := by cases xs with
     | nil => rfl
     | cons a r => simp at hd2
    subst hx
    rw [s0]
    exact .nil _
   | list _ g2 cap2 cur2 E2 ys2 us2 k1 k2 k3 k4 k5 k6 k7 =>
    have hy := dI_inj hd2
    subst hy
    have hCg2 : C g2 = some [] := by
     obtain ⟨q,e1,e2⟩ := Option.map_eq_some_iff.1 k1
     simp only [Prod.mk.injEq,true_and] at e2
     rw [e1,e2]
    have := hinj g g2 [] hCg hCg2
    subst this
    rw [h2] at k2
    simp only [Option.some.injEq,Obj.cells.injEq,and_true] at k2
    obtain ⟨rfl,rfl⟩ := k2
    have tk := take_putCellsI cur (srt xs) (by omega)
    have hat : ∀ i (hi : i < (srt xs).length),(Go.Sort.putCells (Value.int .i64) 0 (srt xs).toArray cur)[i]? = some (.int .i64 (srt xs)[i]) := fun i hi => by
     have : ((Go.Sort.putCells (Value.int .i64) 0 (srt xs).toArray cur).toList.take (srt xs).length)[i]? = ((srt xs).map (Value.int .i64))[i]? := by rw [tk]
     rw [List.getElem?_take_of_lt hi,Array.getElem?_toList,List.getElem?_map,List.getElem?_eq_getElem hi] at this
     exact this
    have el : (xs.map (D.int .i64)).length = ((srt xs).map (D.int .i64)).length := by simp [hl]
    rw [el]
    refine OwnU.list [] g cap2 _ E _ (fun i => .int .i64 ((srt xs).getD i 0)) k1 (heap_sortedI _ h2) (by rw [← el]; exact k3) k4 (by simp [Go.Sort.putCells]; exact k5) (fun i hi => ?_) (fun i hi => ?_)
    ·have hi' : i < (srt xs).length := by simpa using hi
     rw [hat i hi',List.getD_eq_getElem?_getD,List.getElem?_eq_getElem hi']; rfl
    ·have hi' : i < (srt xs).length := by simpa using hi
     simp only [List.getElem_map,List.getD_eq_getElem?_getD,List.getElem?_eq_getElem hi',Option.getD_some]
     exact .int _ _ _
   | gone => cases hd2
   | _ => cases hd2
 | _ => cases hd
end Go.Vam
