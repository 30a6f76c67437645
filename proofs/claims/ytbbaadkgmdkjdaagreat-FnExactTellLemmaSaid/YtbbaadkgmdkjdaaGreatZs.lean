/- The library's sort, at a slice of integers that is owned: the kit's contract, told as a contract of a call that hands memory over. No conditions but the length. -/
import Derived.Test.YtbbaadkgmdkjdaaGreatZC
import Derived.Test.YtbbaadkgmdkjdaaGreatZl
import Derived.Sort.OwnSortedInts
import Derived.Shelf.SlGeneric
import Derived.Ground.SlgnProg
import Derived.Shelf.SortG.Plain
import Derived.Shelf.SortG.SortNone
namespace Go.Proofs.YtbbaadkgmdkjdaaGreat
open Go Go.KA Go.Proofs
theorem den_eI {w : World} {ok : Nat → Prop} : ∀ {l : List Int} {xs : List Value} {f : List Nat}, Den w ok (l.map eI).flatten xs f → xs = l.map (Value.int .i64)
  | [], _, _, h => by cases h; rfl
  | a :: l, xs, f, h => by
    cases h with
    | val _ ht =>
      rw [List.map_cons]
      exact congrArg _ (den_eI ht)
theorem eI_den {w : World} {ok : Nat → Prop} : ∀ l : List Int, Den w ok (l.map eI).flatten (l.map (Value.int .i64)) []
  | [] => .nil
  | a :: l => .val rfl (eI_den l)
theorem ad_den {w : World} {ok : Nat → Prop} {x : CV} {v : Value} {f : List Nat} {ty sz : Nat} {rows : List (List CV)} (hx : x = .ows ty sz rows) (h : ADen w ok (.c x) v f) : Den w ok [x] [v] f := by
  subst hx
  cases h with
  | v h =>
    cases h fun _ => none with
    | c h => cases h with
      | c h => exact h
  | o h => exact h
theorem Sort_ok (l : List Int) (hl : l.length ≤ 1048576) : CallX Tryz.prog 126 [.c (.ows 2 1 (l.map eI))] [some [.ows 2 1 ((sortI l).map eI)]] (.tup []) := by
  refine ⟨⟨_, Tryz.func126, rfl, rfl⟩, ?_⟩
  intro w ok vs fs hok hal hnd hfs
  cases hal with
  | cons h ht =>
    cases ht
    have hd := ad_den rfl h
    cases hd with
    | ows hin hr ho ht =>
      cases ht
      rw [den_eI hin] at ho
      have hlen : (l.map eI).length = l.length := List.length_map _
      rw [hlen] at ho
      have hrow : ∀ r ∈ (sortI l).map eI, r.length = 1 := by
        intro r hr
        obtain ⟨x, _, rfl⟩ := List.mem_map.1 hr
        rfl
      rcases ho.2 with ⟨hv, h0⟩ | ⟨g, cap, cur, hv, _, hb, hn, hm, hs, htk⟩
      · subst hv
        obtain rfl := List.eq_nil_of_length_eq_zero h0
        refine (AnyG.slices_Sort_int_none sortLay none 0 w).mono ?_
        rintro e w' ⟨rfl, rfl⟩
        refine ⟨_, [], [], rfl, ⟨rfl, rfl, rfl, Nat.le_refl _, fun _ _ _ => rfl⟩, by simp, by simp, .tup .nil, ?_⟩
        have hnil : sortI [] = [] := List.mergeSort_nil
        rw [hnil] at hrow ⊢
        have h1 : Den w' (okX ok ((Value.slice none 0 0).ownBlock.toList ++ [] ++ []) ([] ++ []) w' w') [.ows 2 1 (([] : List Int).map eI)] (Value.slice none 0 0).cells.toList ((Value.slice none 0 0).ownBlock.toList ++ []) :=
          .ows (xs := []) (eI_den []) hrow (World.ownsRow_nil _ _ _ _) .nil
        exact .some h1 .nil
      · subst hv
        have htk' : cur.toList.take l.length = l.map (Value.int .i64) := by rw [← htk, Nat.mul_one]
        have hg : g < w.heap.size := (Array.getElem?_eq_some_iff.1 hb).1
        refine (AnyG.slices_Sort_int sortLay g 0 cap l w (holds_of_blockI hb htk') hg (by omega)).mono ?_
        rintro e w' ⟨rfl, n, os, rfl⟩
        have hgr := grownBy_sortedI (w := w) (g := g) (n := n) (os := os) (sortI l).toArray
        have how := ownsRow_sortedI (w := w) (base := 0) (n := n) (os := os) (ss := l) (ts := sortI l) (sortI_len l) (Nat.zero_le _) hb hn hm hs
        refine ⟨_, [], [g], rfl, ⟨hgr.os, hgr.tape, hgr.output, hgr.size, fun b hb hne => hgr.block b hb ?_⟩, by simp, ?_, .tup .nil, ?_⟩
        · intro e
          obtain rfl := Option.some.inj e
          exact hne (by simp [Value.ownBlock])
        · intro b hb'
          obtain rfl := List.mem_singleton.1 hb'
          exact ⟨.inl (by simp [Value.ownBlock]), Nat.lt_of_lt_of_le hg hgr.size⟩
        · rw [← sortI_len l] at how ⊢
          refine .some (g := [g]) (f := []) (.ows (xs := (sortI l).map (Value.int .i64)) (f := []) (eI_den _) hrow ?_ .nil) .nil
          rw [List.length_map]
          exact how
end Go.Proofs.YtbbaadkgmdkjdaaGreat
