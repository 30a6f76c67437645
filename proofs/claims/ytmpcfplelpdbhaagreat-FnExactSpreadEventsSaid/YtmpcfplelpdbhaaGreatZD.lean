/- The library's removal of an element, at owned rows of structs of eight cells: the kit's walk for elements of one cell, at eight cells. No conditions but the place. -/
import Derived.Test.YtmpcfplelpdbhaaGreatTy
import Derived.Test.YtmpcfplelpdbhaaGreatEngY
import Derived.WalkKit
import Derived.Deep.RegionLaw
import Derived.Lib.SliceRun
namespace Go.Proofs.YtmpcfplelpdbhaaGreat
open Go Go.KA Go.Proofs Go.RowKit
set_option maxHeartbeats 16000000
set_option maxRecDepth 1000000
theorem setCells_heap (b : Nat) : ∀ (vs : List Value) (o : Nat) (w : World) (cur : Array Value) (ty : TypeId) (fz : Nat × Nat), w.heap[b]? = some (.cells cur ty fz) → o + vs.length ≤ cur.size →
    ∃ cur', (w.setCells b o vs).heap[b]? = some (.cells cur' ty fz) ∧ cur'.toList = cur.toList.take o ++ vs ++ cur.toList.drop (o + vs.length)
  | [], o, w, cur, ty, fz, h, _ => ⟨cur, h, by simp⟩
  | v :: vs, o, w, cur, ty, fz, h, hl => by
    have hl' : o < cur.size := by simp only [List.length_cons] at hl; omega
    have h1 : (w.setCell ⟨b, o, none⟩ v).heap[b]? = some (.cells (cur.setIfInBounds o v) ty fz) := by
      simp [World.setCell, Array.getElem?_modify, h]
    obtain ⟨cur', h2, h3⟩ := setCells_heap b vs (o + 1) _ _ ty fz h1 (by simp only [List.length_cons] at hl; simp; omega)
    refine ⟨cur', h2, ?_⟩
    rw [h3]
    have hlen : o < cur.toList.length := by simpa using hl'
    have e1 : (cur.setIfInBounds o v).toList = cur.toList.set o v := by simp
    rw [e1, List.take_set, List.drop_set]
    rw [if_pos (by omega)]
    have e2 : (cur.toList.take (o + 1)).set o v = cur.toList.take o ++ [v] := by
      rw [List.take_succ_eq_append_getElem hlen, List.set_append_right _ _ (by rw [List.length_take]; omega), List.length_take]
      rw [show o - min o cur.toList.length = 0 by omega]
      rfl
    rw [e2, List.length_cons, show o + 1 + vs.length = o + (vs.length + 1) by omega]
    simp
theorem setCells_same (b : Nat) : ∀ (vs : List Value) (o : Nat) (w : World), (w.setCells b o vs).os = w.os ∧ (w.setCells b o vs).tape = w.tape ∧ (w.setCells b o vs).output = w.output ∧ (w.setCells b o vs).heap.size = w.heap.size ∧ ∀ k, k ≠ b → (w.setCells b o vs).heap[k]? = w.heap[k]?
  | [], o, w => ⟨rfl, rfl, rfl, rfl, fun _ _ => rfl⟩
  | v :: vs, o, w => by
    obtain ⟨h1, h2, h3, h4, h5⟩ := setCells_same b vs (o + 1) (w.setCell ⟨b, o, none⟩ v)
    refine ⟨h1, h2, h3, h4.trans (by simp [World.setCell]), fun k hk => (h5 k hk).trans ?_⟩
    simp [World.setCell, Array.getElem?_modify, Ne.symm hk]
abbrev Z8 : List Value := [.int .i64 0, .bool false, .int .i64 0, .int .i64 0, .slice none 0 0, .int .i64 0, .int .i64 0, .slice none 0 0]
theorem Delete_walk (b n c i : Nat) (cur : Array Value) (w : World) (hb : w.heap[b]? = some (.cells cur 210 (0, 0))) (hi : i < n) (hc : n ≤ c) (hm : c ≤ 9223372036854775807) (hs : cur.size = c * 8) (h1 : ∀ v ∈ cur.toList.take (n * 8), v.oneCell' = true) :
    Calls Tryz.prog 194 #[.slice (some ⟨b, 0, none⟩) n c, .int .i64 i, .int .i64 ((i : Int) + 1)] w fun e w' => e = .returned (.slice (some ⟨b, 0, none⟩) (i + (n - (i + 1))) c) ∧
      w' = (w.drew.setCells b (0 + i * 8) ((cur.toList.take (n * 8)).drop ((i + 1) * 8))).setCells b ((i + (n - (i + 1))) * 8) Z8 := by
  obtain ⟨news, hnews⟩ : ∃ news, news = (cur.toList.take (n * 8)).drop ((i + 1) * 8) := ⟨_, rfl⟩
  have hcell : ∀ j, j < n * 8 → w.cell? ⟨b, j, none⟩ = cur.toList[j]? ∧ (cur.toList[j]?).isSome = true := fun j hj => by
    have hj' : j < cur.size := by omega
    constructor
    · simp [World.cell?, hb]
    · simp [hj']
  have hfz : ∀ j, w.frozen? ⟨b, j, none⟩ = false := fun j => by
    simp [World.frozen?, hb]
  have hlen : news.length = (n - (i + 1)) * 8 := by
    rw [hnews, List.length_drop, List.length_take, Array.length_toList, Nat.min_eq_left (by omega), ← Nat.sub_mul]
  have hget : ∀ j u, news[j]? = some u → cur.toList[(i + 1) * 8 + j]? = some u := fun j u hu => by
    rw [hnews, List.getElem?_drop, List.getElem?_take] at hu
    split at hu
    · exact hu
    · cases hu
  obtain ⟨A, hA, hsrc⟩ : ∃ A : Addr, (if c = i + 1 then some (⟨b, 0, none⟩ : Addr) else some ⟨b, (i + 1) * 8, none⟩) = some A ∧ Hid (∀ t u, news[t]? = some u → w.drew.cell? (A.add t) = some u) := by
    by_cases h : c = i + 1
    · refine ⟨⟨b, 0, none⟩, by simp [h], fun t u hu => ?_⟩
      have h0 : news.length = 0 := by rw [hlen]; have : n - (i + 1) = 0 := by omega
                                      rw [this]
      rw [List.length_eq_zero_iff.1 h0] at hu
      simp at hu
    · refine ⟨⟨b, (i + 1) * 8, none⟩, by simp [h], fun t u hu => ?_⟩
      have ht : t < (n - (i + 1)) * 8 := by
        have := (List.getElem?_eq_some_iff.1 hu).1
        rwa [hlen] at this
      rw [Addr.add_lit]
      exact ((hcell _ (by omega)).1).trans (hget t u hu)
  have s1 : Hid (news.length = (n - (i + 1)) * 8) := hlen
  have s2 : Hid (∀ u ∈ news, u.oneCell' = true) := by
    intro u hu
    rw [hnews] at hu
    exact h1 u (List.mem_of_mem_drop hu)
  have s3 : Hid (∀ t, t < news.length → (w.drew.cell? ⟨b, 0 + i * 8 + t, none⟩).isSome = true ∧ w.drew.frozen? ⟨b, 0 + i * 8 + t, none⟩ = false) := by
    intro t ht
    rw [hlen] at ht
    rw [Nat.zero_add]
    exact ⟨by show (w.cell? _).isSome = true; rw [(hcell _ (by omega)).1]; exact (hcell _ (by omega)).2, hfz _⟩
  obtain ⟨W1, hW1⟩ : ∃ W1, W1 = w.drew.setCells b (0 + i * 8) news := ⟨_, rfl⟩
  obtain ⟨cur1, hc1, hl1⟩ := setCells_heap b news (0 + i * 8) w.drew cur 210 (0, 0) hb (by rw [hlen, hs]; omega)
  rw [← hW1] at hc1
  have hsz1 : cur1.size = c * 8 := by
    have := congrArg List.length hl1
    simp only [List.length_append, List.length_take, List.length_drop, Array.length_toList] at this
    omega
  have hcl : ∀ ty, (Builtin.clear_ #[69] ty #[.slice (some ⟨b, (i + (n - (i + 1))) * 8, none⟩) (n - (i + (n - (i + 1)))) (c - (i + (n - (i + 1))))]).run Tryz.prog W1 = .ok (.tuple #[]) (W1.setCells b ((i + (n - (i + 1))) * 8) Z8) := by
    intro ty
    have e1 : n - (i + (n - (i + 1))) = 1 := by omega
    rw [e1]
    have hst := run_storeCells_cells (P := Tryz.prog) b ((i + (n - (i + 1))) * 8) Z8 0 W1 (fun j hj => by
      have hj : j < 8 := hj
      have : (i + (n - (i + 1))) * 8 + 0 + j < cur1.size := by rw [hsz1]; omega
      simp [World.cell?, hc1]; omega) (fun j hj => by simp [World.frozen?, hc1]) (by intro v hv; simp only [Z8, List.mem_cons, List.not_mem_nil, or_false] at hv; rcases hv with rfl | rfl | rfl | rfl | rfl | rfl | rfl | rfl <;> rfl)
    simp only [Nat.add_zero] at hst
    have hz : (Builtin.zeroCells #[Value.int .i64 0, .bool false, .int .i64 0, .int .i64 0, .slice none 0 0, .int .i64 0, .int .i64 0, .slice none 0 0] 1).toList = Z8 := by first | (simp [Builtin.zeroCells]; done) | decide | kernel_rfl | (simp [Builtin.zeroCells, Array.ofFn]; rfl)
    simp [Builtin.clear_, run_underlying Tryz.underlying69, Tryz.zeroValue210, hz, hst, Value.cells]
  have hW : Hid (W1 = w.drew.setCells b (0 + i * 8) news) := hW1
  have N : Aside (news = (cur.toList.take (n * 8)).drop ((i + 1) * 8)) := hnews
  have X : Aside (W1 = w.drew.setCells b (0 + i * 8) news) := hW1
  obtain ⟨i0, hi0, hz0⟩ : ∃ i0, Tryz.prog.info? 210 = some i0 ∧ i0.size = 8 := by
    have : (Tryz.prog.info? 210).map (·.size) = some 8 := by kernel_rfl
    cases h : Tryz.prog.info? 210 with
    | none => rw [h] at this; cases this
    | some i0 => rw [h] at this; exact ⟨i0, rfl, by simpa using this⟩
  have hic : i ≤ c := by omega
  have hp0 : (0 : Int) ≤ (i : Int) + 1 := by omega
  have hp1 : (i : Int) + 1 ≤ (n : Int) := by omega
  have hp2 : ((i : Int) + 1).toNat = i + 1 := by omega
  have hne : ¬ ((i : Int) = (i : Int) + 1) := by omega
  clear hW1 hcell hfz hget hl1 hnews hlen
  go_enter Tryz.func194, Tryz.ntmps194
  go_wp2_with fail
  go_region_law (refine step_append_room rfl (.tmp 22) (.tmp 25) 69 rfl 210 i0 8 Tryz.underlying69 hi0 hz0 b 0 i c (by simp [Act.eval, Act.put]) A (n - (i + 1)) (c - (i + 1)) news (by simp [Act.eval, Act.put]) s1.out hsrc.out s2.out (by omega) s3.out ?_; rw [← hW.out])
  go_wp2
  go_ret
  exact ⟨rfl, by rw [← N.out, ← X.out]⟩
theorem ad_den {w : World} {ok : Nat → Prop} {x : CV} {v : Value} {f : List Nat} {ty sz : Nat} {rows : List (List CV)} (hx : x = .ows ty sz rows) (h : ADen w ok (.c x) v f) : Den w ok [x] [v] f := by
  subst hx
  cases h with
  | v h =>
    cases h fun _ => none with
    | c h => cases h with
      | c h => exact h
  | o h => exact h
theorem ad_val {w : World} {ok : Nat → Prop} {x v : Value} {f : List Nat} (h : ADen w ok (.c (.val x)) v f) : v = x ∧ f = [] := by
  have key : ∀ {f}, Den w ok [.val x] [v] f → v = x ∧ f = [] := fun h => by
    cases h with
    | val _ ht => cases ht; exact ⟨rfl, rfl⟩
  cases h with
  | v h =>
    cases h fun _ => none with
    | c h => cases h with
      | c h => exact key h
  | o h => exact key h
theorem flat_drop {α : Type} {sz : Nat} : ∀ {rows : List (List α)}, (∀ r ∈ rows, r.length = sz) → ∀ n : Nat, (rows.drop n).flatten = rows.flatten.drop (n * sz)
  | [], _, n => by simp
  | r :: rs, hr, 0 => by simp
  | r :: rs, hr, n + 1 => by
    have h1 := hr r (by simp)
    rw [List.drop_succ_cons, List.flatten_cons, flat_drop (fun r h => hr r (by simp [h])) n, List.drop_append, List.drop_of_length_le (l := r) (by rw [h1, Nat.succ_mul]; omega), h1, Nat.succ_mul, Nat.add_sub_cancel]
    rfl
end Go.Proofs.YtmpcfplelpdbhaaGreat

namespace Go.Proofs.YtmpcfplelpdbhaaGreat
open Go Go.KA Go.Proofs Go.RowKit
set_option maxHeartbeats 200000
set_option maxRecDepth 100000
theorem Delete_ok (l : List XPacket) (i : Nat) (hi : i < l.length) : CallX Tryz.prog 194 [.c (.ows 210 8 (l.map encPacket)), I (i : Nat), I ((i : Int) + 1)] [] (.c (.ows 210 8 ((l.take i ++ l.drop (i + 1)).map encPacket))) := by
  refine ⟨⟨_, Tryz.func194, rfl, rfl⟩, ?_⟩
  intro w ok vs fs hok hal hnd hfs
  cases hal with
  | cons h ht =>
  cases ht with
  | cons h2 ht =>
  cases ht with
  | cons h3 ht =>
  cases ht
  obtain ⟨rfl, rfl⟩ := ad_val h2
  obtain ⟨rfl, rfl⟩ := ad_val h3
  have hd := ad_den rfl h
  cases hd with
  | @ows _ _ _ _ _ _ xs v hin hr ho ht =>
  cases ht
  obtain ⟨hlx, ⟨_, h0⟩ | ⟨g, cap, cur, rfl, _, hb, hn, hm, hs, htk⟩⟩ := ho
  · rw [List.length_map] at h0
    omega
  rw [List.length_map] at hlx hn htk
  have hN : (l.map encPacket).length = l.length := List.length_map _
  rw [hN] at hfs hnd ⊢
  have hg : g < w.heap.size := (Array.getElem?_eq_some_iff.1 hb).1
  have hng : ¬ ok g := (hfs g (by simp [Value.ownBlock])).2
  refine (Delete_walk g l.length cap i cur w hb hi hn hm hs (by rw [htk]; exact hin.one)).mono ?_
  rintro e w' ⟨rfl, rfl⟩
  rw [htk]
  have hml : (l.length - (i + 1)) * 8 + (i + 1) * 8 = l.length * 8 := by rw [← Nat.add_mul]; congr 1; omega
  have hnl : (xs.drop ((i + 1) * 8)).length = (l.length - (i + 1)) * 8 := by rw [List.length_drop, hlx]; omega
  obtain ⟨c1, hc1, e1⟩ := setCells_heap g (xs.drop ((i + 1) * 8)) (0 + i * 8) w.drew cur 210 (0, 0) hb (by rw [hnl, hs]; omega)
  have hz1 : c1.size = cap * 8 := by
    have := congrArg List.length e1
    simp only [List.length_append, List.length_take, List.length_drop, Array.length_toList] at this
    omega
  obtain ⟨c2, hc2, e2⟩ := setCells_heap g Z8 ((i + (l.length - (i + 1))) * 8) _ c1 210 (0, 0) hc1 (by rw [hz1]; show _ + 8 ≤ _; omega)
  have hz2 : c2.size = cap * 8 := by
    have := congrArg List.length e2
    simp only [List.length_append, List.length_take, List.length_drop, Array.length_toList, hz1] at this
    have h8 : Z8.length = 8 := rfl
    omega
  obtain ⟨o1, o2, o3, o4, o5⟩ := setCells_same g (xs.drop ((i + 1) * 8)) (0 + i * 8) w.drew
  obtain ⟨q1, q2, q3, q4, q5⟩ := setCells_same g Z8 ((i + (l.length - (i + 1))) * 8) (w.drew.setCells g (0 + i * 8) (xs.drop ((i + 1) * 8)))
  have hsame : ∀ k, k ≠ g → ((w.drew.setCells g (0 + i * 8) (xs.drop ((i + 1) * 8))).setCells g ((i + (l.length - (i + 1))) * 8) Z8).heap[k]? = w.heap[k]? := fun k hk => (q5 k hk).trans (o5 k hk)
  have hsize : ((w.drew.setCells g (0 + i * 8) (xs.drop ((i + 1) * 8))).setCells g ((i + (l.length - (i + 1))) * 8) Z8).heap.size = w.heap.size := q4.trans o4
  have hr' : ∀ r ∈ l.map encPacket, r.length = 8 := hr
  have hfl : ((l.take i ++ l.drop (i + 1)).map encPacket).flatten = (l.map encPacket).flatten.take (i * 8) ++ (l.map encPacket).flatten.drop ((i + 1) * 8) := by
    rw [List.map_append, List.flatten_append, List.map_take, List.map_drop, flat_take hr', flat_drop hr']
  have hll : (l.take i ++ l.drop (i + 1)).length = i + (l.length - (i + 1)) := by
    rw [List.length_append, List.length_take, List.length_drop]
    omega
  refine ⟨_, [g], [], rfl, ⟨q1.trans o1, q2.trans o2, q3.trans o3, by rw [hsize]; exact Nat.le_refl _, fun k _ hk => hsame k (fun e => hk (by simp [e, Value.ownBlock]))⟩, by simp, fun k hk => ?_, .v (.o ?_), .nil⟩
  · have : k = g := by simpa using hk
    subst this
    exact ⟨.inl (by simp [Value.ownBlock]), by rw [hsize]; exact hg⟩
  · have hd := ((den_take hin (i * 8)).append (den_drop hin ((i + 1) * 8)))
    rw [← hfl] at hd
    refine Den.ows (xs := xs.take (i * 8) ++ xs.drop ((i + 1) * 8)) (f := []) (hd.mono (fun k hk => hsame k (fun e => hng (e ▸ hk))) (fun k hk => ⟨by rw [hsize]; exact hok k hk, .inl hk, fun hm => hng (by have : k = g := by simpa using hm
                                                                                                                                                                                                             exact this ▸ hk)⟩) (by simp)) (fun r hr1 => ?_) ?_ .nil
    · obtain ⟨p, _, rfl⟩ := List.mem_map.1 hr1
      rfl
    · rw [List.length_map, hll]
      have hxl : (xs.take (i * 8) ++ xs.drop ((i + 1) * 8)).length = (i + (l.length - (i + 1))) * 8 := by
        rw [List.length_append, hnl, List.length_take, hlx, Nat.min_eq_left (by omega), Nat.add_mul]
      refine ⟨hxl, .inr ⟨g, cap, c2, rfl, Nat.zero_le _, hc2, by omega, hm, hz2, ?_⟩⟩
      have hcl : c1.toList.length = cap * 8 := by simpa using hz1
      rw [e2, List.append_assoc, List.take_left' (by rw [List.length_take, hcl]; omega), e1, Nat.zero_add, ← hxl]
      have hci : cur.toList.take (i * 8) = xs.take (i * 8) := by
        rw [← htk, List.take_take, Nat.min_eq_left (by omega)]
      rw [hci, List.take_left' rfl]
end Go.Proofs.YtmpcfplelpdbhaaGreat
