/- Part of a proof engine for functions of the given program: what an operation, a loop and a call compute, symbolically. No conditions. -/
import Derived.Test.YtkkenofdfpgplaaGreatDoorEngY
import Derived.Shelf.Strings.Builder1
/- strings.Builder: the library's WriteString and String, told with an exact frame: nothing but the builder's two blocks is touched. -/
namespace Go.KA
open Go Go.RowKit Go.Proofs Go.Shelf

section
variable {P : Program} (w : World)
theorem app_str (t u ty e : TypeId) (i : TypeInfo) (ht : P.underlying t = some (.slice e)) (hu : P.underlying u = some .string) (hi : P.info? e = some i) (hz : i.zero = some (.int .u8 0))
    (hsize : i.size = 1) (hby : i.bytes = 1) (v : Value) (n : Nat) (xs : List Value) (hown : w.ownsRow 0 e 1 v n xs) (s : ByteArray) (hbytes : n + s.size ≤ 140737488355328) :
    ∃ v' w', (Builtin.append_ #[t, u] ty #[v, .string s]).run P w = .ok v' w' ∧ w'.ownsRow 0 e 1 v' (n + s.size) (xs ++ Lib.strCells s) ∧ w.grownBy w' v.ownBlock ∧
      (∀ k, v'.ownBlock = some k → v.ownBlock = some k ∨ w.heap.size ≤ k) := by
  have h63 : n + s.size ≤ maxLen := by unfold maxLen; omega
  obtain ⟨v', w', hr, h2, h3, h4⟩ := Lib.run_append_own_string (P := P) w 0 t u ty e i ht hu hi hz hsize hby v n xs hown s h63 hbytes (Nat.zero_le _)
  refine ⟨v', w', hr, h2, h3, fun k hk => ?_⟩
  rcases hown.2 with ⟨rfl, rfl⟩ | ⟨g, cap, cur, rfl, hbg, hg, hnc, hcm, hcs, htake⟩
  · -- onto nil: the base may be the world's size
    have hown' : w.ownsRow w.heap.size e 1 (.slice none 0 0) 0 xs := ⟨hown.1, .inl ⟨rfl, rfl⟩⟩
    obtain ⟨v2, w2, hr2, k2, _, _⟩ := Lib.run_append_own_string (P := P) w w.heap.size t u ty e i ht hu hi hz hsize hby _ 0 xs hown' s h63 hbytes (Nat.le_refl _)
    rw [hr] at hr2
    obtain ⟨rfl, rfl⟩ : v' = v2 ∧ w' = w2 := by simpa using hr2
    exact .inr (k2.lt k hk).1
  · by_cases hroom : n + s.size ≤ cap
    · have hcs' : cur.size = cap := by simpa using hcs
      have hr' := Lib.run_append_room_string (P := P) w t u ty e i ht hu hi hsize g n cap cur hg s hroom (by omega)
      rw [hr] at hr'
      obtain ⟨rfl, _⟩ : v' = _ ∧ w' = _ := by simpa using hr'
      exact .inl hk
    · have hxl : xs.length = n := by simpa using hown.1
      have holds : ∀ j u, xs[j]? = some u → w.cell? ((⟨g, 0, none⟩ : Addr).add j) = some u := hown.cells (g := g) rfl
      have hr' := Lib.run_append_grow_string (P := P) w t u ty e i (.int .u8 0) ht hu hi hz ⟨g, 0, none⟩ n cap xs (by rw [hsize]; simpa using hxl) holds s (by omega) (by omega) (by rw [hby]; exact growslice_fits (by omega) (by omega))
      rw [hr] at hr'
      obtain ⟨rfl, _⟩ : v' = _ ∧ w' = _ := by simpa using hr'
      simp only [Value.ownBlock, Option.some.injEq] at hk
      exact .inr (by omega)

theorem wpList_str {ops : Array Oper} {rest : List Oper} {o : Oper} {a : Act} {Q : Exit → Act → World → Prop} (hgd : o.guard = none) (sl x : Operand) (t u : TypeId)
    (ho : o.op = .call { callee := .builtin .append, args := #[sl, x], argTypes := #[t, u] })
    (e : TypeId) (i : TypeInfo) (ht : P.underlying t = some (.slice e)) (hu : P.underlying u = some .string) (hi : P.info? e = some i) (hz : i.zero = some (.int .u8 0))
    (hsize : i.size = 1) (hby : i.bytes = 1)
    (v : Value) (n : Nat) (xs : List Value) (hs : a.eval sl = v) (hown : w.ownsRow 0 e 1 v n xs) (s : ByteArray) (hx : a.eval x = .string s) (hbytes : n + s.size ≤ 140737488355328)
    (h : ∀ v' w', w'.ownsRow 0 e 1 v' (n + s.size) (xs ++ Lib.strCells s) → w.grownBy w' v.ownBlock → (∀ k, v'.ownBlock = some k → v.ownBlock = some k ∨ w.heap.size ≤ k) → wpList P ops Q rest (a.put o.dst v') w') : wpList P ops Q (o :: rest) a w := by
  refine wpList_plain hgd fun K hK => ?_
  obtain ⟨v', w', hr, h2, h3, h4⟩ := app_str (P := P) w t u o.type e i ht hu hi hz hsize hby v n xs hown s hbytes
  unfold Oper.wp execOp
  simp only [ho, resolve, invoke, builtin, Sem.run_bind, Sem.run_pure, Result.andThen_ok, List.map_toArray, List.map_cons, List.map_nil, hs, hx, hr]
  exact hK _ _ (h v' w' h2 h3 h4)
end

variable {P : Program} {ρ : Ren}
set_option maxHeartbeats 4000000 in
set_option maxRecDepth 100000 in
theorem bld_write (L : Lays.n166 P ρ) (X : Builder.Extra P ρ) (b : Nat) (p v : Value) (bs : List Value) (s : ByteArray) (w : World) (hp : p = .pointer none ∨ p = .pointer (some ⟨b, 0, none⟩))
    (hbk : w.heap[b]? = some (.cells #[p, v] (ρ.t 72) (0, 0))) (hown : w.ownsRow 0 (ρ.t 5) 1 v bs.length bs) (hlen : bs.length + s.size ≤ 140737488355328) :
    Calls P (ρ.f 166) #[.pointer (some ⟨b, 0, none⟩), .string s] w fun e w' => e = .returned (.tuple #[.int .i64 s.size, .nilIface]) ∧
      ∃ v', w'.heap[b]? = some (.cells #[.pointer (some ⟨b, 0, none⟩), v'] (ρ.t 72) (0, 0)) ∧ w'.ownsRow 0 (ρ.t 5) 1 v' (bs.length + s.size) (bs ++ Lib.strCells s) ∧
        (∀ k, v'.ownBlock = some k → v.ownBlock = some k ∨ w.heap.size ≤ k) ∧ w'.os = w.os ∧ w'.tape = w.tape ∧ w'.output = w.output ∧ w.heap.size ≤ w'.heap.size ∧
        ∀ k, k < w.heap.size → k ≠ b → some k ≠ v.ownBlock → w'.heap[k]? = w.heap[k]? := by
  have hne := Lib.ownBlock_ne hown hbk X.neB5
  have hlt : b < w.heap.size := (Array.getElem?_eq_some_iff.1 hbk).1
  obtain ⟨i0, hi, hz0, hz1, hz2⟩ := info_parts X.infoByte
  -- copyCheck: the builder's own address stands in its first cell
  have hcc : Calls P (ρ.f 240) #[.pointer (some ⟨b, 0, none⟩)] w fun e w1 => e = .returned (.tuple #[]) ∧ w1.heap[b]? = some (.cells #[.pointer (some ⟨b, 0, none⟩), v] (ρ.t 72) (0, 0)) ∧
      w1.os = w.os ∧ w1.tape = w.tape ∧ w1.output = w.output ∧ w1.heap.size = w.heap.size ∧ ∀ k, k ≠ b → w1.heap[k]? = w.heap[k]? := by
    rcases hp with rfl | rfl
    · refine (Any.Builder_copyCheck_fresh { L with } X.toX72 b w (by rw [Lib.cell_of_heap hbk]; rfl) (by simp [World.shape?, hbk]) (Lib.frozen_of_heap hbk 0)).mono ?_
      rintro e w' ⟨rfl, rfl⟩
      refine ⟨rfl, ?_, rfl, rfl, rfl, by simp [World.setCell], fun k hk => Below.heap_setCell _ _ _ _ fun e => hk e⟩
      simp [World.setCell, Array.getElem?_modify, hbk]
    · refine (Any.Builder_copyCheck_used { L with } X.toX72 b w (by rw [Lib.cell_of_heap hbk]; rfl)).mono ?_
      rintro e w' ⟨rfl, rfl⟩
      exact ⟨rfl, hbk, rfl, rfl, rfl, rfl, fun _ _ => rfl⟩
  have mixed := L.mixed
  have t72 := L.t72; have a72 := L.a72; have z72 := L.z72; have v72 := L.v72; have u72 := run_underlying L.t72
  have t70 := L.t70; have a70 := L.a70; have z70 := L.z70; have v70 := L.v70; have u70 := run_underlying L.t70
  have t37 := L.t37; have a37 := L.a37; have z37 := L.z37; have v37 := L.v37; have u37 := run_underlying L.t37
  have t3 := L.t3; have a3 := L.a3; have z3 := L.z3; have v3 := L.v3; have u3 := run_underlying L.t3
  have t9 := L.t9; have a9 := L.a9; have z9 := L.z9; have v9 := L.v9; have u9 := run_underlying L.t9
  have t4 := L.t4; have a4 := L.a4; have z4 := L.z4; have v4 := L.v4; have u4 := run_underlying L.t4
  have t164 := L.t164; have a164 := L.a164; have z164 := L.z164; have v164 := L.v164; have u164 := run_underlying L.t164
  have t5 := X.t5; have a5 := X.a5; have z5 := X.z5; have v5 := X.v5; have u5 := run_underlying X.t5
  have e240 : ∀ args w, (callFunc (ρ.f 240) args).run P w = .ok (.enter (ρ.f 240) args) w := enters_of L.f240 (by kernel_rfl) rfl
  go_enter L.f166, Body.n166_ntmps ρ
  go_wp2_with (go_at_fn (ρ.f 240); refine hcc.mono ?_)
  rintro e w1 ⟨rfl, hbk1, q1, q2, q3, q4, q5⟩
  have hown1 : w1.ownsRow 0 (ρ.t 5) 1 v bs.length bs := owns_same hown fun k hk => q5 k fun e => hne (by rw [hk, e])
  have c0 : w1.cell? ⟨b, 0, none⟩ = some (.pointer (some ⟨b, 0, none⟩)) := by rw [Lib.cell_of_heap hbk1]; rfl
  have c1 : w1.cell? ⟨b, 1, none⟩ = some v := by rw [Lib.cell_of_heap hbk1]; rfl
  go_wp2_with (at_builtin; refine wpList_str _ rfl _ _ (ρ.t 37) (ρ.t 9) rfl (ρ.t 5) i0 L.t37 L.t9 hi hz0 hz1 hz2 _ _ _ rfl hown1 s rfl hlen ?_)
  intro v' w2 hown' hgrow hnew
  have hb2 : w2.heap[b]? = some (.cells #[.pointer (some ⟨b, 0, none⟩), v] (ρ.t 72) (0, 0)) := by
    rw [hgrow.block b (by omega) (fun e => hne e.symm)]
    exact hbk1
  have d0 : w2.cell? ⟨b, 0, none⟩ = some (.pointer (some ⟨b, 0, none⟩)) := by rw [Lib.cell_of_heap hb2]; rfl
  have d1 : w2.cell? ⟨b, 1, none⟩ = some v := by rw [Lib.cell_of_heap hb2]; rfl
  have f1 : w2.frozen? ⟨b, 1, none⟩ = false := Lib.frozen_of_heap hb2 1
  have hne' := Lib.ownBlock_ne hown' hb2 X.neB5
  obtain ⟨ao, n', cap, rfl⟩ : ∃ ao n' cap, v' = .slice ao n' cap := by
    rcases hown'.2 with ⟨hv, _⟩ | ⟨g, cap, cur, hv, _⟩
    · exact ⟨_, _, _, hv⟩
    · exact ⟨_, _, _, hv⟩
  go_wp2
  go_ret2
  refine ⟨rfl, _, ?_, owns_same hown' fun k hk => Below.heap_setCell _ _ _ _ fun e => hne' (by first | exact hk.trans (congrArg some e) | exact hk.trans (congrArg some e.symm)), fun k hk => hnew k hk, (by show w2.os = _; exact hgrow.os.trans q1), (by show w2.tape = _; exact hgrow.tape.trans q2), (by show w2.output = _; exact hgrow.output.trans q3), by simpa [World.setCell, q4] using hgrow.size, fun k hk hkb hkv => ?_⟩
  · simp [World.setCell, Array.getElem?_modify, hb2]
  · rw [Below.heap_setCell _ _ _ _ (fun e => hkb e), hgrow.block k (by omega) hkv, q5 k hkb]

set_option maxHeartbeats 4000000 in
set_option maxRecDepth 100000 in
theorem bld_string (L : Lays.n169 P ρ) (X : Builder.Extra P ρ) (b : Nat) (p : Value) (ao q : Option Addr) (n cap : Nat) (s : ByteArray) (w w1 w2 : World)
    (hbk : w.heap[b]? = some (.cells #[p, .slice ao n cap] (ρ.t 72) (0, 0)))
    (hSD : (Builtin.unsafeSliceData_ #[(ρ.t 37)] (ρ.t 127) #[.slice ao n cap]).run P w.drew = .ok (.pointer q) w1) (c2 : w1.cell? ⟨b, 1, none⟩ = some (.slice ao n cap))
    (hUS : (Builtin.unsafeString_ #[(ρ.t 127), (ρ.t 3)] (ρ.t 9) #[.pointer q, .int .i64 n]).run P w1 = .ok (.string s) w2) :
    Calls P (ρ.f 169) #[.pointer (some ⟨b, 0, none⟩)] w fun e w' => e = .returned (.string s) ∧ w' = w2 := by
  have c1 : w.drew.cell? ⟨b, 1, none⟩ = some (.slice ao n cap) := by
    have : w.drew.heap[b]? = some (.cells #[p, .slice ao n cap] (ρ.t 72) (0, 0)) := hbk
    rw [Lib.cell_of_heap this]; rfl
  have mixed := L.mixed
  have t72 := L.t72; have a72 := L.a72; have z72 := L.z72; have v72 := L.v72; have u72 := run_underlying L.t72
  have t70 := L.t70; have a70 := L.a70; have z70 := L.z70; have v70 := L.v70; have u70 := run_underlying L.t70
  have t37 := L.t37; have a37 := L.a37; have z37 := L.z37; have v37 := L.v37; have u37 := run_underlying L.t37
  have t127 := L.t127; have a127 := L.a127; have z127 := L.z127; have v127 := L.v127; have u127 := run_underlying L.t127
  have t3 := L.t3; have a3 := L.a3; have z3 := L.z3; have v3 := L.v3; have u3 := run_underlying L.t3
  have t9 := L.t9; have a9 := L.a9; have z9 := L.z9; have v9 := L.v9; have u9 := run_underlying L.t9
  have t5 := X.t5; have a5 := X.a5; have z5 := X.z5; have v5 := X.v5; have u5 := run_underlying X.t5
  go_enter L.f169, Body.n169_ntmps ρ
  go_wp2
  go_region_o
  all_goals (go_wp2; go_ret; exact ⟨rfl, rfl⟩)

/-! ### The contracts -/
section
variable {P : Program} {ρ : Ren}
theorem ad_bld {w : World} {ok : Nat → Prop} {t e : Nat} {s : ByteArray} {v : Value} {f : List Nat} (h : ADen w ok (.c (.bld t e s)) v f) : Den w ok [.bld t e s] [v] f := by
  cases h with
  | v h =>
    cases h fun _ => none with
    | c h => cases h with
      | c h => exact h
  | o h => exact h
theorem ad_val {w : World} {ok : Nat → Prop} {x v : Value} {f : List Nat} (h : ADen w ok (.c (.val x)) v f) : v = x ∧ f = [] := by
  have : ∀ {g : List Nat}, Den w ok [.val x] [v] g → v = x ∧ g = [] := by
    intro g h
    cases h with
    | val _ ht => cases ht; exact ⟨rfl, rfl⟩
  cases h with
  | v h =>
    cases h fun _ => none with
    | c h => cases h with
      | c h => exact ⟨(this h).1, rfl⟩
  | o h => exact this h
theorem strCells_app (s t : ByteArray) : Lib.strCells (s ++ t) = Lib.strCells s ++ Lib.strCells t := by
  unfold Lib.strCells
  rw [← List.map_append]
  congr 1
theorem bld_den {w : World} {ok : Nat → Prop} {b : Nat} {v : Value} {ty e : Nat} {s : ByteArray} {p : Value} (hp : p = .pointer none ∨ p = .pointer (some ⟨b, 0, none⟩)) (hb : w.heap[b]? = some (.cells #[p, v] ty (0, 0))) (ho : w.ownsRow 0 e 1 v s.size (Lib.strCells s)) :
    Den w ok [.bld ty e s] (Value.pointer (some ⟨b, 0, none⟩)).cells.toList (b :: v.ownBlock.toList) := by
  have := Den.bld (ok := ok) hp hb ho .nil
  rwa [List.append_nil] at this
theorem writeString_any (L : Lays.n166 P ρ) (X : Builder.Extra P ρ) (hf : FnOk P (ρ.f 166)) (s t : ByteArray) (hs : s.size + t.size ≤ 140737488355328) :
    CallX P (ρ.f 166) [.c (.bld (ρ.t 72) (ρ.t 5) s), .c (.val (.string t))] [some [.bld (ρ.t 72) (ρ.t 5) (s ++ t)], none] (.tup [.c (.val (.int .i64 t.size)), .c (.val .nilIface)]) := by
  refine ⟨hf, fun w ok vs fs hok hal hnd hfs => ?_⟩
  cases hal with
  | cons h1 ht =>
    cases ht with
    | cons h2 ht =>
      cases ht
      obtain ⟨rfl, rfl⟩ := ad_val h2
      have hd := ad_bld h1
      cases hd with
      | @bld xs vs f ty e s b p v hp hb ho ht =>
        cases ht
        have hlen := Lib.strCells_length s
        rw [← hlen] at ho
        refine (bld_write L X b p v (Lib.strCells s) t w hp hb ho (by rw [hlen]; exact hs)).mono ?_
        rintro e w' ⟨rfl, v', k1, k2, k3, k4, k5, k6, k7, k8⟩
        have hne := Lib.ownBlock_ne k2 k1 X.neB5
        rw [hlen, ← strCells_app, ← ByteArray.size_append] at k2
        have hlt : b < w.heap.size := (Array.getElem?_eq_some_iff.1 hb).1
        refine ⟨_, [], b :: v'.ownBlock.toList, rfl, ⟨k4, k5, k6, k7, fun k hk hn => k8 k hk (fun e => hn (by simp [e])) (fun e => hn (by simp [← e]))⟩, ?_, fun k hk => ?_, ?_, by have := OutL.some (ok := okX ok (b :: v.ownBlock.toList ++ [] ++ ([] ++ [])) ([] ++ b :: v'.ownBlock.toList) w w') (w0 := w) (vs := [Value.string t]) (bld_den (.inr rfl) k1 k2) (fun _ h => by cases h) (.none .nil); rwa [List.append_nil (b :: v'.ownBlock.toList)] at this⟩
        · simp only [List.nil_append, List.nodup_cons]
          refine ⟨fun h => hne (by simpa using h), ?_⟩
          cases v'.ownBlock <;> simp
        · simp only [List.nil_append, List.mem_cons, Option.mem_toList] at hk
          rcases hk with rfl | hk
          · exact ⟨.inl (by simp), by omega⟩
          · refine ⟨?_, (k2.lt k hk).2⟩
            rcases k3 k hk with h | h
            · exact .inl (by simp [h])
            · exact .inr h
        · exact .tup (.cons (f := []) (.v fun ρ => .c (.c (.val rfl .nil))) (.cons (f := []) (.v fun ρ => .c (.c (.val rfl .nil))) .nil))
theorem string_any (L : Lays.n169 P ρ) (X : Builder.Extra P ρ) (hf : FnOk P (ρ.f 169)) (s : ByteArray) : CallX P (ρ.f 169) [.c (.bld (ρ.t 72) (ρ.t 5) s)] [none] (.c (.val (.string s))) := by
  refine ⟨hf, fun w ok vs fs hok hal hnd hfs => ?_⟩
  cases hal with
  | cons h1 ht =>
    cases ht
    have hd := ad_bld h1
    cases hd with
    | @bld xs vs f ty e s b p v hp hb ho ht =>
      cases ht
      have fin : ∀ w2 : World, w2.os = w.os → w2.tape = w.tape → w2.output = w.output → w.heap.size ≤ w2.heap.size → (∀ k, k < w.heap.size → some k ≠ v.ownBlock → w2.heap[k]? = w.heap[k]?) →
          ∀ (e : Ending) (w' : World), (e = .returned (.string s) ∧ w' = w2) → ∃ u fr fo, e = .returned u ∧ Grown (b :: v.ownBlock.toList ++ [] ++ []) w w' ∧ (fr ++ fo).Nodup ∧ (∀ c ∈ fr ++ fo, (c ∈ b :: v.ownBlock.toList ++ [] ++ [] ∨ w.heap.size ≤ c) ∧ c < w'.heap.size) ∧
            OT w' (okX ok (b :: v.ownBlock.toList ++ [] ++ []) (fr ++ fo) w w') (.c (.val (.string s))) u fr ∧ OutL w w' (okX ok (b :: v.ownBlock.toList ++ [] ++ []) (fr ++ fo) w w') [none] [.pointer (some ⟨b, 0, none⟩)] fo := by
        rintro w2 h1 h2 h3 h4 h5 e w' ⟨rfl, rfl⟩
        exact ⟨_, [], [], rfl, ⟨h1, h2, h3, h4, fun k hk hn => h5 k hk fun e => hn (by simp [← e])⟩, by simp, by simp, .v (.v fun ρ => .c (.c (.val rfl .nil))), .none .nil⟩
      have hUS := Any.unsafeString_none L X
      rcases ho.2 with ⟨rfl, h0⟩ | ⟨g, cap, cur, rfl, _, hg, hn, hm, hcs, htk⟩
      · have hse : s = .empty := ByteArray.size_eq_zero_iff.1 h0
        subst hse
        refine (bld_string L X b p none none 0 0 .empty w w.drew w.drew hb rfl ?_ (hUS _ _)).mono (fin _ rfl rfl rfl (Nat.le_refl _) fun _ _ _ => rfl)
        have : w.drew.heap[b]? = _ := hb
        rw [Lib.cell_of_heap this]; rfl
      · have hb' : w.drew.heap[b]? = some (.cells #[p, .slice (some ⟨g, 0, none⟩) s.size cap] (ρ.t 72) (0, 0)) := hb
        have hg' : w.drew.heap[g]? = some (.cells cur (ρ.t 5) (0, 0)) := hg
        have hlt : b < w.drew.heap.size := (Array.getElem?_eq_some_iff.1 hb').1
        by_cases hc0 : cap = 0
        · subst hc0
          have hse : s = .empty := ByteArray.size_eq_zero_iff.1 (by omega)
          subst hse
          refine (bld_string L X b p _ _ 0 0 .empty w _ _ hb (Lib.run_unsafeSliceData_zero w.drew _ _ (ρ.t 5) L.t127 ⟨g, 0, none⟩ 0 ((ρ.t 5), cur.size) (by simp [World.shape?, hg'])) ?_ (hUS _ _)).mono (fin _ rfl rfl rfl (by simp) fun k hk _ => Lib.alloc_old w.drew _ k hk)
          have : (w.drew.alloc (.view ⟨g, 0, none⟩ (ρ.t 5))).heap[b]? = _ := (Lib.alloc_old w.drew _ b hlt).trans hb'
          rw [Lib.cell_of_heap this]; rfl
        · have c2 : w.drew.cell? ⟨b, 1, none⟩ = some (.slice (some ⟨g, 0, none⟩) s.size cap) := by rw [Lib.cell_of_heap hb']; rfl
          by_cases h0 : s.size = 0
          · have hse : s = .empty := ByteArray.size_eq_zero_iff.1 h0
            subst hse
            exact (bld_string L X b p _ _ 0 cap .empty w w.drew w.drew hb (Lib.run_unsafeSliceData_row _ _ _ _ _ _ hc0) c2 (hUS _ _)).mono (fin _ rfl rfl rfl (Nat.le_refl _) fun _ _ _ => rfl)
          · have hsl : s.data.toList.length = s.size := by rw [Array.length_toList]; rfl
            have hss : (⟨s.data.toList.toArray⟩ : ByteArray) = s := by simp
            have hr := Lib.run_unsafeString_row (P := P) w.drew (ρ.t 127) (ρ.t 3) (ρ.t 9) (ρ.t 5) L.t127 X.cellsByte g cur.size (by simp [World.shape?, hg']) s.data.toList (fun e => h0 (by rw [← hsl, e]; rfl)) (by omega) (by unfold maxLen at hm; omega) (fun j x hx => by
              have := ho.cells (g := g) rfl j (.int .u8 x.toNat) (by simp only [Lib.strCells, List.getElem?_map, hx]; rfl)
              exact this)
            rw [hsl, hss] at hr
            refine (bld_string L X b p _ _ _ cap s w _ _ hb (Lib.run_unsafeSliceData_row _ _ _ _ _ _ hc0) c2 hr).mono (fin _ ?_ ?_ ?_ ?_ ?_)
            · unfold World.freeze; split <;> rfl
            · unfold World.freeze; split <;> rfl
            · unfold World.freeze; split <;> rfl
            · unfold World.freeze; split <;> simp
            · intro k hk hne
              unfold World.freeze
              split
              · rfl
              · simp only [Array.getElem?_modify]
                split
                · rename_i e
                  exact absurd (by rw [← e]; rfl) hne
                · rfl
end
end Go.KA
