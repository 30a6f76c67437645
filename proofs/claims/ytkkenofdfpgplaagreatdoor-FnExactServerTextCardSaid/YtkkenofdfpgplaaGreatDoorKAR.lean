/- Contracts of strings.Builder's functions and of small numbers' text. Conditions: the sizes. -/
import Derived.Test.YtkkenofdfpgplaaGreatDoorKAQ
import Derived.Test.YtkkenofdfpgplaaGreatDoorEngZ
import Derived.Test.YtkkenofdfpgplaaGreatDoorBd
namespace Go.Proofs.YtkkenofdfpgplaaGreatDoor
open Go Go.KA Go.Proofs
set_option maxHeartbeats 16000000
set_option maxRecDepth 100000
abbrev wB (s : ByteArray) : CV := .bld 72 5 s
theorem WriteString_ok (s t : ByteArray) (hs : s.size + t.size ≤ 140737488355328) :
    CallX Tryz.prog 19 [.c (wB s), .c (.val (.string t))] [some [wB (s ++ t)], none] (.tup [.c (.val (.int .i64 t.size)), .c (.val .nilIface)]) :=
  writeString_any lays166 Builder_Extra_166 ⟨_, Tryz.func19, rfl, rfl⟩ s t hs
theorem String_ok (s : ByteArray) : CallX Tryz.prog 23 [.c (wB s)] [none] (.c (.val (.string s))) :=
  string_any lays169 Builder_Extra_169 ⟨_, Tryz.func23, rfl, rfl⟩ s
theorem decD : ∀ i : Fin 100, Lib.decDigits i.1 = if i.1 < 10 then [UInt8.ofNat (48 + i.1)] else [UInt8.ofNat (48 + i.1 / 10), UInt8.ofNat (48 + i.1 % 10)] := by decide +kernel
theorem decB_lib {i : Nat} (hi : i < 100) : (⟨(Lib.decDigits i).toArray⟩ : ByteArray) = decB i := by
  rw [decD ⟨i, hi⟩]
  unfold decB
  split <;> rfl
theorem iFormat_ok (i : Nat) (hi : i < 100) : CallF Tryz.prog 58 [I (i : Nat), I 10] (.c (.val (.string (decB i)))) := by
  rw [← decB_lib hi]
  refine ⟨⟨_, Tryz.func58, rfl, rfl⟩, fun w ok vs fs hok hal hnd hfs => ?_⟩
  cases hal with
  | cons h1 ht =>
    cases ht with
    | cons h2 ht =>
      cases ht
      obtain ⟨rfl, rfl⟩ := ad_val h1
      obtain ⟨rfl, rfl⟩ := ad_val h2
      refine (Any.internal_strconv_FormatInt_10_small lays246 i hi w).mono ?_
      rintro e w' ⟨rfl, rfl⟩
      exact ⟨_, [], [], rfl, ⟨rfl, rfl, rfl, Nat.le_refl _, fun _ _ _ => rfl⟩, by simp, by simp, .v (.v fun ρ => .c (.c (.val rfl .nil))), .nil⟩
theorem FormatInt_ok (i : Nat) (hi : i < 100) : CallF Tryz.prog 40 [I (i : Nat), I 10] (.c (.val (.string (decB i)))) := by
  refine callF_of_vc htb hm Tryz.func40 rfl rfl rfl rfl (ann := fun _ => none) (gh := fun _ => false) ?_
  repeat' ((conv => whnf); first | (guard_target = Done _; refine Done.mk ?_; first | (rfl; done) | skip) | (guard_target = RetX _ _; refine RetX.mk ?_ ?_) | (guard_target = Fact _ _; refine Fact.mk fun hL => ?_; (try simp only [List.length_map, maxLen] at hL)) | (guard_target = Branch _ _ _; (first | refine Branch.dec ?_ ?_ | refine Branch.beq ?_ ?_ | refine Branch.bne ?_ ?_ | refine Branch.ndec ?_ ?_ | refine Branch.nb ?_ ?_ | refine Branch.mk ?_ ?_) <;> intro h <;> (try simp only [List.length_map] at h) <;> (try omega) <;> (try contradiction)) | (guard_target = CallN _ 58 _ _ _ _; refine CallN.pure _ _ rfl (iFormat_ok i hi) rfl _ rfl ?_) | (guard_target = Arith _ _ _; refine Arith.fit (wrap_fit (by first | omega | (simp only [List.length_map]; omega)) (by first | omega | (simp only [List.length_map]; omega))) ?_) | (guard_target = Arith _ _ _; refine Arith.fit (by decide) ?_) | (guard_target = Index _ _ _; first  | refine Index.mk _ (idx_map (by omega)) ?_) | (guard_target = Need (_ = true) _; refine Need.mk (by first | kernel_rfl | rfl) ?_) | (guard_target = LinkV _ _ _; first  | refine LinkV.no ?_) | (guard_target = GhO _ _ _ _; refine GhO.go ?_) | (guard_target = Need _ _; refine Need.mk (by first  | omega | (simp only [List.length_map]; omega)) ?_))
theorem decimal_ok (i : Nat) (hi : i < 100) : CallF Tryz.prog 20 [I (i : Nat)] (.c (.val (.string (decB i)))) := by
  refine callF_of_vc htb hm Tryz.func20 rfl rfl rfl rfl (ann := fun _ => none) (gh := fun _ => false) ?_
  repeat' ((conv => whnf); first | (guard_target = Done _; refine Done.mk ?_; first | (rfl; done) | skip) | (guard_target = RetX _ _; refine RetX.mk ?_ ?_) | (guard_target = Fact _ _; refine Fact.mk fun hL => ?_; (try simp only [List.length_map, maxLen] at hL)) | (guard_target = Branch _ _ _; (first | refine Branch.dec ?_ ?_ | refine Branch.beq ?_ ?_ | refine Branch.bne ?_ ?_ | refine Branch.ndec ?_ ?_ | refine Branch.nb ?_ ?_ | refine Branch.mk ?_ ?_) <;> intro h <;> (try simp only [List.length_map] at h) <;> (try omega) <;> (try contradiction)) | (guard_target = CallN _ 40 _ _ _ _; refine CallN.pure _ _ rfl (FormatInt_ok i hi) rfl _ rfl ?_) | (guard_target = Arith _ _ _; refine Arith.fit (wrap_fit (by first | omega | (simp only [List.length_map]; omega)) (by first | omega | (simp only [List.length_map]; omega))) ?_) | (guard_target = Arith _ _ _; refine Arith.fit (by decide) ?_) | (guard_target = Index _ _ _; first  | refine Index.mk _ (idx_map (by omega)) ?_) | (guard_target = Need (_ = true) _; refine Need.mk (by first | kernel_rfl | rfl) ?_) | (guard_target = LinkV _ _ _; first  | refine LinkV.no ?_) | (guard_target = GhO _ _ _ _; refine GhO.go ?_) | (guard_target = Need _ _; refine Need.mk (by first  | omega | (simp only [List.length_map]; omega)) ?_))
end Go.Proofs.YtkkenofdfpgplaaGreatDoor
