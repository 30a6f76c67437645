/- Contracts: the reference's make, choices and loops. No conditions but bounds of size. -/
import Derived.Test.YtmpcfplelpdbhaaGreatGA
namespace Go.Proofs.YtmpcfplelpdbhaaGreat
open Go Go.KA Go.Proofs
set_option maxHeartbeats 16000000
set_option maxRecDepth 100000
theorem bud_with (b : Bool) (c w : XExpr) : budExpr (withE b c w) ≤ budExpr c + budExpr w + 3 := by
  cases b
  · have e : budExpr (withE false c w) = budExpr c + 1 + (budExpr w + 1) := by simp [withE, budExpr, budExprS]
    omega
  · have e : budExpr (withE true c w) = (budExpr c + 1) + 1 + (budExpr w + 1) := by simp [withE, budExpr, budExprS]
    omega
theorem bud_kid {k1 k2 : Int} {c : XExpr} {ks : List XProg} {k : Nat} (h : k < ks.length) : budProg (ks.getD k nilP) ≤ budProg (.mk k1 k2 c ks) := by
  rw [budProg, budProgS_eq, getD_eq h]
  have := budS_mem budProg (List.getElem_mem h)
  omega
theorem with_mk (b : Bool) (c w : XExpr) : ∃ e1 e2 e3, withE b c w = .mk e1 e2 e3 := ex_mk _
theorem l07With_told (b : Bool) (k1 k2 q1 q2 : Int) (q3 : List XExpr) (ks : List XProg) (w : XExpr) (hb : budExpr (.mk q1 q2 q3) ≤ 1048576) (hb2 : budExpr w ≤ 1048576) : CallX Tryz.prog 95 [.c (.rp 4 ((encProg (.mk k1 k2 (.mk q1 q2 q3) ks)).drop 2)), B b, .c (.rp 3 (encExpr w))] [] (.a 3 (encExpr (withE b (.mk q1 q2 q3) w))) := by
  have h := l07With_ok b (.mk q1 q2 q3) w hb hb2
  rw [enc_mk q1 q2 q3] at h
  exact h.cut (.cut (k := 3) (by omega) (.same (.same .nil)))
section
variable (t a : Int) (hs : goodSig t a = true) (l : List XPremise)
variable (p1 p2 q1 q2 : Int) (q3 : List XExpr) (p4 : List XProg) (hpb : budProg (XProg.mk p1 p2 (XExpr.mk q1 q2 q3) p4) ≤ 12060)
include hs hpb
theorem part_ok (b : Bool) (k : Nat) (hk : k < p4.length) (v post : XExpr) (hv : budExpr v ≤ 200) (hpo : budExpr post ≤ 200) (s s1 : Sst) (hl1 : Lim s1) (d : XDerivation) (h0 : MkOk t a l (p4.getD k nilP) post s d s1) :
    CallX Tryz.prog 94 [.c (stC t a l s), .c (.rp 6 (encProg (XProg.mk p1 p2 (XExpr.mk q1 q2 q3) p4))), I (k : Nat), B b, .c (.rp 3 (encExpr v)), .c (.rp 3 (encExpr post))] [some [stC t a l (ndS t a s1 (withE b (XExpr.mk q1 q2 q3) v) (p4.getD k nilP) post)], none, none, none, none, none]
      (.a 14 (encDerivation (nodeD 8 (withE b (XExpr.mk q1 q2 q3) v) (p4.getD k nilP) post [d]))) := by
  have hqb : budExpr (XExpr.mk q1 q2 q3) ≤ 12060 := by rw [budProg] at hpb; omega
  have hkb := bud_kid (k1 := p1) (k2 := p2) (c := (XExpr.mk q1 q2 q3)) hk
  have hwb := bud_with b (XExpr.mk q1 q2 q3) v
  have hwt := l07With_told b p1 p2 q1 q2 q3 p4 v (by omega) (by omega)
  have hn := nodeS_ok t a hs l s1.1 (by omega) s1.2 8 (withE b (XExpr.mk q1 q2 q3) v) (p4.getD k nilP) post [d] ⟨by omega, by omega, by omega⟩
  obtain ⟨e1, e2, e3, he⟩ := with_mk b (XExpr.mk q1 q2 q3) v
  rw [he] at hwt hn ⊢
  obtain ⟨r0, z0, ks0, rfl⟩ := ex_mkD d
  have hix : (encProgS p4)[k]? = some (encProg (p4.getD k nilP)) := by rw [encProgS_map]; exact idx_getD hk
  unfold MkOk at h0
  generalize p4.getD k nilP = K at *
  refine callX_of_vc htb hm Tryz.func94 rfl rfl rfl rfl (ann := fun _ => none) (gh := fun _ => false) ?_
  repeat' ((conv => whnf); first | (guard_target = Done _; refine Done.mk ?_) | (guard_target = RetX _ _; refine RetX.mk ?_ ?_) | (guard_target = Fact _ _; refine Fact.mk fun hL => ?_; (try simp only [List.length_map, maxLen] at hL)) | (guard_target = Branch _ _ _; (first | refine Branch.dec ?_ ?_ | refine Branch.beq ?_ ?_ | refine Branch.bne ?_ ?_ | refine Branch.ndec ?_ ?_ | refine Branch.nb ?_ ?_ | refine Branch.mk ?_ ?_) <;> intro h <;> (try simp only [List.length_map] at h) <;> (try omega) <;> (try contradiction)) | (guard_target = CallN _ 34 _ _ _ _; refine CallN.gen [true, false, false] _ _ _ rfl (h0) rfl rfl _ rfl ?_) | (guard_target = CallN _ 95 _ _ _ _; refine CallN.gen [] _ _ _ rfl (hwt) rfl rfl _ rfl ?_) | (guard_target = CallN _ 35 _ _ _ _; refine CallN.gen [true, false, false, false, false, true] _ _ _ rfl (hn) rfl rfl _ rfl ?_) | (guard_target = Arith _ _ _; refine Arith.fit (wrap_fit (by first | omega | (simp only [List.length_map]; omega)) (by first | omega | (simp only [List.length_map]; omega))) ?_) | (guard_target = Arith _ _ _; refine Arith.fit (by decide) ?_) | (guard_target = Index _ _ _; first | refine Index.mk _ (hix) ?_ | refine Index.mk _ (idx_map (by omega)) ?_) | (guard_target = Need (_ = true) _; refine Need.mk (by first | kernel_rfl | rfl) ?_) | (guard_target = LinkV _ _ _; first  | refine LinkV.no ?_) | (guard_target = GhO _ _ _ _; refine GhO.go ?_) | (guard_target = Need _ _; refine Need.mk (by first | ((simp only [List.length_map, List.length_append, List.length_cons, List.length_nil, maxLen]; constructor <;> omega)) | omega | (simp only [List.length_map]; omega)) ?_))
  all_goals first | trivial | rfl | exact ⟨rfl, trivial⟩
end
section
variable (t a : Int) (hs : goodSig t a = true) (ht : 0 ≤ t ∧ t ≤ 3) (l : List XPremise) (hl : PremOk t a l) (N : Nat) (hN : atomsN t = N ∧ 1 ≤ N ∧ N ≤ 8)
variable (p1 p2 q1 q2 : Int) (q3 : List XExpr) (p4 : List XProg) (hp : POk t a (.mk p1 p2 (.mk q1 q2 q3) p4)) (hpb : budProg (.mk p1 p2 (.mk q1 q2 q3) p4) ≤ 12060)
variable (c1 c2 : Int) (c3 : List XExpr) (hc : okC t a (.mk c1 c2 c3)) (hcb : budExpr (.mk c1 c2 c3) ≤ 200)
variable (w1 w2 : Int) (w3 : List XExpr) (hw : weakE t N l (.mk p1 p2 (.mk q1 q2 q3) p4) (.mk c1 c2 c3) = .mk w1 w2 w3)
variable (left : Int)
include hs ht hl hN hp hpb hc hcb hw
theorem mak6 (h : p1 = 6) (s1 s2 : Sst) (hl1 : Lim s1) (hl2 : Lim s2) (d0 d1 : XDerivation) (h0 : MkOk t a l (p4.getD 0 nilP) (XExpr.mk c1 c2 c3) (left, false) d0 s1) (h1 : MkOk t a l (p4.getD 1 nilP) (XExpr.mk c1 c2 c3) (ndS t a s1 (withE false (XExpr.mk q1 q2 q3) (XExpr.mk w1 w2 w3)) (p4.getD 0 nilP) (XExpr.mk c1 c2 c3)) d1 s2) :
    MkOk t a l (XProg.mk p1 p2 (XExpr.mk q1 q2 q3) p4) (XExpr.mk c1 c2 c3) (left, false) (nodeD 6 (XExpr.mk w1 w2 w3) (XProg.mk p1 p2 (XExpr.mk q1 q2 q3) p4) (XExpr.mk c1 c2 c3) [nodeD 8 (withE false (XExpr.mk q1 q2 q3) (XExpr.mk w1 w2 w3)) (p4.getD 0 nilP) (XExpr.mk c1 c2 c3) [d0], nodeD 8 (withE true (XExpr.mk q1 q2 q3) (XExpr.mk w1 w2 w3)) (p4.getD 1 nilP) (XExpr.mk c1 c2 c3) [d1]]) (ndS t a (ndS t a s2 (withE true (XExpr.mk q1 q2 q3) (XExpr.mk w1 w2 w3)) (p4.getD 1 nilP) (XExpr.mk c1 c2 c3)) (XExpr.mk w1 w2 w3) (XProg.mk p1 p2 (XExpr.mk q1 q2 q3) p4) (XExpr.mk c1 c2 c3)) := by
  have hwb : budExpr (XExpr.mk w1 w2 w3) ≤ 200 := by rw [← hw]; exact bud_weak ht hN.2.2 l _ _
  have hsu := sure_ok t a ht l hl N hN left false (XProg.mk p1 p2 (XExpr.mk q1 q2 q3) p4) hp (XExpr.mk c1 c2 c3) hc _ hw
  have hlen := hp.len
  have hk2 : p4.length = 2 := by
    have h1 : (p4.length : Int) = pkN p1 := hlen.1
    have h2 : pkN p1 = 2 := hlen.2.2.1 h
    omega
  have g0 := part_ok t a hs l p1 p2 q1 q2 q3 p4 hpb false 0 (by omega) (XExpr.mk w1 w2 w3) (XExpr.mk c1 c2 c3) hwb hcb (left, false) s1 hl1 d0 h0
  have g1 := part_ok t a hs l p1 p2 q1 q2 q3 p4 hpb true 1 (by omega) (XExpr.mk w1 w2 w3) (XExpr.mk c1 c2 c3) hwb hcb _ s2 hl2 d1 h1
  have n1 := nodeS_ok t a hs l (s2.1 - 1) (by have := hl2; omega) (badN t a s2.1 s2.2 ⟨withE true (XExpr.mk q1 q2 q3) (XExpr.mk w1 w2 w3), (p4.getD 1 nilP), (XExpr.mk c1 c2 c3)⟩) 6 (XExpr.mk w1 w2 w3) (XProg.mk p1 p2 (XExpr.mk q1 q2 q3) p4) (XExpr.mk c1 c2 c3) [nodeD 8 (withE false (XExpr.mk q1 q2 q3) (XExpr.mk w1 w2 w3)) (p4.getD 0 nilP) (XExpr.mk c1 c2 c3) [d0], nodeD 8 (withE true (XExpr.mk q1 q2 q3) (XExpr.mk w1 w2 w3)) (p4.getD 1 nilP) (XExpr.mk c1 c2 c3) [d1]] ⟨by omega, by omega, by omega⟩
  unfold MkOk
  refine callX_of_vc htb hm Tryz.func34 rfl rfl rfl rfl (ann := fun _ => none) (gh := fun reg_ => match reg_ with | 4 => true | _ => false) ?_
  repeat' ((conv => whnf); first | (guard_target = Done _; refine Done.mk ?_) | (guard_target = RetX _ _; refine RetX.mk ?_ ?_) | (guard_target = Fact _ _; refine Fact.mk fun hL => ?_; (try simp only [maxLen] at hL)) | (guard_target = Branch _ _ _; (first | refine Branch.dec ?_ ?_ | refine Branch.beq ?_ ?_ | refine Branch.bne ?_ ?_ | refine Branch.ndec ?_ ?_ | refine Branch.nb ?_ ?_ | refine Branch.mk ?_ ?_) <;> intro h <;> (try simp only [] at h) <;> (try omega) <;> (try contradiction)) | (guard_target = CallN _ 92 _ _ _ _; refine CallN.gen [true, false, false] _ _ _ rfl (hsu) rfl rfl _ rfl ?_) | (guard_target = CallN _ 94 _ _ _ _; refine CallN.gen [true, false, false, false, false, false] _ _ _ rfl (g0) rfl rfl _ rfl ?_) | (guard_target = CallN _ 94 _ _ _ _; refine CallN.gen [true, false, false, false, false, false] _ _ _ rfl (g1) rfl rfl _ rfl ?_) | (guard_target = CallN _ 35 _ _ _ _; refine CallN.gen [true, false, false, false, false, true] _ _ _ rfl (n1) rfl rfl _ rfl ?_) | (guard_target = Gh _ _ _ _ _; refine Gh.frzp 8 _ rfl (Gh.go ?_)) | (guard_target = Arith _ _ _; refine Arith.fit (wrap_fit (by first | omega | (simp only [List.length_map]; omega)) (by first | omega | (simp only [List.length_map]; omega))) ?_) | (guard_target = Arith _ _ _; refine Arith.fit (by decide) ?_) | (guard_target = Index _ _ _; first  | refine Index.mk _ (idx_map (by omega)) ?_) | (guard_target = Need (_ = true) _; refine Need.mk (by first | kernel_rfl | rfl) ?_) | (guard_target = LinkV _ _ _; first  | refine LinkV.no ?_) | (guard_target = GhO _ _ _ _; refine GhO.go ?_) | (guard_target = Need _ _; refine Need.mk (by first | ((simp only [List.length_append, List.length_cons, List.length_nil, maxLen]; constructor <;> omega)) | omega | (simp only [List.length_map]; omega)) ?_))
  all_goals first | trivial | rfl | exact ⟨rfl, trivial⟩
theorem mak7 (h : p1 = 7) (s1 : Sst) (hl1 : Lim s1) (d0 : XDerivation) (h0 : MkOk t a l (p4.getD 0 nilP) (XExpr.mk w1 w2 w3) (left, false) d0 s1) :
    MkOk t a l (XProg.mk p1 p2 (XExpr.mk q1 q2 q3) p4) (XExpr.mk c1 c2 c3) (left, false) (nodeD 8 (XExpr.mk w1 w2 w3) (XProg.mk p1 p2 (XExpr.mk q1 q2 q3) p4) (XExpr.mk c1 c2 c3) [nodeD 7 (XExpr.mk w1 w2 w3) (XProg.mk p1 p2 (XExpr.mk q1 q2 q3) p4) (withE true (XExpr.mk q1 q2 q3) (XExpr.mk w1 w2 w3)) [nodeD 8 (withE false (XExpr.mk q1 q2 q3) (XExpr.mk w1 w2 w3)) (p4.getD 0 nilP) (XExpr.mk w1 w2 w3) [d0]]]) (ndS t a (ndS t a (ndS t a s1 (withE false (XExpr.mk q1 q2 q3) (XExpr.mk w1 w2 w3)) (p4.getD 0 nilP) (XExpr.mk w1 w2 w3)) (XExpr.mk w1 w2 w3) (XProg.mk p1 p2 (XExpr.mk q1 q2 q3) p4) (withE true (XExpr.mk q1 q2 q3) (XExpr.mk w1 w2 w3))) (XExpr.mk w1 w2 w3) (XProg.mk p1 p2 (XExpr.mk q1 q2 q3) p4) (XExpr.mk c1 c2 c3)) := by
  have hwb : budExpr (XExpr.mk w1 w2 w3) ≤ 200 := by rw [← hw]; exact bud_weak ht hN.2.2 l _ _
  have hsu := sure_ok t a ht l hl N hN left false (XProg.mk p1 p2 (XExpr.mk q1 q2 q3) p4) hp (XExpr.mk c1 c2 c3) hc _ hw
  have hlen := hp.len
  have hk2 : p4.length = 1 := by
    have h1 : (p4.length : Int) = pkN p1 := hlen.1
    have h2 : pkN p1 = 1 := hlen.2.2.2 h
    omega
  have hqb : budExpr (XExpr.mk q1 q2 q3) ≤ 12060 := by rw [budProg] at hpb; omega
  have hw2 := bud_with true (XExpr.mk q1 q2 q3) (XExpr.mk w1 w2 w3)
  have hwt := l07With_told true p1 p2 q1 q2 q3 p4 (XExpr.mk w1 w2 w3) (by omega) (by omega)
  have g0 := part_ok t a hs l p1 p2 q1 q2 q3 p4 hpb false 0 (by omega) (XExpr.mk w1 w2 w3) (XExpr.mk w1 w2 w3) hwb hwb (left, false) s1 hl1 d0 h0
  have n1 := nodeS_ok t a hs l (s1.1 - 1) (by have := hl1; omega) (badN t a s1.1 s1.2 ⟨withE false (XExpr.mk q1 q2 q3) (XExpr.mk w1 w2 w3), (p4.getD 0 nilP), (XExpr.mk w1 w2 w3)⟩) 7 (XExpr.mk w1 w2 w3) (XProg.mk p1 p2 (XExpr.mk q1 q2 q3) p4) (withE true (XExpr.mk q1 q2 q3) (XExpr.mk w1 w2 w3)) [nodeD 8 (withE false (XExpr.mk q1 q2 q3) (XExpr.mk w1 w2 w3)) (p4.getD 0 nilP) (XExpr.mk w1 w2 w3) [d0]] ⟨by omega, by omega, by omega⟩
  have n2 := nodeS_ok t a hs l (s1.1 - 1 - 1) (by have := hl1; omega) (badN t a (s1.1 - 1) (badN t a s1.1 s1.2 ⟨withE false (XExpr.mk q1 q2 q3) (XExpr.mk w1 w2 w3), (p4.getD 0 nilP), (XExpr.mk w1 w2 w3)⟩) ⟨(XExpr.mk w1 w2 w3), (XProg.mk p1 p2 (XExpr.mk q1 q2 q3) p4), withE true (XExpr.mk q1 q2 q3) (XExpr.mk w1 w2 w3)⟩) 8 (XExpr.mk w1 w2 w3) (XProg.mk p1 p2 (XExpr.mk q1 q2 q3) p4) (XExpr.mk c1 c2 c3) [nodeD 7 (XExpr.mk w1 w2 w3) (XProg.mk p1 p2 (XExpr.mk q1 q2 q3) p4) (withE true (XExpr.mk q1 q2 q3) (XExpr.mk w1 w2 w3)) [nodeD 8 (withE false (XExpr.mk q1 q2 q3) (XExpr.mk w1 w2 w3)) (p4.getD 0 nilP) (XExpr.mk w1 w2 w3) [d0]]] ⟨by omega, by omega, by omega⟩
  unfold MkOk
  refine callX_of_vc htb hm Tryz.func34 rfl rfl rfl rfl (ann := fun _ => none) (gh := fun reg_ => match reg_ with | 4 => true | _ => false) ?_
  repeat' ((conv => whnf); first | (guard_target = Done _; refine Done.mk ?_) | (guard_target = RetX _ _; refine RetX.mk ?_ ?_) | (guard_target = Fact _ _; refine Fact.mk fun hL => ?_; (try simp only [List.length_map, maxLen] at hL)) | (guard_target = Branch _ _ _; (first | refine Branch.dec ?_ ?_ | refine Branch.beq ?_ ?_ | refine Branch.bne ?_ ?_ | refine Branch.ndec ?_ ?_ | refine Branch.nb ?_ ?_ | refine Branch.mk ?_ ?_) <;> intro h <;> (try simp only [] at h) <;> (try omega) <;> (try contradiction)) | (guard_target = CallN _ 92 _ _ _ _; refine CallN.gen [true, false, false] _ _ _ rfl (hsu) rfl rfl _ rfl ?_) | (guard_target = CallN _ 94 _ _ _ _; refine CallN.gen [true, false, false, false, false, false] _ _ _ rfl (g0) rfl rfl _ rfl ?_) | (guard_target = CallN _ 95 _ _ _ _; refine CallN.gen [] _ _ _ rfl (hwt) rfl rfl _ rfl ?_) | (guard_target = CallN _ 35 _ _ _ _; refine CallN.gen [true, false, false, false, false, true] _ _ _ rfl (n1) rfl rfl _ rfl ?_) | (guard_target = CallN _ 35 _ _ _ _; refine CallN.gen [true, false, false, false, false, true] _ _ _ rfl (n2) rfl rfl _ rfl ?_) | (guard_target = Gh _ _ _ _ _; refine Gh.frzp 8 _ rfl (Gh.go ?_)) | (guard_target = Arith _ _ _; refine Arith.fit (wrap_fit (by first | omega | (simp only [List.length_map]; omega)) (by first | omega | (simp only [List.length_map]; omega))) ?_) | (guard_target = Arith _ _ _; refine Arith.fit (by decide) ?_) | (guard_target = Index _ _ _; first  | refine Index.mk _ (idx_map (by omega)) ?_) | (guard_target = Need (_ = true) _; refine Need.mk (by first | kernel_rfl | rfl) ?_) | (guard_target = LinkV _ _ _; first  | refine LinkV.no ?_) | (guard_target = GhO _ _ _ _; refine GhO.go ?_) | (guard_target = Need _ _; refine Need.mk (by first | ((simp only [List.length_cons, List.length_nil, maxLen]; constructor <;> omega)) | omega | (simp only [List.length_map]; omega)) ?_))
  all_goals first | trivial | rfl | exact ⟨rfl, trivial⟩
end
end Go.Proofs.YtmpcfplelpdbhaaGreat

namespace Go.Proofs.YtmpcfplelpdbhaaGreat
open Go Go.KA Go.Proofs
set_option maxRecDepth 100000
structure Adv (s : Sst) (n : Nat) (v : Bool) (s' : Sst) (K : Int) : Prop where
  lo : s.1 - K ≤ s'.1
  hi : s'.1 ≤ s.1
  fin : s'.2 = false ↔ s.2 = false ∧ (n : Int) ≤ s.1 ∧ v = true
  val : s'.2 = false → s'.1 = s.1 - n
theorem Adv.pre {s s' : Sst} {n : Nat} {v : Bool} {K : Int} (h : Adv s n v s' K) (hb : s'.2 = false) : s.2 = false := (h.fin.1 hb).1
theorem Adv.node (t a : Int) (s : Sst) (pre : XExpr) (p : XProg) (post : XExpr) : Adv s 1 (goodT t a ⟨pre, p, post⟩) (ndS t a s pre p post) 1 := by
  refine ⟨Int.le_refl _, by show s.1 - 1 ≤ s.1; omega, ?_, fun _ => rfl⟩
  show badN t a s.1 s.2 ⟨pre, p, post⟩ = false ↔ _
  unfold badN
  simp only [Bool.or_eq_false_iff, decide_eq_false_iff_not, Bool.not_eq_false']
  constructor
  · rintro ⟨h1, h2, h3⟩; exact ⟨h1, by omega, h3⟩
  · rintro ⟨h1, h2, h3⟩; exact ⟨h1, by omega, h3⟩
theorem Adv.trans {s s1 s2 : Sst} {n1 n2 : Nat} {v1 v2 : Bool} {K1 K2 : Int} (h1 : Adv s n1 v1 s1 K1) (h2 : Adv s1 n2 v2 s2 K2) : Adv s (n1 + n2) (v1 && v2) s2 (K1 + K2) := by
  have a1 := h1.lo; have a2 := h2.lo; have a3 := h1.hi; have a4 := h2.hi
  refine ⟨by omega, by omega, ?_, fun hb => ?_⟩
  · rw [h2.fin]
    constructor
    · rintro ⟨b1, b2, b3⟩
      obtain ⟨c1, c2, c3⟩ := h1.fin.1 b1
      have := h1.val b1
      exact ⟨c1, by omega, by rw [b3, c3]; rfl⟩
    · rintro ⟨b1, b2, b3⟩
      rw [Bool.and_eq_true] at b3
      have hs1 : s1.2 = false := h1.fin.2 ⟨b1, by omega, b3.1⟩
      have := h1.val hs1
      exact ⟨hs1, by omega, b3.2⟩
  · have e1 := h2.val hb
    have e2 := h1.val (h2.pre hb)
    omega
theorem Adv.bad (left : Int) (n : Nat) (v : Bool) (K : Int) (hK : 0 ≤ K) : Adv (left, true) n v (left, true) K :=
  ⟨by show left - K ≤ left; omega, Int.le_refl _, ⟨(fun h => by cases h), (fun h => by cases h.1)⟩, (fun h => by cases h)⟩
theorem Adv.to {s s' : Sst} {n n' : Nat} {v v' : Bool} {K K' : Int} (h : Adv s n v s' K) (hn : n = n') (hv : v = v') (hK : K ≤ K') : Adv s n' v' s' K' := by
  subst hn hv
  have := h.lo
  exact ⟨by omega, h.hi, h.fin, h.val⟩
theorem Adv.acts (t a : Int) (p : XProg) (w c : XExpr) : ∀ (l : List XPremise) (s : Sst), Adv s (l.length + 1) ((l.all fun x => goodT t a ⟨x.pre, p, x.post⟩) && goodT t a ⟨w, p, c⟩) (ndS t a (l.foldl (fun s x => ndS t a s x.pre p x.post) s) w p c) ((l.length : Int) + 1)
  | [], s => (Adv.node t a s w p c).to rfl (by simp) (by simp)
  | x :: l, s => by
    have h := (Adv.node t a s x.pre p x.post).trans (Adv.acts t a p w c l (ndS t a s x.pre p x.post))
    exact h.to (by simp; omega) (by simp [Bool.and_assoc]) (by simp; omega)
theorem say_node (t a : Int) (r : Int) (pre : XExpr) (p : XProg) (post : XExpr) (ks : List XDerivation) : sayD t a (nodeD r pre p post ks) = (ks.all (sayD t a) && goodT t a ⟨pre, p, post⟩) := sayD_eq t a _
theorem size_node (r : Int) (pre : XExpr) (p : XProg) (post : XExpr) (ks : List XDerivation) : sizeD (nodeD r pre p post ks) = 1 + sizeL ks := rfl
theorem hleft_of {left : Int} {b : Nat} (h1 : -1000000 + 30 * ((b : Int) + 1) ≤ left) (h2 : left ≤ 1000) : -1000000 ≤ left ∧ left ≤ 1000 := ⟨by omega, h2⟩
def MkEx (t a : Int) (N : Nat) (l : List XPremise) (p : XProg) (c : XExpr) (s : Sst) : Prop :=
  ∃ d s', MkOk t a l p c s d s' ∧ Adv s (sizeD (findD t N l p c)) (sayD t a (findD t N l p c)) s' (30 * ((budProg p : Int) + 1)) ∧ (s'.2 = false → d = findD t N l p c)
theorem size_one (d : XDerivation) : sizeL [d] = sizeD d := by simp [sizeL]
theorem size_two (d e : XDerivation) : sizeL [d, e] = sizeD d + sizeD e := by simp [sizeL]
section
variable (t a : Int) (hs : goodSig t a = true) (ht : 0 ≤ t ∧ t ≤ 3) (l : List XPremise) (hl : PremOk t a l) (hlg : l.length ≤ 12 ∧ ∀ x ∈ l, budExpr x.pre ≤ 200 ∧ budExpr x.post ≤ 200) (N : Nat) (hN : atomsN t = N ∧ 1 ≤ N ∧ N ≤ 8)
include hs ht hl hlg hN
theorem mk_all (p : XProg) (hp : POk t a p) (hpb : budProg p ≤ 12060)
    (hx : ∀ k ∈ p.kids, ∀ c, okC t a c → budExpr c ≤ 200 → ∀ s : Sst, -1000000 + 30 * ((budProg k : Int) + 1) ≤ s.1 → s.1 ≤ 1000 → MkEx t a N l k c s)
    (c : XExpr) (hc : okC t a c) (hcb : budExpr c ≤ 200) (s : Sst) (h1 : -1000000 + 30 * ((budProg p : Int) + 1) ≤ s.1) (h2 : s.1 ≤ 1000) : MkEx t a N l p c s := by
  obtain ⟨left, bad⟩ := s
  simp only [] at h1 h2
  cases bad with
  | true => exact ⟨nilD, (left, true), mk_bad t a l p c left, Adv.bad left _ _ _ (by omega), (fun h => by cases h)⟩
  | false =>
    have hlen := hp.len
    have hkind := hp.kind
    have hxk : ∀ i, i < p.kids.length → ∀ c, okC t a c → budExpr c ≤ 200 → ∀ s : Sst, -1000000 + 30 * ((budProg (p.kids.getD i nilP) : Int) + 1) ≤ s.1 → s.1 ≤ 1000 → MkEx t a N l (p.kids.getD i nilP) c s := fun i hi => by
      rw [kid_getD hi]; exact hx _ (List.getElem_mem hi)
    have hb : budS budProg p.kids ≤ budProg p := by
      cases p
      simp only [budProg, budProgS_eq, XProg.kids]
      omega
    have hb2 : p.kids.length = 2 → budProg (p.kids.getD 0 nilP) + budProg (p.kids.getD 1 nilP) + 2 ≤ budProg p := fun h => by
      match hks : p.kids, h with
      | [x, y], _ =>
        rw [hks] at hb
        simp only [budS, bsum, List.length_cons, List.length_nil] at hb
        show budProg x + budProg y + 2 ≤ _
        omega
    have hb1 : p.kids.length = 1 → budProg (p.kids.getD 0 nilP) + 1 ≤ budProg p := fun h => by
      match hks : p.kids, h with
      | [x], _ =>
        rw [hks] at hb
        simp only [budS, bsum, List.length_cons, List.length_nil] at hb
        show budProg x + 1 ≤ _
        omega
    have how : okC t a (weakE t N l p c) := okC_weak ht.1 N l p c
    have hwb := bud_weak ht hN.2.2 l p c
    have e : p.kind = 1 ∨ p.kind = 2 ∨ p.kind = 3 ∨ p.kind = 4 ∨ p.kind = 5 ∨ p.kind = 6 ∨ p.kind = 7 := by omega
    have k2 : pkN p.kind = 2 → p.kids.length = 2 := fun h => by have := hlen.1; omega
    have k1 : pkN p.kind = 1 → p.kids.length = 1 := fun h => by have := hlen.1; omega
    obtain ⟨w1, w2, w3, hw⟩ := ex_mk (weakE t N l p c)
    rw [hw] at how hwb
    have f1 := find1 hw
    have f2 := find2 hw
    have f3 := find3 hw
    have f4 := find4 hw
    have f5 := @find5 t N l p c _ hw
    have f6 := @find6 t N l p c _ hw
    have f7 := @find7 t N l p c _ hw
    obtain ⟨p1, p2, ⟨q1, q2, q3⟩, p4⟩ := p
    obtain ⟨c1, c2, c3⟩ := c
    have g := hleft_of h1 h2
    rcases e with e | e | e | e | e | e | e
    · have m := mak1 t a hs ht l hl hlg N hN p1 p2 q1 q2 q3 p4 hp hpb c1 c2 c3 hc hcb w1 w2 w3 hw left g e
      refine ⟨_, _, m, ?_, fun _ => (f1 e).symm⟩
      rw [f1 e]
      exact ((Adv.node t a (left, false) _ _ _).trans (Adv.node t a _ _ _ _)).to (by simp [size_node, sizeL]) (by simp [say_node]) (by omega)
    · have m := mak2 t a hs ht l hl hlg N hN p1 p2 q1 q2 q3 p4 hp hpb c1 c2 c3 hc hcb w1 w2 w3 hw left g e
      refine ⟨_, _, m, ?_, fun _ => (f2 e).symm⟩
      rw [f2 e]
      exact (Adv.node t a (left, false) _ _ _).to (by simp [size_node, sizeL]) (by simp [say_node]) (by omega)
    · have m := mak3 t a hs ht l hl hlg N hN p1 p2 q1 q2 q3 p4 hp hpb c1 c2 c3 hc hcb w1 w2 w3 hw left g e
      refine ⟨_, _, m, ?_, fun _ => (f3 e).symm⟩
      rw [f3 e]
      have hfl := List.length_filter_le (fun x : XPremise => x.act == p2) l
      have h12 := hlg.1
      refine (Adv.acts t a (.mk p1 p2 (.mk q1 q2 q3) p4) (.mk w1 w2 w3) (.mk c1 c2 c3) (l.filter fun x => x.act == p2) (left, false)).to ?_ ?_ (by omega)
      · rw [size_node]
        unfold actsD
        rw [sizeL_map _ fun x => by simp [sizeD, sizeL]]
        exact Nat.add_comm _ _
      · rw [say_node]
        unfold actsD
        rw [List.all_map]
        rfl
    · have m := mak4 t a hs ht l hl hlg N hN p1 p2 q1 q2 q3 p4 hp hpb c1 c2 c3 hc hcb w1 w2 w3 hw left g e
      refine ⟨_, _, m, ?_, fun _ => (f4 e).symm⟩
      rw [f4 e]
      exact ((Adv.node t a (left, false) _ _ _).trans (Adv.node t a _ _ _ _)).to (by simp [size_node, sizeL]) (by simp [say_node, XProg.cond]) (by omega)
    · have hl2 := k2 (by show pkN p1 = 2; rw [show p1 = 5 from e]; rfl)
      have hb := hb2 hl2
      simp only [XProg.kids] at hl2 hb hxk
      have hm := okC_weak (a := a) ht.1 N l (p4.getD 1 nilP) (.mk c1 c2 c3)
      have hmb := bud_weak ht hN.2.2 l (p4.getD 1 nilP) (.mk c1 c2 c3)
      obtain ⟨d0, s1, g0, a0, r0⟩ := hxk 0 (by omega) _ hm hmb (left, false) (by simp only []; omega) (by simp only []; omega)
      have l0 := a0.lo; have i0 := a0.hi
      simp only [] at l0 i0
      obtain ⟨d1, s2, g1, a1, r1⟩ := hxk 1 (by omega) _ hc hcb s1 (by omega) (by omega)
      have l1 := a1.lo; have i1 := a1.hi
      have m := mak5 t a hs ht l hl hlg N hN p1 p2 q1 q2 q3 p4 hp hpb c1 c2 c3 hc hcb w1 w2 w3 hw left g e _ rfl s1 s2 ⟨by omega, by omega⟩ ⟨by omega, by omega⟩ d0 d1 g0 g1
      refine ⟨_, _, m, ?_, fun hf => ?_⟩
      · rw [f5 e hl2 rfl rfl rfl]
        exact ((a0.trans a1).trans (Adv.node t a s2 _ _ _)).to (by rw [size_node, size_two]; simp only [XProg.kids]; omega) (by simp [say_node, XProg.kids]) (by omega)
      · have n := Adv.node t a s2 (.mk w1 w2 w3) (.mk p1 p2 (.mk q1 q2 q3) p4) (.mk c1 c2 c3)
        have hf2 := n.pre hf
        rw [r1 hf2, r0 (a1.pre hf2)]
        exact (f5 e hl2 rfl rfl rfl).symm
    · have hl2 := k2 (by show pkN p1 = 2; rw [show p1 = 6 from e]; rfl)
      have hb := hb2 hl2
      simp only [XProg.kids] at hl2 hb hxk
      obtain ⟨d0, s1, g0, a0, r0⟩ := hxk 0 (by omega) _ hc hcb (left, false) (by simp only []; omega) (by simp only []; omega)
      have l0 := a0.lo; have i0 := a0.hi
      simp only [] at l0 i0
      have b0 := Adv.node t a s1 (withE false (.mk q1 q2 q3) (.mk w1 w2 w3)) (p4.getD 0 nilP) (.mk c1 c2 c3)
      obtain ⟨d1, s2, g1, a1, r1⟩ := hxk 1 (by omega) _ hc hcb (ndS t a s1 (withE false (.mk q1 q2 q3) (.mk w1 w2 w3)) (p4.getD 0 nilP) (.mk c1 c2 c3)) (by show _ ≤ s1.1 - 1; omega) (by show s1.1 - 1 ≤ _; omega)
      have l1 := a1.lo; have i1 := a1.hi
      simp only [] at l1 i1
      have b1 := Adv.node t a s2 (withE true (.mk q1 q2 q3) (.mk w1 w2 w3)) (p4.getD 1 nilP) (.mk c1 c2 c3)
      have b2 := Adv.node t a (ndS t a s2 (withE true (.mk q1 q2 q3) (.mk w1 w2 w3)) (p4.getD 1 nilP) (.mk c1 c2 c3)) (.mk w1 w2 w3) (.mk p1 p2 (.mk q1 q2 q3) p4) (.mk c1 c2 c3)
      have m := mak6 t a hs ht l hl N hN p1 p2 q1 q2 q3 p4 hp hpb c1 c2 c3 hc hcb w1 w2 w3 hw left e s1 s2 ⟨by omega, by omega⟩ ⟨by omega, by omega⟩ d0 d1 g0 g1
      refine ⟨_, _, m, ?_, fun hf => ?_⟩
      · rw [f6 e hl2 rfl rfl]
        exact ((((a0.trans b0).trans a1).trans b1).trans b2).to (by simp only [size_node, size_two, size_one, XProg.kids, XProg.cond]; omega) (by simp [say_node, XProg.kids, XProg.cond, withE, Bool.and_assoc]) (by omega)
      · have hf1 := b1.pre (b2.pre hf)
        rw [r1 hf1, r0 (b0.pre (a1.pre hf1))]
        exact (f6 e hl2 rfl rfl).symm
    · have hl2 := k1 (by show pkN p1 = 1; rw [show p1 = 7 from e]; rfl)
      have hb := hb1 hl2
      simp only [XProg.kids] at hl2 hb hxk
      obtain ⟨d0, s1, g0, a0, r0⟩ := hxk 0 (by omega) _ how hwb (left, false) (by simp only []; omega) (by simp only []; omega)
      have l0 := a0.lo; have i0 := a0.hi
      simp only [] at l0 i0
      have b0 := Adv.node t a s1 (withE false (.mk q1 q2 q3) (.mk w1 w2 w3)) (p4.getD 0 nilP) (.mk w1 w2 w3)
      have b1 := Adv.node t a (ndS t a s1 (withE false (.mk q1 q2 q3) (.mk w1 w2 w3)) (p4.getD 0 nilP) (.mk w1 w2 w3)) (.mk w1 w2 w3) (.mk p1 p2 (.mk q1 q2 q3) p4) (withE true (.mk q1 q2 q3) (.mk w1 w2 w3))
      have b2 := Adv.node t a (ndS t a (ndS t a s1 (withE false (.mk q1 q2 q3) (.mk w1 w2 w3)) (p4.getD 0 nilP) (.mk w1 w2 w3)) (.mk w1 w2 w3) (.mk p1 p2 (.mk q1 q2 q3) p4) (withE true (.mk q1 q2 q3) (.mk w1 w2 w3))) (.mk w1 w2 w3) (.mk p1 p2 (.mk q1 q2 q3) p4) (.mk c1 c2 c3)
      have m := mak7 t a hs ht l hl N hN p1 p2 q1 q2 q3 p4 hp hpb c1 c2 c3 hc hcb w1 w2 w3 hw left e s1 ⟨by omega, by omega⟩ d0 g0
      refine ⟨_, _, m, ?_, fun hf => ?_⟩
      · rw [f7 e hl2 rfl]
        exact (((a0.trans b0).trans b1).trans b2).to (by simp only [size_node, size_one, XProg.kids, XProg.cond]; omega) (by simp [say_node, XProg.kids, XProg.cond, withE, Bool.and_assoc]) (by omega)
      · rw [r0 (b0.pre (b1.pre (b2.pre hf)))]
        exact (f7 e hl2 rfl).symm
theorem mk_ex (p : XProg) (hp : POk t a p) (hpb : budProg p ≤ 12060) (c : XExpr) (hc : okC t a c) (hcb : budExpr c ≤ 200) (s : Sst) (h1 : -1000000 + 30 * ((budProg p : Int) + 1) ≤ s.1) (h2 : s.1 ≤ 1000) : MkEx t a N l p c s :=
  mk_all t a hs ht l hl hlg N hN p hp hpb (fun k _hk c hc hcb s h1 h2 => mk_ex k (hp.kid _hk) (by
    cases p
    rw [budProg, budProgS_eq] at hpb
    have := budS_mem budProg _hk
    simp only [XProg.kids] at this
    omega) c hc hcb s h1 h2) c hc hcb s h1 h2
  termination_by SizeOf.sizeOf p
  decreasing_by
    have := List.sizeOf_lt_of_mem _hk
    cases p
    simp only [XProg.mk.sizeOf_spec]
    show SizeOf.sizeOf k < _
    simp only [XProg.kids] at this
    omega
end
end Go.Proofs.YtmpcfplelpdbhaaGreat

namespace Go.Proofs.YtmpcfplelpdbhaaGreat
open Go Go.KA Go.Proofs
set_option maxHeartbeats 16000000
set_option maxRecDepth 100000
theorem zero_softD {P : Program} {f : Nat} {args : List SV} {c : Int} (h : CallX P f args [] (.tup [.a 14 [J 0, J 0, J 0, .ows 37 3 [], J 0, J 0, J 0, J 0, .ows 37 3 [], .ows 40 6 [], J 0, J 0, .ows 37 3 [], .ows 45 14 []], I c])) : CallX P f args [] (.tup [.a 14 (encDerivation nilD), I c]) :=
  h.soft (.tup (.cons (.a (.same (.same (.same (.ro (.same (.same (.same (.same (.ro (.ro (.same (.same (.ro (.ro .nil))))))))))))))) (.cons .same .nil)))
theorem prem_bud {t a : Int} {l : List XPremise} (h : goodL t a l = true) : ∀ x ∈ l, budExpr x.pre ≤ 200 ∧ budExpr x.post ≤ 200 := by
  unfold goodL at h
  simp only [Bool.and_eq_true, decide_eq_true_eq, List.all_eq_true] at h
  intro x hx
  have := h.2 x hx
  unfold goodPr at this
  simp only [Bool.and_eq_true] at this
  exact ⟨condG_bud this.1, condG_bud this.2.1⟩
section
variable (t a : Int) (l : List XPremise) (x : XTriple) (hb1 : budS budPremise l ≤ 1048576) (hb2 : budTriple x ≤ 1048576)
include hb1 hb2
theorem specFD_inv (h : ((goodSig t a && goodL t a l) && goodT t a x) = false) : CallX Tryz.prog 7 (argsD t a l x) [] (.tup [.a 14 (encDerivation nilD), I 1]) := by
  have h1 := l07Premises_ok t a l hb1
  have h2 := l07Triple_ok t a x hb2
  refine zero_softD ?_
  cases hs : goodSig t a && goodL t a l with
  | true =>
    rw [hs] at h1 h
    have hsg : goodSig t a = true := (Bool.and_eq_true _ _ ▸ hs).1
    rw [Bool.true_and] at h
    rw [hsg, h] at h2
    refine callX_of_vc htb hm Tryz.func7 rfl rfl rfl rfl (ann := fun _ => none) (gh := fun reg_ => match reg_ with | 1 => true | _ => false) ?_
    repeat' ((conv => whnf); first | (guard_target = Done _; refine Done.mk ?_) | (guard_target = RetX _ _; refine RetX.mk ?_ ?_) | (guard_target = Fact _ _; refine Fact.mk fun hL => ?_; (try simp only [List.length_map, maxLen] at hL)) | (guard_target = Branch _ _ _; (first | refine Branch.dec ?_ ?_ | refine Branch.beq ?_ ?_ | refine Branch.bne ?_ ?_ | refine Branch.ndec ?_ ?_ | refine Branch.nb ?_ ?_ | refine Branch.mk ?_ ?_) <;> intro h <;> (try simp only [] at h) <;> (try omega) <;> (try contradiction)) | (guard_target = CallN _ 31 _ _ _ _; refine CallN.pure _ _ rfl (h1) rfl _ rfl ?_) | (guard_target = CallN _ 32 _ _ _ _; refine CallN.pure _ _ rfl (h2) rfl _ rfl ?_) | (guard_target = Gh _ _ _ _ _; refine Gh.frzp 1 _ rfl (Gh.go ?_)) | (guard_target = Arith _ _ _; refine Arith.fit (wrap_fit (by first | omega | (simp only [List.length_map]; omega)) (by first | omega | (simp only [List.length_map]; omega))) ?_) | (guard_target = Arith _ _ _; refine Arith.fit (by decide) ?_) | (guard_target = Index _ _ _; first  | refine Index.mk _ (idx_map (by omega)) ?_) | (guard_target = Need (_ = true) _; refine Need.mk (by first | kernel_rfl | rfl) ?_) | (guard_target = LinkV _ _ _; first  | refine LinkV.no ?_) | (guard_target = GhO _ _ _ _; refine GhO.go ?_) | (guard_target = Need _ _; refine Need.mk (by first  | omega | (simp only [List.length_map]; omega)) ?_))
    all_goals first | rfl | trivial
  | false =>
    rw [hs] at h1
    refine callX_of_vc htb hm Tryz.func7 rfl rfl rfl rfl (ann := fun _ => none) (gh := fun reg_ => match reg_ with | 1 => true | _ => false) ?_
    repeat' ((conv => whnf); first | (guard_target = Done _; refine Done.mk ?_) | (guard_target = RetX _ _; refine RetX.mk ?_ ?_) | (guard_target = Fact _ _; refine Fact.mk fun hL => ?_; (try simp only [List.length_map, maxLen] at hL)) | (guard_target = Branch _ _ _; (first | refine Branch.dec ?_ ?_ | refine Branch.beq ?_ ?_ | refine Branch.bne ?_ ?_ | refine Branch.ndec ?_ ?_ | refine Branch.nb ?_ ?_ | refine Branch.mk ?_ ?_) <;> intro h <;> (try simp only [] at h) <;> (try omega) <;> (try contradiction)) | (guard_target = CallN _ 31 _ _ _ _; refine CallN.pure _ _ rfl (h1) rfl _ rfl ?_) | (guard_target = Gh _ _ _ _ _; refine Gh.frzp 1 _ rfl (Gh.go ?_)) | (guard_target = Arith _ _ _; refine Arith.fit (wrap_fit (by first | omega | (simp only [List.length_map]; omega)) (by first | omega | (simp only [List.length_map]; omega))) ?_) | (guard_target = Arith _ _ _; refine Arith.fit (by decide) ?_) | (guard_target = Index _ _ _; first  | refine Index.mk _ (idx_map (by omega)) ?_) | (guard_target = Need (_ = true) _; refine Need.mk (by first | kernel_rfl | rfl) ?_) | (guard_target = LinkV _ _ _; first  | refine LinkV.no ?_) | (guard_target = GhO _ _ _ _; refine GhO.go ?_) | (guard_target = Need _ _; refine Need.mk (by first  | omega | (simp only [List.length_map]; omega)) ?_))
    all_goals first | rfl | trivial
variable (hs : goodSig t a = true) (hg : goodL t a l = true) (ht : goodT t a x = true) (N : Nat) (hN : atomsN t = N ∧ 1 ≤ N ∧ N ≤ 8)
include hs hg ht hN
theorem specFD_state (h : holdsT N l x = false) : CallX Tryz.prog 7 (argsD t a l x) [] (.tup [.a 14 (encDerivation nilD), I 4]) := by
  have h1 := l07Premises_ok t a l hb1
  have h2 := l07Triple_ok t a x hb2
  rw [hs, hg] at h1
  rw [hs, ht] at h2
  have hb := sig_bounds hs
  have ho := tripOk ht
  have h3 := l07Holds_ok t a hb.1 l (premOk hg).1 N hN x ho.1 ho.2.1 ho.2.2
  rw [h] at h3
  refine zero_softD ?_
  refine callX_of_vc htb hm Tryz.func7 rfl rfl rfl rfl (ann := fun _ => none) (gh := fun reg_ => match reg_ with | 1 => true | _ => false) ?_
  repeat' ((conv => whnf); first | (guard_target = Done _; refine Done.mk ?_) | (guard_target = RetX _ _; refine RetX.mk ?_ ?_) | (guard_target = Fact _ _; refine Fact.mk fun hL => ?_; (try simp only [List.length_map, maxLen] at hL)) | (guard_target = Branch _ _ _; (first | refine Branch.dec ?_ ?_ | refine Branch.beq ?_ ?_ | refine Branch.bne ?_ ?_ | refine Branch.ndec ?_ ?_ | refine Branch.nb ?_ ?_ | refine Branch.mk ?_ ?_) <;> intro h <;> (try simp only [] at h) <;> (try omega) <;> (try contradiction)) | (guard_target = CallN _ 31 _ _ _ _; refine CallN.pure _ _ rfl (h1) rfl _ rfl ?_) | (guard_target = CallN _ 32 _ _ _ _; refine CallN.pure _ _ rfl (h2) rfl _ rfl ?_) | (guard_target = CallN _ 33 _ _ _ _; refine CallN.pure _ _ rfl (h3) rfl _ rfl ?_) | (guard_target = Gh _ _ _ _ _; refine Gh.frzp 1 _ rfl (Gh.go ?_)) | (guard_target = Arith _ _ _; refine Arith.fit (wrap_fit (by first | omega | (simp only [List.length_map]; omega)) (by first | omega | (simp only [List.length_map]; omega))) ?_) | (guard_target = Arith _ _ _; refine Arith.fit (by decide) ?_) | (guard_target = Index _ _ _; first  | refine Index.mk _ (idx_map (by omega)) ?_) | (guard_target = Need (_ = true) _; refine Need.mk (by first | kernel_rfl | rfl) ?_) | (guard_target = LinkV _ _ _; first  | refine LinkV.no ?_) | (guard_target = GhO _ _ _ _; refine GhO.go ?_) | (guard_target = Need _ _; refine Need.mk (by first  | omega | (simp only [List.length_map]; omega)) ?_))
  all_goals first | rfl | trivial
theorem specFD_rest (h : holdsT N l x = true) : CallX Tryz.prog 7 (argsD t a l x) [] (if sizeD (wholeD t N l x) ≤ 400 ∧ sayD t a (wholeD t N l x) = true then .tup [.a 14 (encDerivation (wholeD t N l x)), I 0] else .tup [.a 14 (encDerivation nilD), I 3]) := by
  have h1 := l07Premises_ok t a l hb1
  have h2 := l07Triple_ok t a x hb2
  rw [hs, hg] at h1
  rw [hs, ht] at h2
  have hb := sig_bounds hs
  have ho := tripOk ht
  have hp := premOk hg
  have h3 := l07Holds_ok t a hb.1 l hp.1 N hN x ho.1 ho.2.1 ho.2.2
  rw [h] at h3
  have hbu := goodT_bud ht
  obtain ⟨d, s1, g, av, hr⟩ := mk_ex t a hs hb.1 l hp.1 ⟨hp.2, prem_bud hg⟩ N hN x.prog ho.2.1 hbu.2.1 x.post ho.2.2 hbu.2.2 (400, false) (by simp only []; omega) (by simp only []; omega)
  have l0 := av.lo; have i0 := av.hi
  simp only [] at l0 i0
  have n := Adv.node t a s1 x.pre x.prog x.post
  have hall := av.trans n
  have hfin : (ndS t a s1 x.pre x.prog x.post).2 = false ↔ (sizeD (wholeD t N l x) ≤ 400 ∧ sayD t a (wholeD t N l x) = true) := by
    rw [hall.fin, size_node, say_node, size_one]
    simp only [List.all_cons, List.all_nil, Bool.and_true]
    constructor
    · rintro ⟨_, h1, h2⟩; exact ⟨by omega, h2⟩
    · rintro ⟨h1, h2⟩; exact ⟨trivial, by omega, h2⟩
  have hd : (ndS t a s1 x.pre x.prog x.post).2 = false → d = findD t N l x.prog x.post := fun hf => hr (n.pre hf)
  have h5 := nodeS_ok t a hs l s1.1 (by omega) s1.2 8 x.pre x.prog x.post [d] ⟨by omega, by omega, by omega⟩
  unfold MkOk at g
  rw [encProg_eq, encExpr_eq] at g
  rw [encExpr_eq x.pre, encProg_eq x.prog, encExpr_eq x.post] at h5
  have g' : CallX Tryz.prog 34 [.c (stC t a l (400, false)), .c (.rp 9 ((encTriple x).drop 3)), .c (.rp 3 ((encTriple x).drop 9))] [some [stC t a l s1], none, none] (.a 14 (encDerivation d)) := g.cut (.same (.cut (k := 6) (by omega) (.same .nil)))
  have h5' : CallX Tryz.prog 35 [.c (.op (finC t a l s1.1 s1.2)), I 8, .a 3 (toldE x.pre), .c (.rp 9 ((encTriple x).drop 3)), .a 3 (toldE x.post), .c (.ows 45 14 ([d].map encDerivation))] [some [.op (finC t a l (s1.1 - 1) (badN t a s1.1 s1.2 ⟨x.pre, x.prog, x.post⟩))], none, none, none, none, none] (.a 14 (encDerivation (nodeD 8 x.pre x.prog x.post [d]))) :=
    h5.cut (.same (.same (.same (.cut (k := 6) (by omega) (.same (.same .nil))))))
  obtain ⟨r, z, ks, rfl⟩ := ex_mkD d
  simp only [] at hfin hd
  generalize badN t a s1.1 s1.2 ⟨x.pre, x.prog, x.post⟩ = b at h5' hfin hd
  cases b with
  | false =>
    rw [if_pos (hfin.1 rfl)]
    have hW : wholeD t N l x = nodeD 8 x.pre x.prog x.post [.mk r z ks] := by rw [hd rfl]
    rw [hW]
    refine callX_of_vc htb hm Tryz.func7 rfl rfl rfl rfl (ann := fun _ => none) (gh := fun reg_ => match reg_ with | 1 => true | _ => false) ?_
    repeat' ((conv => whnf); first | (guard_target = Done _; refine Done.mk ?_) | (guard_target = RetX _ _; refine RetX.mk ?_ ?_) | (guard_target = Fact _ _; refine Fact.mk fun hL => ?_; (try simp only [List.length_map, maxLen] at hL)) | (guard_target = Branch _ _ _; (first | refine Branch.dec ?_ ?_ | refine Branch.beq ?_ ?_ | refine Branch.bne ?_ ?_ | refine Branch.ndec ?_ ?_ | refine Branch.nb ?_ ?_ | refine Branch.mk ?_ ?_) <;> intro h <;> (try simp only [] at h) <;> (try omega) <;> (try contradiction)) | (guard_target = CallN _ 31 _ _ _ _; refine CallN.pure _ _ rfl (h1) rfl _ rfl ?_) | (guard_target = CallN _ 32 _ _ _ _; refine CallN.pure _ _ rfl (h2) rfl _ rfl ?_) | (guard_target = CallN _ 33 _ _ _ _; refine CallN.pure _ _ rfl (h3) rfl _ rfl ?_) | (guard_target = CallN _ 34 _ _ _ _; refine CallN.gen [true, false, false] _ _ _ rfl (g') rfl rfl _ rfl ?_) | (guard_target = CallN _ 35 _ _ _ _; refine CallN.gen [true, false, false, false, false, true] _ _ _ rfl (h5') rfl rfl _ rfl ?_) | (guard_target = Gh _ _ _ _ _; refine Gh.frzp 1 _ rfl (Gh.go ?_)) | (guard_target = Arith _ _ _; refine Arith.fit (wrap_fit (by first | omega | (simp only [List.length_map]; omega)) (by first | omega | (simp only [List.length_map]; omega))) ?_) | (guard_target = Arith _ _ _; refine Arith.fit (by decide) ?_) | (guard_target = Index _ _ _; first  | refine Index.mk _ (idx_map (by omega)) ?_) | (guard_target = Need (_ = true) _; refine Need.mk (by first | kernel_rfl | rfl) ?_) | (guard_target = LinkV _ _ _; first  | refine LinkV.no ?_) | (guard_target = GhO _ _ _ _; refine GhO.go ?_) | (guard_target = Need _ _; refine Need.mk (by first  | omega | (simp only [List.length_map]; omega)) ?_))
    all_goals first | trivial | rfl
  | true =>
    rw [if_neg fun h => by have := hfin.2 h; cases this]
    refine zero_softD ?_
    refine callX_of_vc htb hm Tryz.func7 rfl rfl rfl rfl (ann := fun _ => none) (gh := fun reg_ => match reg_ with | 1 => true | _ => false) ?_
    repeat' ((conv => whnf); first | (guard_target = Done _; refine Done.mk ?_) | (guard_target = RetX _ _; refine RetX.mk ?_ ?_) | (guard_target = Fact _ _; refine Fact.mk fun hL => ?_; (try simp only [List.length_map, maxLen] at hL)) | (guard_target = Branch _ _ _; (first | refine Branch.dec ?_ ?_ | refine Branch.beq ?_ ?_ | refine Branch.bne ?_ ?_ | refine Branch.ndec ?_ ?_ | refine Branch.nb ?_ ?_ | refine Branch.mk ?_ ?_) <;> intro h <;> (try simp only [] at h) <;> (try omega) <;> (try contradiction)) | (guard_target = CallN _ 31 _ _ _ _; refine CallN.pure _ _ rfl (h1) rfl _ rfl ?_) | (guard_target = CallN _ 32 _ _ _ _; refine CallN.pure _ _ rfl (h2) rfl _ rfl ?_) | (guard_target = CallN _ 33 _ _ _ _; refine CallN.pure _ _ rfl (h3) rfl _ rfl ?_) | (guard_target = CallN _ 34 _ _ _ _; refine CallN.gen [true, false, false] _ _ _ rfl (g') rfl rfl _ rfl ?_) | (guard_target = CallN _ 35 _ _ _ _; refine CallN.gen [true, false, false, false, false, true] _ _ _ rfl (h5') rfl rfl _ rfl ?_) | (guard_target = Gh _ _ _ _ _; refine Gh.frzp 1 _ rfl (Gh.go ?_)) | (guard_target = Arith _ _ _; refine Arith.fit (wrap_fit (by first | omega | (simp only [List.length_map]; omega)) (by first | omega | (simp only [List.length_map]; omega))) ?_) | (guard_target = Arith _ _ _; refine Arith.fit (by decide) ?_) | (guard_target = Index _ _ _; first  | refine Index.mk _ (idx_map (by omega)) ?_) | (guard_target = Need (_ = true) _; refine Need.mk (by first | kernel_rfl | rfl) ?_) | (guard_target = LinkV _ _ _; first  | refine LinkV.no ?_) | (guard_target = GhO _ _ _ _; refine GhO.go ?_) | (guard_target = Need _ _; refine Need.mk (by first  | omega | (simp only [List.length_map]; omega)) ?_))
    all_goals first | trivial | rfl
end
end Go.Proofs.YtmpcfplelpdbhaaGreat
