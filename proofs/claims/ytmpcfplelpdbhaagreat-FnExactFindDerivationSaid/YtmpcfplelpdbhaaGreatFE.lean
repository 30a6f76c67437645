/- Contracts: nodes of derivations; a derivation is found (the program's). No conditions but that programs and conditions are valid. -/
import Derived.Test.YtmpcfplelpdbhaaGreatFD
namespace Go.Proofs.YtmpcfplelpdbhaaGreat
open Go Go.KA Go.Proofs
set_option maxHeartbeats 16000000
set_option maxRecDepth 100000
abbrev nodeD (r : Int) (pre : XExpr) (p : XProg) (post : XExpr) (ks : List XDerivation) : XDerivation := .mk r ⟨pre, p, post⟩ ks
theorem node_ro (r : Int) (pre : XExpr) (p : XProg) (post : XExpr) (ks : List XDerivation) : CallX Tryz.prog 42 [I r, .a 3 (encExpr pre), .a 6 (encProg p), .a 3 (encExpr post), .c (.ro 14 (ks.map encDerivation))] [] (.a 14 (encDerivation (nodeD r pre p post ks))) := by
  rw [encDerivation_eq]
  rcases pre with ⟨a1, a2, a3⟩
  rcases post with ⟨b1, b2, b3⟩
  rcases p with ⟨p1, p2, p3, p4⟩
  rw [enc_mk, enc_mk, encProg_eq]
  refine callX_of_vc htb hm Tryz.func42 rfl rfl rfl rfl (ann := fun _ => none) (gh := fun _ => false) ?_
  repeat' ((conv => whnf); first | (guard_target = Done _; refine Done.mk ?_) | (guard_target = RetX _ _; refine RetX.mk ?_ ?_) | (guard_target = Fact _ _; refine Fact.mk fun hL => ?_; (try simp only [List.length_map, maxLen] at hL)) | (guard_target = Branch _ _ _; (first | refine Branch.dec ?_ ?_ | refine Branch.beq ?_ ?_ | refine Branch.bne ?_ ?_ | refine Branch.ndec ?_ ?_ | refine Branch.nb ?_ ?_ | refine Branch.mk ?_ ?_) <;> intro h <;> (try simp only [List.length_map] at h) <;> (try omega) <;> (try contradiction)) | (guard_target = Arith _ _ _; refine Arith.fit (wrap_fit (by first | omega | (simp only [List.length_map]; omega)) (by first | omega | (simp only [List.length_map]; omega))) ?_) | (guard_target = Arith _ _ _; refine Arith.fit (by decide) ?_) | (guard_target = Index _ _ _; first  | refine Index.mk _ (idx_map (by omega)) ?_) | (guard_target = Need (_ = true) _; refine Need.mk (by first | kernel_rfl | rfl) ?_) | (guard_target = LinkV _ _ _; first  | refine LinkV.no ?_) | (guard_target = GhO _ _ _ _; refine GhO.go ?_) | (guard_target = Need _ _; refine Need.mk (by first  | omega | (simp only [List.length_map]; omega)) ?_))
  all_goals first | rfl | trivial
theorem node_ok (r : Int) (pre : XExpr) (p : XProg) (post : XExpr) (ks : List XDerivation) : CallX Tryz.prog 42 [I r, .a 3 (encExpr pre), .a 6 (encProg p), .a 3 (encExpr post), .c (.ows 45 14 (ks.map encDerivation))] [] (.a 14 (encDerivation (nodeD r pre p post ks))) := (node_ro r pre p post ks).give (.same (.same (.same (.same (.c .nil)))))
def nilP : XProg := .mk 0 0 (.mk 0 0 []) []
def nilD : XDerivation := nodeD 0 (.mk 0 0 []) nilP (.mk 0 0 []) []
def actsD (l : List XPremise) (p : XProg) : List XDerivation := (l.filter fun x => x.act == p.num).map fun x => nodeD 3 x.pre p x.post []
def findK (t : Int) (N : Nat) (l : List XPremise) (p : XProg) (fs : List (XExpr → XDerivation)) (c : XExpr) : XDerivation :=
  if p.kind = 1 then nodeD 8 (weakE t N l p c) p c [nodeD 1 c p c []]
  else if p.kind = 2 then nodeD 2 (weakE t N l p c) p c []
  else if p.kind = 3 then nodeD 8 (weakE t N l p c) p c (actsD l p)
  else if p.kind = 4 then nodeD 8 (weakE t N l p c) p c [nodeD 4 (pairE 6 (notE p.cond) c) p c []]
  else if p.kind = 5 then nodeD 5 (weakE t N l p c) p c [fs.getD 0 (fun _ => nilD) (weakE t N l (p.kids.getD 1 nilP) c), fs.getD 1 (fun _ => nilD) c]
  else if p.kind = 6 then nodeD 6 (weakE t N l p c) p c [nodeD 8 (pairE 7 p.cond (weakE t N l p c)) (p.kids.getD 0 nilP) c [fs.getD 0 (fun _ => nilD) c], nodeD 8 (pairE 7 (notE p.cond) (weakE t N l p c)) (p.kids.getD 1 nilP) c [fs.getD 1 (fun _ => nilD) c]]
  else nodeD 8 (weakE t N l p c) p c [nodeD 7 (weakE t N l p c) p (pairE 7 (notE p.cond) (weakE t N l p c)) [nodeD 8 (pairE 7 p.cond (weakE t N l p c)) (p.kids.getD 0 nilP) (weakE t N l p c) [fs.getD 0 (fun _ => nilD) (weakE t N l p c)]]]
mutual
def findD (t : Int) (N : Nat) (l : List XPremise) : XProg → XExpr → XDerivation
  | .mk k n cnd ks => fun c => findK t N l (.mk k n cnd ks) (findL t N l ks) c
def findL (t : Int) (N : Nat) (l : List XPremise) : List XProg → List (XExpr → XDerivation)
  | [] => []
  | p :: ps => findD t N l p :: findL t N l ps
end
theorem findL_map (t : Int) (N : Nat) (l : List XPremise) : ∀ ps : List XProg, findL t N l ps = ps.map (findD t N l)
  | [] => rfl
  | p :: ps => by rw [findL, findL_map t N l ps]; rfl
theorem findD_eq (t : Int) (N : Nat) (l : List XPremise) (p : XProg) (c : XExpr) : findD t N l p c = findK t N l p (p.kids.map (findD t N l)) c := by
  cases p
  rw [findD, findL_map]
  rfl
theorem findk_getD {t : Int} {N : Nat} {l : List XPremise} {p : XProg} {i : Nat} {d : XExpr → XDerivation} (h : i < p.kids.length) : (p.kids.map (findD t N l)).getD i d = findD t N l (p.kids.getD i nilP) := by
  rw [List.getD_eq_getElem?_getD, List.getElem?_map, List.getElem?_eq_getElem h, kid_getD h]
  rfl
section
variable {t : Int} {N : Nat} {l : List XPremise} {p : XProg} {c w : XExpr} (hw : weakE t N l p c = w)
include hw
theorem find1 (h : p.kind = 1) : findD t N l p c = nodeD 8 w p c [nodeD 1 c p c []] := by
  subst hw; rw [findD_eq]; unfold findK; rw [if_pos h]
theorem find2 (h : p.kind = 2) : findD t N l p c = nodeD 2 w p c [] := by
  subst hw; rw [findD_eq]; unfold findK; rw [h, if_neg (by decide), if_pos rfl]
theorem find3 (h : p.kind = 3) : findD t N l p c = nodeD 8 w p c (actsD l p) := by
  subst hw; rw [findD_eq]; unfold findK; rw [h, if_neg (by decide), if_neg (by decide), if_pos rfl]
theorem find4 (h : p.kind = 4) : findD t N l p c = nodeD 8 w p c [nodeD 4 (pairE 6 (notE p.cond) c) p c []] := by
  subst hw; rw [findD_eq]; unfold findK; rw [h, if_neg (by decide), if_neg (by decide), if_neg (by decide), if_pos rfl]
theorem find5 (h : p.kind = 5) (hl : p.kids.length = 2) {m : XExpr} (hm2 : weakE t N l (p.kids.getD 1 nilP) c = m) {d e : XDerivation} (hd : findD t N l (p.kids.getD 0 nilP) m = d) (he : findD t N l (p.kids.getD 1 nilP) c = e) : findD t N l p c = nodeD 5 w p c [d, e] := by
  subst hw hm2 hd he; rw [findD_eq]; unfold findK; rw [h, if_neg (by decide), if_neg (by decide), if_neg (by decide), if_neg (by decide), if_pos rfl, findk_getD (by omega), findk_getD (by omega)]
theorem find6 (h : p.kind = 6) (hl : p.kids.length = 2) {d e : XDerivation} (hd : findD t N l (p.kids.getD 0 nilP) c = d) (he : findD t N l (p.kids.getD 1 nilP) c = e) :
    findD t N l p c = nodeD 6 w p c [nodeD 8 (pairE 7 p.cond w) (p.kids.getD 0 nilP) c [d], nodeD 8 (pairE 7 (notE p.cond) w) (p.kids.getD 1 nilP) c [e]] := by
  subst hw hd he; rw [findD_eq]; unfold findK; rw [h, if_neg (by decide), if_neg (by decide), if_neg (by decide), if_neg (by decide), if_neg (by decide), if_pos rfl, findk_getD (by omega), findk_getD (by omega)]
theorem find7 (h : p.kind = 7) (hl : p.kids.length = 1) {d : XDerivation} (hd : findD t N l (p.kids.getD 0 nilP) w = d) :
    findD t N l p c = nodeD 8 w p c [nodeD 7 w p (pairE 7 (notE p.cond) w) [nodeD 8 (pairE 7 p.cond w) (p.kids.getD 0 nilP) w [d]]] := by
  subst hw hd; rw [findD_eq]; unfold findK; rw [h, if_neg (by decide), if_neg (by decide), if_neg (by decide), if_neg (by decide), if_neg (by decide), if_neg (by decide), findk_getD (by omega)]
end
theorem ex_mkD (x : XDerivation) : ∃ r s ks, x = .mk r s ks := by
  cases x
  exact ⟨_, _, _, rfl⟩
end Go.Proofs.YtmpcfplelpdbhaaGreat

namespace Go.Proofs.YtmpcfplelpdbhaaGreat
open Go Go.KA Go.Proofs
set_option maxRecDepth 100000
theorem okC_one {t a : Int} {k : Int} (h : k = 1 ∨ k = 2) : okC t a (leafE k 0) := by
  rcases h with rfl | rfl <;> exact ⟨by rw [condB_eq]; rfl, by rw [treeB_eq]; rfl⟩
theorem okC_test {t a : Int} {i : Nat} (h : (i : Int) < t) : okC t a (leafE 3 i) := by
  refine ⟨by rw [condB_eq]; rfl, ?_⟩
  rw [treeB_eq]
  have : rng 0 (t - 1) i = true := by
    unfold rng
    simp
    omega
  simp [XExpr.kind, XExpr.kids, XExpr.num, kidsN, this]
theorem okC_not {t a : Int} {x : XExpr} (h : okC t a x) : okC t a (notE x) := by
  refine ⟨?_, ?_⟩
  · rw [condB_eq]
    simp [XExpr.kind, XExpr.kids, h.1, rng]
  · rw [treeB_eq]
    simp [XExpr.kind, XExpr.kids, XExpr.num, kidsN, h.1, h.2]
theorem okC_pair {t a : Int} {k : Int} (hk : k = 6 ∨ k = 7) {x y : XExpr} (h1 : okC t a x) (h2 : okC t a y) : okC t a (pairE k x y) := by
  rcases hk with rfl | rfl
  all_goals
    refine ⟨?_, ?_⟩
    · rw [condB_eq]
      simp [XExpr.kind, XExpr.kids, h1.1, h2.1, rng]
    · rw [treeB_eq]
      simp [XExpr.kind, XExpr.kids, XExpr.num, kidsN, h1.2, h2.2]
theorem okC_lit {t a atom : Int} {i : Nat} (h : (i : Int) < t) : okC t a (litE atom i) := by
  unfold litE
  split
  · exact okC_not (okC_test h)
  · exact okC_test h
theorem okC_at {t a atom : Int} : ∀ {k : Nat}, (k : Int) ≤ t → okC t a (atE atom k)
  | 0, _ => okC_one (.inr rfl)
  | k + 1, h => by
    unfold atE
    split
    · exact okC_lit (by omega)
    · exact okC_pair (.inr rfl) (okC_at (by omega)) (okC_lit (by omega))
theorem okC_sum {t a : Int} : ∀ (es : List XExpr) (s : XExpr), okC t a s → (∀ e ∈ es, okC t a e) → okC t a (es.foldl (pairE 6) s)
  | [], s, h, _ => h
  | e :: es, s, h, he => okC_sum es _ (okC_pair (.inl rfl) h (he e (by simp))) fun x hx => he x (by simp [hx])
theorem okC_of {t a : Int} (ht : 0 ≤ t) (L : List Int) : okC t a (ofE t.toNat L) := by
  unfold ofE sumE
  refine okC_sum _ _ (okC_one (.inl rfl)) fun e he => ?_
  obtain ⟨z, _, rfl⟩ := List.mem_map.1 he
  exact okC_at (by omega)
theorem okC_weak {t a : Int} (ht : 0 ≤ t) (N : Nat) (l : List XPremise) (p : XProg) (c : XExpr) : okC t a (weakE t N l p c) := okC_of ht _
theorem bud_lit (atom : Int) (i : Nat) : budExpr (litE atom i) ≤ 1 := by
  unfold litE
  split <;> simp [budExpr, budExprS]
theorem bud_at (atom : Int) : ∀ k : Nat, budExpr (atE atom k) ≤ 4 * k
  | 0 => by simp [atE, budExpr, budExprS]
  | k + 1 => by
    have h1 := bud_at atom k
    have h2 := bud_lit atom k
    have h3 := bud_lit atom 0
    unfold atE
    split
    · omega
    · simp only [budExpr, budExprS]; omega
theorem bud_sum (m : Nat) : ∀ (es : List XExpr) (s : XExpr), (∀ e ∈ es, budExpr e ≤ m) → budExpr (es.foldl (pairE 6) s) ≤ budExpr s + es.length * (m + 2)
  | [], s, _ => by simp
  | e :: es, s, h => by
    have h1 := bud_sum m es (pairE 6 s e) fun x hx => h x (by simp [hx])
    have h2 := h e (by simp)
    have h3 : budExpr (pairE 6 s e) = budExpr s + 1 + (budExpr e + 1) := by simp [budExpr, budExprS]
    simp only [List.foldl_cons, List.length_cons, Nat.add_mul]
    omega
theorem bud_weak {t : Int} (ht : 0 ≤ t ∧ t ≤ 3) {N : Nat} (hN : N ≤ 8) (l : List XPremise) (p : XProg) (c : XExpr) : budExpr (weakE t N l p c) ≤ 200 := by
  unfold weakE ofE sumE
  have h1 := selR_len N (sureP N (ldR N l p) c)
  have h2 := bud_sum 12 ((selR N (sureP N (ldR N l p) c)).map fun z => atE z t.toNat) (leafE 1 0) fun e he => by
    obtain ⟨z, _, rfl⟩ := List.mem_map.1 he
    have := bud_at z t.toNat
    omega
  rw [List.length_map] at h2
  have h3 : budExpr (leafE 1 0) = 0 := by simp [budExpr, budExprS]
  omega
end Go.Proofs.YtmpcfplelpdbhaaGreat

namespace Go.Proofs.YtmpcfplelpdbhaaGreat
open Go Go.KA Go.Proofs
set_option maxHeartbeats 16000000
set_option maxRecDepth 100000
theorem ex_prem (x : XPremise) : ∃ a1 a2 a3 n b1 b2 b3, x = ⟨.mk a1 a2 a3, n, .mk b1 b2 b3⟩ := by
  rcases x with ⟨⟨a1, a2, a3⟩, n, ⟨b1, b2, b3⟩⟩
  exact ⟨a1, a2, a3, n, b1, b2, b3, rfl⟩
theorem idx_prem {l : List XPremise} {i : Nat} {d e : XPremise} (h : i < l.length) (he : l.getD i d = e) : (l.map encPremise)[i]? = some (encPremise e) := by
  rw [← he]
  exact idx_getD h
abbrev actsR (l : List XPremise) (p : XProg) : List XDerivation := (l.filter fun x => x.act == p.num).map fun x => nodeD 3 x.pre p x.post []
theorem acts_y {l : List XPremise} {p : XProg} {i : Nat} {x d : XPremise} {ds : List XDerivation} (hi : i < l.length) (hx : l.getD i d = x) (h : x.act = p.num) (hd : ds = actsR (l.take i) p) : ds ++ [nodeD 3 x.pre p x.post []] = actsR (l.take (i + 1)) p := by
  rw [getD_eq hi] at hx
  subst hx
  unfold actsR
  rw [List.take_succ_eq_append_getElem hi, List.filter_append, List.map_append, hd]
  simp [h]
theorem acts_n {l : List XPremise} {p : XProg} {i : Nat} {x d : XPremise} {ds : List XDerivation} (hi : i < l.length) (hx : l.getD i d = x) (h : ¬ x.act = p.num) (hd : ds = actsR (l.take i) p) : ds = actsR (l.take (i + 1)) p := by
  rw [getD_eq hi] at hx
  subst hx
  unfold actsR
  rw [List.take_succ_eq_append_getElem hi, List.filter_append, List.map_append, hd]
  simp [h]
section
variable (t a : Int) (ht : 0 ≤ t ∧ t ≤ 3) (l : List XPremise) (hl : PremOk t a l) (hl12 : l.length ≤ 12) (N : Nat) (hN : atomsN t = N ∧ 1 ≤ N ∧ N ≤ 8)
include ht hl hl12 hN
theorem find_all (p : XProg) (hp : POk t a p) (hx : ∀ k ∈ p.kids, ∀ c, okC t a c → ∀ d, findD t N l k c = d → CallX Tryz.prog 43 [.a 3 [J t, J a, .ro 7 (l.map encPremise)], .a 6 (encProg k), .a 3 (encExpr c)] [] (.a 14 (encDerivation d)))
    (c : XExpr) (hc : okC t a c) (D : XDerivation) (hD : findD t N l p c = D) : CallX Tryz.prog 43 [.a 3 [J t, J a, .ro 7 (l.map encPremise)], .a 6 (encProg p), .a 3 (encExpr c)] [] (.a 14 (encDerivation D)) := by
  have hlen := hp.len
  have hkind := hp.kind
  obtain ⟨w1, w2, w3, hw⟩ := ex_mk (weakE t N l p c)
  have hwk := weak_ok t a ht l hl N hN p hp c hc _ hw
  have how : okC t a (.mk w1 w2 w3) := by rw [← hw]; exact okC_weak ht.1 N l p c
  have hkid : ∀ i (hi : i < p.kids.length), POk t a p.kids[i] := fun i hi => hp.kid (List.getElem_mem hi)
  have hg : ∀ i, i < p.kids.length → p.kids[i]? = some (p.kids.getD i nilP) := fun i hi => by rw [kid_getD hi]; exact List.getElem?_eq_getElem hi
  have hxd : ∀ i, i < p.kids.length → ∀ c, okC t a c → ∀ d, findD t N l (p.kids.getD i nilP) c = d → CallX Tryz.prog 43 [.a 3 [J t, J a, .ro 7 (l.map encPremise)], .a 6 (encProg (p.kids.getD i nilP)), .a 3 (encExpr c)] [] (.a 14 (encDerivation d)) := fun i hi => by
    rw [kid_getD hi]; exact hx _ (List.getElem_mem hi)
  have hwd : ∀ i, i < p.kids.length → ∀ e, weakE t N l (p.kids.getD i nilP) c = e → CallX Tryz.prog 107 [.a 3 [J t, J a, .ro 7 (l.map encPremise)], .a 6 (encProg (p.kids.getD i nilP)), .a 3 (encExpr c)] [] (.a 3 (encExpr e)) := fun i hi e he => by
    rw [kid_getD hi] at he ⊢; exact weak_ok t a ht l hl N hN _ (hkid i hi) c hc e he
  have hix : ∀ i, i < p.kids.length → (encProgS p.kids)[i]? = some (encProg (p.kids.getD i nilP)) := fun i hi => by rw [encProgS_map]; exact idx_getD hi
  have f1 := find1 hw
  have f2 := find2 hw
  have f3 := find3 hw
  have f4 := find4 hw
  rcases p with ⟨pk, pn, ⟨q1, q2, q3⟩, pks⟩
  rcases c with ⟨c1, c2, c3⟩
  simp only [XProg.kids, XProg.kind, XProg.cond] at *
  subst hD
  have hnot := not_ok (.mk q1 q2 q3)
  have hboth := both_ok (.mk q1 q2 q3) (.mk w1 w2 w3)
  rw [enc_mk q1 q2 q3] at hnot hboth
  have hnd : ∀ a1 a2 a3 b1 b2 b3, CallX Tryz.prog 42 [I 3, .a 3 [J a1, J a2, .ro 3 (a3.map encExpr)], .a 6 (encProg (.mk pk pn (.mk q1 q2 q3) pks)), .a 3 [J b1, J b2, .ro 3 (b3.map encExpr)], .c (.ro 14 [])] [] (.a 14 (encDerivation (nodeD 3 (.mk a1 a2 a3) (.mk pk pn (.mk q1 q2 q3) pks) (.mk b1 b2 b3) []))) := fun a1 a2 a3 b1 b2 b3 => by
    have h := node_ro 3 (.mk a1 a2 a3) (.mk pk pn (.mk q1 q2 q3) pks) (.mk b1 b2 b3) []
    rwa [enc_mk a1 a2 a3, enc_mk b1 b2 b3] at h
  refine callX_of_vc htb hm Tryz.func43 rfl rfl rfl rfl (ann := fun _ => none) (gh := fun _ => false) ?_
  repeat' ((conv => whnf); first | (guard_target = Done _; refine Done.mk ?_) | (guard_target = RetX _ _; refine RetX.mk ?_ ?_) | (guard_target =~ LoopE 10 _ _ _ _ _ _; refine LoopE.mk { α := List XDerivation × Nat, keep := [3, 4, 5, 6, 7, 21, 43, 44], ov := fun ⟨ds, i⟩ => [(8, .lw 11), (45, I (i : Nat))], hv := fun ⟨ds, i⟩ => [(11, .row none 45 14 (ds.map encDerivation))], φ := fun ⟨ds, i⟩ => i ≤ l.length ∧ ds = actsR (l.take i) (.mk pk pn (.mk q1 q2 q3) pks), μ := fun ⟨ds, i⟩ => l.length - i } (LoopN.mk (([], 0) : List XDerivation × Nat) (by exact ⟨Nat.zero_le _, rfl⟩) (by (repeat' ((conv => whnf) <;> (first | exact trivial | refine ⟨?_, ?_⟩ | kernel_rfl))); done) (by (repeat' ((conv => whnf) <;> (first | exact trivial | refine ⟨?_, ?_⟩ | kernel_rfl))); done) (by (repeat' ((conv => whnf) <;> (first | exact trivial | refine ⟨?_, ?_⟩ | exact rfl | (simp only [List.map_append, List.map_cons, List.map_nil, List.map_set]; first | done | rfl)))); done) (fun A ha => ?_) (by intro A; first | rfl | (obtain ⟨_, _⟩ := A; rfl) | (obtain ⟨_, _, _⟩ := A; rfl))); obtain ⟨ds, i⟩ := A; have ha : i ≤ l.length ∧ ds = actsR (l.take i) (.mk pk pn (.mk q1 q2 q3) pks) := ha; obtain ⟨a1, a2, a3, xn, b1, b2, b3, he⟩ := ex_prem (l.getD i pn0); have hdl : ds.length ≤ i := (by rw [ha.2, List.length_map]; have := List.length_filter_le (fun x : XPremise => x.act == pn) (l.take i); rw [List.length_take] at this; exact Nat.le_trans this (by omega))) | (guard_target = Gh _ _ _ _ _; refine Gh.go ⟨((ds ++ [nodeD 3 (.mk a1 a2 a3) (.mk pk pn (.mk q1 q2 q3) pks) (.mk b1 b2 b3) []], i + 1) : List XDerivation × Nat), (by (have hy : xn = pn := h; exact ⟨by show i + 1 ≤ _; omega, acts_y (by omega) he hy ha.2⟩)), (by first | (show _ < _; simp only []; omega) | omega | (simp; omega)), (by (repeat' ((conv => whnf) <;> (first | exact trivial | refine ⟨?_, ?_⟩ | kernel_rfl))); done), (by (repeat' ((conv => whnf) <;> (first | exact trivial | refine ⟨?_, ?_⟩ | kernel_rfl))); done), (by (repeat' ((conv => whnf) <;> (first | exact trivial | refine ⟨?_, ?_⟩ | exact rfl | (simp only [List.map_append, List.map_cons, List.map_nil]; first | done | rfl)))); done)⟩) | (guard_target = Gh _ _ _ _ _; refine Gh.go ⟨((ds, i + 1) : List XDerivation × Nat), (by (have hy : ¬ xn = pn := h; exact ⟨by show i + 1 ≤ _; omega, acts_n (by omega) he hy ha.2⟩)), (by first | (show _ < _; simp only []; omega) | omega | (simp; omega)), (by (repeat' ((conv => whnf) <;> (first | exact trivial | refine ⟨?_, ?_⟩ | kernel_rfl))); done), (by (repeat' ((conv => whnf) <;> (first | exact trivial | refine ⟨?_, ?_⟩ | kernel_rfl))); done), (by (repeat' ((conv => whnf) <;> (first | exact trivial | refine ⟨?_, ?_⟩ | exact rfl | (simp only [List.map_append, List.map_cons, List.map_nil, List.map_set]; first | done | rfl)))); done)⟩) | (guard_target = Fact _ _; refine Fact.mk fun hL => ?_; (try simp only [List.length_map, maxLen] at hL)) | (guard_target = Branch _ _ _; (first | refine Branch.dec ?_ ?_ | refine Branch.beq ?_ ?_ | refine Branch.bne ?_ ?_ | refine Branch.ndec ?_ ?_ | refine Branch.nb ?_ ?_ | refine Branch.mk ?_ ?_) <;> intro h <;> (try simp only [List.length_map] at h) <;> (try omega) <;> (try contradiction)) | (guard_target = CallN _ 107 _ _ _ _; refine CallN.gen [] _ _ _ rfl (hwk) rfl rfl _ rfl ?_) | (guard_target = CallN _ 109 _ _ _ _; refine CallN.gen [] _ _ _ rfl (hnot) rfl rfl _ rfl ?_) | (guard_target = CallN _ 108 _ _ _ _; refine CallN.gen [false, true] _ _ _ rfl (tree_ok 6 [notE (.mk q1 q2 q3), (.mk c1 c2 c3)]) rfl rfl _ rfl ?_) | (guard_target = CallN _ 110 _ _ _ _; refine CallN.gen [] _ _ _ rfl (hboth) rfl rfl _ rfl ?_) | (guard_target = CallN _ 110 _ _ _ _; refine CallN.gen [] _ _ _ rfl (both_ok (notE (.mk q1 q2 q3)) (.mk w1 w2 w3)) rfl rfl _ rfl ?_) | (guard_target = CallN _ 42 _ _ _ _; (have _ : pk = 1 := (by omega)); refine CallN.gen [] _ _ _ rfl (node_ro 1 (.mk c1 c2 c3) (.mk pk pn (.mk q1 q2 q3) pks) (.mk c1 c2 c3) []) rfl rfl _ rfl ?_) | (guard_target = CallN _ 42 _ _ _ _; (have _ : pk = 1 := (by omega)); refine CallN.gen [false, false, false, false, true] _ _ _ rfl (node_ok 8 (.mk w1 w2 w3) (.mk pk pn (.mk q1 q2 q3) pks) (.mk c1 c2 c3) [nodeD 1 (.mk c1 c2 c3) (.mk pk pn (.mk q1 q2 q3) pks) (.mk c1 c2 c3) []]) rfl rfl _ rfl ?_) | (guard_target = CallN _ 42 _ _ _ _; (have _ : pk = 2 := (by omega)); refine CallN.gen [] _ _ _ rfl (node_ro 2 (.mk w1 w2 w3) (.mk pk pn (.mk q1 q2 q3) pks) (.mk c1 c2 c3) []) rfl rfl _ rfl ?_) | (guard_target = CallN _ 42 _ _ _ _; (have _ : pk = 3 := (by omega)); refine CallN.gen [] _ _ _ rfl (hnd a1 a2 a3 b1 b2 b3) rfl rfl _ rfl ?_) | (guard_target = CallN _ 42 _ _ _ _; (have _ : pk = 3 := (by omega)); refine CallN.gen [false, false, false, false, true] _ _ _ rfl (node_ok 8 (.mk w1 w2 w3) (.mk pk pn (.mk q1 q2 q3) pks) (.mk c1 c2 c3) ds) rfl rfl _ rfl ?_) | (guard_target = CallN _ 42 _ _ _ _; (have _ : pk = 4 := (by omega)); refine CallN.gen [] _ _ _ rfl (node_ro 4 (pairE 6 (notE (.mk q1 q2 q3)) (.mk c1 c2 c3)) (.mk pk pn (.mk q1 q2 q3) pks) (.mk c1 c2 c3) []) rfl rfl _ rfl ?_) | (guard_target = CallN _ 42 _ _ _ _; (have _ : pk = 4 := (by omega)); refine CallN.gen [false, false, false, false, true] _ _ _ rfl (node_ok 8 (.mk w1 w2 w3) (.mk pk pn (.mk q1 q2 q3) pks) (.mk c1 c2 c3) [nodeD 4 (pairE 6 (notE (.mk q1 q2 q3)) (.mk c1 c2 c3)) (.mk pk pn (.mk q1 q2 q3) pks) (.mk c1 c2 c3) []]) rfl rfl _ rfl ?_) | (guard_target = CallN _ 107 _ _ _ _; (have _ : pk = 5 := (by omega)); obtain ⟨m1, m2, m3, hm2⟩ := ex_mk (weakE t N l (pks.getD 1 nilP) (.mk c1 c2 c3)); refine CallN.gen [] _ _ _ rfl (hwd 1 (by omega) _ hm2) rfl rfl _ rfl ?_) | (guard_target = CallN _ 43 _ _ _ _; (have _ := hd1); (have _ : pk = 5 ∨ pk = 6 := (by omega)); obtain ⟨r2, s2, ks2, hd2⟩ := ex_mkD (findD t N l (pks.getD 1 nilP) (.mk c1 c2 c3)); refine CallN.gen [] _ _ _ rfl (hxd 1 (by omega) (.mk c1 c2 c3) hc _ hd2) rfl rfl _ rfl ?_) | (guard_target = CallN _ 43 _ _ _ _; (have _ : pk = 5 := (by omega)); obtain ⟨r1, s1, ks1, hd1⟩ := ex_mkD (findD t N l (pks.getD 0 nilP) (.mk m1 m2 m3)); refine CallN.gen [] _ _ _ rfl (hxd 0 (by omega) (.mk m1 m2 m3) (by rw [← hm2]; exact okC_weak ht.1 _ _ _ _) _ hd1) rfl rfl _ rfl ?_) | (guard_target = CallN _ 43 _ _ _ _; (have _ : pk = 6 := (by omega)); obtain ⟨r1, s1, ks1, hd1⟩ := ex_mkD (findD t N l (pks.getD 0 nilP) (.mk c1 c2 c3)); refine CallN.gen [] _ _ _ rfl (hxd 0 (by omega) (.mk c1 c2 c3) hc _ hd1) rfl rfl _ rfl ?_) | (guard_target = CallN _ 43 _ _ _ _; (have _ : pk = 7 := (by omega)); obtain ⟨r1, s1, ks1, hd1⟩ := ex_mkD (findD t N l (pks.getD 0 nilP) (.mk w1 w2 w3)); refine CallN.gen [] _ _ _ rfl (hxd 0 (by omega) (.mk w1 w2 w3) how _ hd1) rfl rfl _ rfl ?_) | (guard_target = CallN _ 42 _ _ _ _; (have _ : pk = 5 := (by omega)); refine CallN.gen [false, false, false, false, true] _ _ _ rfl (node_ok 5 (.mk w1 w2 w3) (.mk pk pn (.mk q1 q2 q3) pks) (.mk c1 c2 c3) [(.mk r1 s1 ks1), (.mk r2 s2 ks2)]) rfl rfl _ rfl ?_) | (guard_target = CallN _ 42 _ _ _ _; (have _ : pk = 6 := (by omega)); (have _ := hd2); refine CallN.gen [false, false, false, false, true] _ _ _ rfl (node_ok 6 (.mk w1 w2 w3) (.mk pk pn (.mk q1 q2 q3) pks) (.mk c1 c2 c3) [nodeD 8 (pairE 7 (.mk q1 q2 q3) (.mk w1 w2 w3)) (pks.getD 0 nilP) (.mk c1 c2 c3) [(.mk r1 s1 ks1)], nodeD 8 (pairE 7 (notE (.mk q1 q2 q3)) (.mk w1 w2 w3)) (pks.getD 1 nilP) (.mk c1 c2 c3) [(.mk r2 s2 ks2)]]) rfl rfl _ rfl ?_) | (guard_target = CallN _ 42 _ _ _ _; (have _ : pk = 6 := (by omega)); (have _ := hd2); refine CallN.gen [false, false, false, false, true] _ _ _ rfl (node_ok 8 (pairE 7 (notE (.mk q1 q2 q3)) (.mk w1 w2 w3)) (pks.getD 1 nilP) (.mk c1 c2 c3) [(.mk r2 s2 ks2)]) rfl rfl _ rfl ?_) | (guard_target = CallN _ 42 _ _ _ _; (have _ : pk = 6 := (by omega)); refine CallN.gen [false, false, false, false, true] _ _ _ rfl (node_ok 8 (pairE 7 (.mk q1 q2 q3) (.mk w1 w2 w3)) (pks.getD 0 nilP) (.mk c1 c2 c3) [(.mk r1 s1 ks1)]) rfl rfl _ rfl ?_) | (guard_target = CallN _ 42 _ _ _ _; (have _ : pk = 7 := (by omega)); refine CallN.gen [false, false, false, false, true] _ _ _ rfl (node_ok 8 (pairE 7 (.mk q1 q2 q3) (.mk w1 w2 w3)) (pks.getD 0 nilP) (.mk w1 w2 w3) [(.mk r1 s1 ks1)]) rfl rfl _ rfl ?_) | (guard_target = CallN _ 42 _ _ _ _; (have _ : pk = 7 := (by omega)); refine CallN.gen [false, false, false, false, true] _ _ _ rfl (node_ok 7 (.mk w1 w2 w3) (.mk pk pn (.mk q1 q2 q3) pks) (pairE 7 (notE (.mk q1 q2 q3)) (.mk w1 w2 w3)) [nodeD 8 (pairE 7 (.mk q1 q2 q3) (.mk w1 w2 w3)) (pks.getD 0 nilP) (.mk w1 w2 w3) [(.mk r1 s1 ks1)]]) rfl rfl _ rfl ?_) | (guard_target = CallN _ 42 _ _ _ _; (have _ : pk = 7 := (by omega)); refine CallN.gen [false, false, false, false, true] _ _ _ rfl (node_ok 8 (.mk w1 w2 w3) (.mk pk pn (.mk q1 q2 q3) pks) (.mk c1 c2 c3) [nodeD 7 (.mk w1 w2 w3) (.mk pk pn (.mk q1 q2 q3) pks) (pairE 7 (notE (.mk q1 q2 q3)) (.mk w1 w2 w3)) [nodeD 8 (pairE 7 (.mk q1 q2 q3) (.mk w1 w2 w3)) (pks.getD 0 nilP) (.mk w1 w2 w3) [(.mk r1 s1 ks1)]]]) rfl rfl _ rfl ?_) | (guard_target = Arith _ _ _; refine Arith.fit (wrap_fit (by first | omega | (simp only [List.length_map]; omega)) (by first | omega | (simp only [List.length_map]; omega))) ?_) | (guard_target = Arith _ _ _; refine Arith.fit (by decide) ?_) | (guard_target = Index _ _ _; first | refine Index.mk _ (idx_prem (by omega) he) ?_ | refine Index.mk _ (hix 0 (by omega)) ?_ | refine Index.mk _ (hix 1 (by omega)) ?_ | refine Index.mk _ (idx_map (by omega)) ?_) | (guard_target = Need (_ = true) _; refine Need.mk (by first | kernel_rfl | rfl) ?_) | (guard_target = LinkV _ _ _; first  | refine LinkV.no ?_) | (guard_target = GhO _ _ _ _; refine GhO.go ?_) | (guard_target = Need _ _; refine Need.mk (by first | ((simp only [List.length_map, List.length_cons, List.length_nil, maxLen]; constructor <;> omega)) | omega | (simp only [List.length_map]; omega)) ?_))
  all_goals first | trivial | (have h1 : pk = 1 := (by omega); rw [f1 h1]; done) | (have h1 : pk = 2 := (by omega); rw [f2 h1]; done) | (have h1 : pk = 4 := (by omega); rw [f4 h1]; done) | (have h1 : pk = 3 := (by omega); have h9 := ha.2; rw [List.take_of_length_le (by omega)] at h9; rw [f3 h1, h9]; rfl) | (have h1 : pk = 5 := (by omega); exact congrArg (fun z => SV.a 14 (encDerivation z)) (find5 (p := XProg.mk pk pn (.mk q1 q2 q3) pks) hw h1 (by show pks.length = 2; omega) hm2 hd1 hd2).symm) | (have h1 : pk = 6 := (by omega); exact congrArg (fun z => SV.a 14 (encDerivation z)) (find6 (p := XProg.mk pk pn (.mk q1 q2 q3) pks) hw h1 (by show pks.length = 2; omega) hd1 hd2).symm) | (have h1 : pk = 7 := (by omega); exact congrArg (fun z => SV.a 14 (encDerivation z)) (find7 (p := XProg.mk pk pn (.mk q1 q2 q3) pks) hw h1 (by show pks.length = 1; omega) hd1).symm)
theorem find_ok (p : XProg) (hp : POk t a p) (c : XExpr) (hc : okC t a c) (D : XDerivation) (hD : findD t N l p c = D) : CallX Tryz.prog 43 [.a 3 [J t, J a, .ro 7 (l.map encPremise)], .a 6 (encProg p), .a 3 (encExpr c)] [] (.a 14 (encDerivation D)) :=
  find_all t a ht l hl hl12 N hN p hp (fun k _hk c hc d hd => find_ok k (hp.kid _hk) c hc d hd) c hc D hD
  termination_by SizeOf.sizeOf p
  decreasing_by
    have := List.sizeOf_lt_of_mem _hk
    cases p
    simp only [XProg.mk.sizeOf_spec]
    show SizeOf.sizeOf k < _
    simp only [XProg.kids] at this
    omega
end
end Go.Proofs.YtmpcfplelpdbhaaGreat
