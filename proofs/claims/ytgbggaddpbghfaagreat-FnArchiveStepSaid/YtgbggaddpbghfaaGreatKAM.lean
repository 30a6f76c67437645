/- What a pattern has been given stays small; contracts of the reference's functions of patterns at one side of an equation. Conditions: bounds of size. -/
import Derived.Test.YtgbggaddpbghfaaGreatKAL
namespace Go.KA
open Go Go.RowKit
theorem AL.tG{w:World}{ok ok':Nat→Prop}{ss:List SV}{vs:List Value}{f:List Nat}(h:AL w ok ss vs f)(hok:∀b,ok b→ok' b):AL w ok' ss vs f:=by
 induction h with
 |nil=>exact .nil
 |cons h _ ih=>exact .cons (h.tG hok) ih
theorem ai.J3{P:Program}{f:Nat}{cs:List CV}{args:List SV}{outs:List (Option (List CV))}{r:SV}(h:ai P f (.c (.op (cs.map kM))::args) outs r):ai P f (.c (.op cs)::args) outs r:=by
 refine⟨h.1,fun w ok vs fs h1 h2 h3 h4=> ?_⟩
 obtain⟨f1,hs,hd⟩:∃f1,f1.Sublist fs∧AL w (fun b=>ok b∨(b∈fs∧b∉f1)) (.c (.op (cs.map kM))::args) vs f1:=by
  cases h2 with
  | @cons _ v g _ vs k h0 ht=>
    have hx:Den w ok [.op cs] [v] g:=by
        cases h0 with
        |v hv=>cases hv (fun _=>none) with|c hc=>cases hc with|c hd=>exact hd
        |o hd=>exact hd
    cases hx with
    | @op _ _ _ ty _ b g' arr hb hin ht2=>
      cases ht2
      simp only[List.append_nil] at h3 h4⊢
      refine⟨b::k, ?_, ?_⟩
      ·exact(List.sublist_append_right g' k).cons_cons b
      ·have hn:(b::(g'++k)).Nodup:=by simpa using h3
       rw[List.nodup_cons] at hn
       have hn2:=List.nodup_append.1 hn.2
       have e1:Den w (fun c=>ok c∨(c∈b::(g'++k)∧c∉b::k)) (cs.map kM) arr.toList []:=jJ hin (fun _ h=> .inl h) fun c hc=> .inr ⟨by simp[hc],fun hm=>by
          rcases List.mem_cons.1 hm with rfl|hm
          ·exact hn.1 (by simp[hc])
          ·exact hn2.2.2 c hc c hm rfl⟩
       exact .cons (f:=[b]) (.o (by simpa using Den.op hb e1 .nil)) (ht.tG fun _ h=> .inl h)
 have h5:=h.2 w (fun b=>ok b∨(b∈fs∧b∉f1)) vs f1 (fun b hb=>hb.elim (h1 b) fun hb=>(h4 b hb.1).1) hd (h3.sublist hs)
  (fun b hb=>⟨(h4 b (hs.subset hb)).1,fun hk=>hk.elim (h4 b (hs.subset hb)).2 fun hk=>hk.2 hb⟩)
 refine h5.mono ?_
 rintro e w' ⟨v,fr,fo,rfl,hgr,hn,hb,ho,hou⟩
 have e:xL (fun b=>ok b∨(b∈fs∧b∉f1)) f1 (fr++fo) w w'=xL ok fs (fr++fo) w w':=by
  funext b
  have:((ok b∨(b∈fs∧b∉f1))∨b∈f1∨w.heap.size≤b)↔(ok b∨b∈fs∨w.heap.size≤b):=by
   have:= @List.Sublist.subset _ _ _ hs b
   by_cases h:b∈f1
   ·have:=this h
    simp[h,this]
   ·simp[h,or_assoc]
  unfold xL
  rw[this]
 rw[e] at ho hou
 refine⟨v,fr,fo,rfl,⟨hgr.os,hgr.tape,hgr.output,hgr.size,fun b hb hbn=>hgr.block b hb fun hm=>hbn (hs.subset hm)⟩,hn,fun b hbm=>⟨?_,(hb b hbm).2⟩,ho,hou⟩
 exact(hb b hbm).1.imp_left fun h=>hs.subset h
end Go.KA
namespace Go.Proofs.YtgbggaddpbghfaaGreat
open Go Go.KA Go.Proofs
set_option maxHeartbeats 16000000
set_option maxRecDepth 100000
structure tU(N:Nat)(x:Fit):Prop where
 t0:ao x.t0≤N
 t1:ao x.t1≤N
 t2:ao x.t2≤N
 a0:ao x.a0≤N
 a1:ao x.a1≤N
 a2:ao x.a2≤N
 a3:ao x.a3≤N
theorem jI{N:Nat}{o e:ae}(h1:ao o≤N)(h2:ao e≤N):ao (dI o e)≤N:=by
 unfold dI
 split
 ·exact h2
 ·exact h1
theorem Iv{N:Nat}{x:Fit}{n:Int}{e:ae}(h:tU N x)(he:ao e≤N):tU N (vd x n e).2:=by
 unfold vd
 split
 ·exact⟨jI h.t0 he,h.t1,h.t2,h.a0,h.a1,h.a2,h.a3⟩
 ·split
  ·exact⟨h.t0,jI h.t1 he,h.t2,h.a0,h.a1,h.a2,h.a3⟩
  ·exact⟨h.t0,h.t1,jI h.t2 he,h.a0,h.a1,h.a2,h.a3⟩
theorem HF{N:Nat}{x:Fit}{n:Int}{e:ae}(h:tU N x)(he:ao e≤N):tU N (sc x n e).2:=by
 unfold sc
 split
 ·exact⟨h.t0,h.t1,h.t2,jI h.a0 he,h.a1,h.a2,h.a3⟩
 ·split
  ·exact⟨h.t0,h.t1,h.t2,h.a0,jI h.a1 he,h.a2,h.a3⟩
  ·split
   ·exact⟨h.t0,h.t1,h.t2,h.a0,h.a1,jI h.a2 he,h.a3⟩
   ·exact⟨h.t0,h.t1,h.t2,h.a0,h.a1,h.a2,jI h.a3 he⟩
theorem Mt{l:List ae}{x:ae}{N:Nat}(h:x∈l)(hN:aK l≤N):ao x≤N:=by
 obtain⟨i,hi,rfl⟩:=List.getElem_of_mem h
 have:=vN l i
 rw[getD_eq hi] at this
 omega
mutual
theorem wR{N:Nat}:∀(p y:ae) (x:Fit),tU N x→ao y≤N→tU N (fM p y x).2
 | .mk k n ks,y,x,h,hy=>by
   rw[fM]
   split
   ·split
    ·exact Iv h hy
    ·exact h
   ·split
    ·exact HF h hy
    ·split
     ·refine Cr ks y.kids x h fun z hz=>Mt hz ?_
      cases y
      simpa only[ao,ae.kids] using hy
     ·exact h
theorem Cr{N:Nat}:∀(ps ys:List ae) (x:Fit),tU N x→(∀y∈ys,ao y≤N)→tU N (oJ ps ys x).2
 |p::ps,y::ys,x,h,hy=>by
  rw[oJ]
  have h1:=wR p y x h (hy y (by simp))
  split
  ·exact Cr ps ys _ h1 fun z hz=>hy z (by simp[hz])
  ·exact h1
 |[],l,x,h,_=>by rw[FT];exact h
 |p::ps,[],x,h,_=>by
  rw[oJ]
  ·exact h
  ·intro _ _ _ _ _ h;cases h
end
theorem Dm(N:Nat):tU N pc:=by
 constructor<;>simp[pc,cQ,ao,aK]
theorem max_le{a b c:Int}(h1:a≤c)(h2:b≤c):vt a b≤c:=by unfold vt;split<;>omega
theorem le_max{a b:Int}:a≤vt a b:=by unfold vt;split<;>omega
theorem fC{t a:Int}{e:ae}(h:Tree t a e):∀m:Int,(m≤t→dq 3 e m≤t)∧(m≤a→dq 4 e m≤a)∧(m≤dq 3 e m)∧(m≤dq 4 e m):=by
 induction h with
 |zero=>intro m;simp[dq,eT]
 |one=>intro m;simp[dq,eT]
 |test h0 h1=>intro m;simp only[dq,eT];exact⟨fun h=>max_le h (by omega),fun h=>h,le_max,Int.le_refl _⟩
 |act h0 h1=>intro m;simp only[dq,eT];exact⟨fun h=>h,fun h=>max_le h (by omega),Int.le_refl _,le_max⟩
 |not hc h ih=>intro m;simpa[dq,eT] using ih m
 |star h ih=>intro m;simpa[dq,eT] using ih m
 | @sum x y hx hy ih1 ih2=>
   intro m
   have a1:=ih1 m
   have a3:=ih2 (dq 3 x m)
   have a4:=ih2 (dq 4 x m)
   simp only[dq,eT]
   simp
   exact⟨fun h=>a3.1 (a1.1 h),fun h=>a4.2.1 (a1.2.1 h),Int.le_trans a1.2.2.1 a3.2.2.1,Int.le_trans a1.2.2.2 a4.2.2.2⟩
 | @dot x y hx hy ih1 ih2=>
   intro m
   have a1:=ih1 m
   have a3:=ih2 (dq 3 x m)
   have a4:=ih2 (dq 4 x m)
   simp only[dq,eT]
   simp
   exact⟨fun h=>a3.1 (a1.1 h),fun h=>a4.2.1 (a1.2.1 h),Int.le_trans a1.2.2.1 a3.2.2.1,Int.le_trans a1.2.2.2 a4.2.2.2⟩
end Go.Proofs.YtgbggaddpbghfaaGreat
namespace Go.Proofs.YtgbggaddpbghfaaGreat
open Go Go.KA Go.Proofs
set_option maxHeartbeats 16000000
set_option maxRecDepth 100000
theorem v9:kR 6≤20000:=by decide
theorem Dq(g:ja)(hg:0≤g.au∧g.au≤3∧0≤g.aq∧g.aq≤4)(s:Src)(hs:Rd s 600000000)(hc:s.code.length≤1000000)(n:Int)(hn:0≤n∧n≤100):
 ai Tryz.prog 139 [.c (.op (da s)), .a 2 [J g.au,J g.aq],I n] [some [.op (da (bx g 6 false ⟨s,n⟩).2.s)],none,none] (.a 3 (aI (bx g 6 false ⟨s,n⟩).1)):=by
 have e:=v9
 have h:=nY g hg 6 6 false ⟨s,n⟩ 600000000 rfl ⟨hs,by omega,hc,by simp only[];omega,by simp only[];omega⟩ (by omega)
 rw[ff] at h
 obtain⟨gt,ga⟩:=g
 generalize bx ⟨gt,ga⟩ 6 false ⟨s,n⟩=X at h⊢
 obtain⟨⟨k1,n1,ks1⟩,⟨s1,l1⟩⟩:=X
 simp only[eW] at h⊢
 refine cX Tryz.func139 (h:= ?_)
 repeat'((conv=>whnf);first
  |refine ah.mk ?_ ?_|(guard_target=aa _ 170 _ _ _ _;refine aa.gen [true,false,false] _ _ _ rfl h rfl rfl _ rfl ?_)
  |refine iX (k:= ?_)
  |refine nO ?_)
 all_goals first|rfl|exact⟨rfl,trivial⟩
end Go.Proofs.YtgbggaddpbghfaaGreat
namespace Go.Proofs.YtgbggaddpbghfaaGreat
open Go Go.KA Go.Proofs
set_option maxHeartbeats 16000000
set_option maxRecDepth 100000
mutual
theorem yq:∀e:ae,iV (az e)
 | .mk k n ks=>by
   simp only[az,iV,im]
   exact⟨trivial,trivial,y4 ks,trivial⟩
theorem y4:∀l:List ae,je (jX l)
 |[]=>trivial
 |x::xs=>⟨yq x,y4 xs⟩
end
theorem rT:∀l:List ae,je (l.map az)
 |[]=>trivial
 |x::xs=>⟨yq x,rT xs⟩
theorem gY(e:ae):j8 (.a 3 (bQ e)):=by
 intro x hx
 simp only[bQ,List.mem_cons,List.not_mem_nil,or_false] at hx
 rcases hx with rfl|rfl|rfl
 ·trivial
 ·trivial
 ·exact rT _
end Go.Proofs.YtgbggaddpbghfaaGreat
namespace Go.Proofs.YtgbggaddpbghfaaGreat
open Go Go.KA Go.Proofs
set_option maxHeartbeats 16000000
set_option maxRecDepth 100000
theorem ai.Ox{P:Program}{f:Nat}{args:List SV}{outs:List (Option (List CV))}{cs cs':List CV}{n:Nat}(h:ai P f args outs (.a n cs))(hc:oh cs cs'):ai P f args outs (.a n cs'):=by
 refine⟨h.1,fun w ok vs fs h1 h2 h3 h4=>(h.2 w ok vs fs h1 h2 h3 h4).mono ?_⟩
 rintro e w' ⟨v,fr,fo,h5,h6,h7,h8,h9,h10⟩
 refine⟨v,fr,fo,h5,h6,h7,h8, ?_,h10⟩
 cases h9 with
 |v ha=>
  refine .v ?_
  cases ha with
  |v h=>
   refine .v fun ρ=> ?_
   cases h ρ with
   |c h=>cases h
   |a a1 a2=>first|exact .a (hc.len▸a1) (hc.den a2)|exact .a hc.len.symm (hc.den a2)|exact .a hc.len.symm (hc.den a1)
  |a hl h=>exact .a (hc.len▸hl) (hc.den h)
theorem zq(x:ae):ve (.a 3 (bQ x)) (.a 3 (aI x)):=by
 have h:=Co x
 rw[ff] at h
 cases h with
 |v h=>exact h
theorem dS{P:Program}{f:Nat}{args:List SV}{outs:List (Option (List CV))}{k n:Int}(h:ai P f args outs (.a 3 [J k,J n, .ows 66 3 []])):ai P f args outs (.a 3 (bQ (.mk k n []))):=ai.Ox h (.same (.same (.up .nil)))
theorem vC:ai Tryz.prog 190 [] [] (.a 3 (bQ (.mk 2 0 []))):=by
 refine dS ?_
 refine cX Tryz.func190 (h:= ?_)
 repeat'((conv=>whnf);first
  |refine ah.mk ?_ ?_
  |refine iX (k:= ?_)
  |refine nO ?_)
 all_goals first|rfl|trivial
section
variable{ts us:List ae}(h1:∀x∈ts,ao x≤200)(h2:∀x∈us,ao x≤200)
include h1 h2
theorem Ds(e:ae)(hl:kG e=true)(hn:gV e≤1000)(hx:∀x∈e.kids,∀m:Int,m≤1000→ -1000000+201*(gV x:Nat)≤m→ai Tryz.prog 191 [.c (.rp 3 (af x)), .c (.ro 3 (ts.map af)), .c (.ro 3 (us.map af)), .c (.op [J m])] [none,none,none,some [.op [J (jL ts us x m).2]]] (.a 3 (bQ (jL ts us x m).1))):
 ∀m:Int,m≤1000→ -1000000+201*(gV e:Nat)≤m→ai Tryz.prog 191 [.c (.rp 3 (aI e)), .c (.ro 3 (ts.map af)), .c (.ro 3 (us.map af)), .c (.op [J m])] [none,none,none,some [.op [J (jL ts us e m).2]]] (.a 3 (bQ (jL ts us e m).1)):=by
 intro m m1 m0
 obtain⟨k,d,ks⟩:=e
 rw[kG,Bool.and_eq_true,decide_eq_true_eq] at hl
 rw[jL]
 simp only[ae.kids] at hx
 have e0:aI (.mk k d ks)=[J k,J d, .ro 3 (ks.map af)]:=rfl
 rw[e0]
 have hnb:gV (.mk k d ks)=aK ks+1:=rfl
 by_cases g1:m-1<0
 ·rw[if_pos g1]
  refine dS ?_
  refine cX Tryz.func191 (h:= ?_)
  repeat'((conv=>whnf);first
   |refine ah.mk ?_ ?_
   |(apply Fact.mk;intro hL;try simp only[List.length_map,maxLen] at hL)
   |((first|apply bA|apply bB|apply bC|apply bD|apply bE|apply bF)<;>intro h<;>(try simp only[List.length_map] at h)<;>(try omega)<;>(try contradiction))
   |refine aR ?_
   |refine iX (k:= ?_)
   |refine nB ?_
   |apply ay.no
   |apply cj.go
   |refine nO ?_)
  all_goals first|rfl|exact⟨rfl,trivial⟩|trivial
 rw[if_neg g1]
 by_cases g3:k=3
 ·subst g3
  rw[if_pos rfl]
  by_cases g5:d≥(ts.length:Nat)
  ·rw[if_pos g5]
   refine cX Tryz.func191 (h:= ?_)
   repeat'((conv=>whnf);first
        |refine ah.mk ?_ ?_
        |(apply Fact.mk;intro hL;try simp only[List.length_map,maxLen] at hL)
        |((first|apply bA|apply bB|apply bC|apply bD|apply bE|apply bF)<;>intro h<;>(try simp only[List.length_map] at h)<;>(try omega)<;>(try contradiction))|(guard_target=aa _ 190 _ _ _ _;refine cG [] rfl (vC) ?_)
        |refine aR ?_
        |refine iX (k:= ?_)
        |refine nB ?_
        |apply ay.no
        |apply cj.go
        |refine nO ?_)
   all_goals first|rfl|exact⟨rfl,trivial⟩|trivial
  ·rw[if_neg g5]
   have hi:d.toNat<ts.length:=by omega
   have hb:ao (ts.getD d.toNat cQ)≤200:=by rw[getD_eq hi];exact h1 _ (List.getElem_mem hi)
   have c1:=Ay (ts.getD d.toNat cQ) (by simp only[gV];omega)
   have c2:=er (ts.getD d.toNat cQ) (by omega)
   rw[ff] at c2
   have ix:=km (l:=ts) (i:=d.toNat) hi
   have hnb2:gV (ts.getD d.toNat cQ)≤201:=by simp only[gV];omega
   generalize gV (ts.getD d.toNat cQ)=z at c1 hnb2⊢
   generalize ts.getD d.toNat cQ=x at c1 c2 ix⊢
   refine cX Tryz.func191 (h:= ?_)
   repeat'((conv=>whnf);first
        |refine ah.mk ?_ ?_
        |(apply Fact.mk;intro hL;try simp only[List.length_map,maxLen] at hL)
        |((first|apply bA|apply bB|apply bC|apply bD|apply bE|apply bF)<;>intro h<;>(try simp only[List.length_map] at h)<;>(try omega)<;>(try contradiction))|(guard_target=aa _ 193 _ _ _ _;refine cP rfl (c1) ?_)|(guard_target=aa _ 137 _ _ _ _;refine cG [] rfl (c2) ?_)
        |refine aR ?_|(guard_target=Index _ _ _;first|refine Index.mk _ (ix) ?_)
        |refine iX (k:= ?_)
        |refine nB ?_
        |apply ay.no
        |apply cj.go
        |refine nO ?_)
   all_goals first|rfl|exact⟨rfl,trivial⟩|trivial
 rw[if_neg g3]
 by_cases g4:k=4
 ·subst g4
  rw[if_pos rfl]
  by_cases g5:d≥(us.length:Nat)
  ·rw[if_pos g5]
   refine cX Tryz.func191 (h:= ?_)
   repeat'((conv=>whnf);first
        |refine ah.mk ?_ ?_
        |(apply Fact.mk;intro hL;try simp only[List.length_map,maxLen] at hL)
        |((first|apply bA|apply bB|apply bC|apply bD|apply bE|apply bF)<;>intro h<;>(try simp only[List.length_map] at h)<;>(try omega)<;>(try contradiction))|(guard_target=aa _ 190 _ _ _ _;refine cG [] rfl (vC) ?_)
        |refine aR ?_
        |refine iX (k:= ?_)
        |refine nB ?_
        |apply ay.no
        |apply cj.go
        |refine nO ?_)
   all_goals first|rfl|exact⟨rfl,trivial⟩|trivial
  ·rw[if_neg g5]
   have hi:d.toNat<us.length:=by omega
   have hb:ao (us.getD d.toNat cQ)≤200:=by rw[getD_eq hi];exact h2 _ (List.getElem_mem hi)
   have c1:=Ay (us.getD d.toNat cQ) (by simp only[gV];omega)
   have c2:=er (us.getD d.toNat cQ) (by omega)
   rw[ff] at c2
   have ix:=km (l:=us) (i:=d.toNat) hi
   have hnb2:gV (us.getD d.toNat cQ)≤201:=by simp only[gV];omega
   generalize gV (us.getD d.toNat cQ)=z at c1 hnb2⊢
   generalize us.getD d.toNat cQ=x at c1 c2 ix⊢
   refine cX Tryz.func191 (h:= ?_)
   repeat'((conv=>whnf);first
        |refine ah.mk ?_ ?_
        |(apply Fact.mk;intro hL;try simp only[List.length_map,maxLen] at hL)
        |((first|apply bA|apply bB|apply bC|apply bD|apply bE|apply bF)<;>intro h<;>(try simp only[List.length_map] at h)<;>(try omega)<;>(try contradiction))|(guard_target=aa _ 193 _ _ _ _;refine cP rfl (c1) ?_)|(guard_target=aa _ 137 _ _ _ _;refine cG [] rfl (c2) ?_)
        |refine aR ?_|(guard_target=Index _ _ _;first|refine Index.mk _ (ix) ?_)
        |refine iX (k:= ?_)
        |refine nB ?_
        |apply ay.no
        |apply cj.go
        |refine nO ?_)
   all_goals first|rfl|exact⟨rfl,trivial⟩|trivial
 rw[if_neg g4]
 have hlen:ks.length≤1000:=by
  have:∀l:List ae,l.length≤aK l:=fun l=>by
   induction l with
   |nil=>exact Nat.zero_le _
   |cons x xs ih=>simp only[aK,List.length_cons];omega
  have:=this ks
  omega
 have hbd:∀i (h:i<ks.length),aK (ks.take i)+gV ks[i]≤aK ks:=fun i h=>by
  have h5:=rQ (l:=ks) h
  have h6:=w5 ks (i+1)
  omega
 have hpb:=fun i=>CU h1 h2 (ks.take i) (m-1)
 have e9:∀l:List ae,bQ (.mk k d l)=[J k,J d, .own 66 3 (l.map az)]:=fun l=>rfl
 rw[e9]
 have fin:gZ ts us (ks.take ks.length) (m-1)=gZ ts us ks (m-1):=by rw[List.take_length]
 rw[←fin]
 have hnext:∀i (h:i<ks.length),gZ ts us (ks.take (i+1)) (m-1)=((gZ ts us (ks.take i) (m-1)).1++[(jL ts us ks[i] (gZ ts us (ks.take i) (m-1)).2).1],(jL ts us ks[i] (gZ ts us (ks.take i) (m-1)).2).2):=fun i h=>zg h _
 have hlen2:∀i,i≤ks.length→(gZ ts us (ks.take i) (m-1)).1.length=i:=fun i h=>by rw[BH,List.length_take];omega
 have h00:gZ ts us (ks.take 0) (m-1)=([],m-1):=by simp[gZ]
 generalize hP:(fun i=>gZ ts us (ks.take i) (m-1))=P at*
 have hP':∀i,gZ ts us (ks.take i) (m-1)=P i:=fun i=>by rw[←hP]
 simp only[hP'] at*
 refine cX Tryz.func191 (h:= ?_)
 repeat'((conv=>whnf);first
  |(guard_target=ah _ _;(obtain rfl:i=ks.length:=(by have:=ha.1;omega));rw[←ha.2.1,←ha.2.2.1];exact ah.mk rfl ⟨rfl,trivial⟩)
  |refine ah.mk ?_ ?_|(guard_target=~ aP 14 _ _ _ _ _ _;refine lX (Nat × List (List CV)× Int) [0,1,2,3,8,10] (fun⟨i,rows,q⟩=>[(11,I (i:Nat))]) (fun⟨i,rows,q⟩=>[(0, .cc 1 [J q]),(3, .aG none 66 3 rows)]) (fun⟨i,rows,q⟩=>i≤ks.length∧rows=(P i).1.map az∧q=(P i).2∧rows.length=i) (fun⟨i,rows,q⟩=>ks.length-i) (0,[],m-1) (by exact⟨Nat.zero_le _,by show[]=(P 0).1.map az;rw[h00];rfl,by show m-1=(P 0).2;rw[h00],rfl⟩) (fun A ha=> ?_);obtain⟨i,rows,q⟩:=A;have ha:i≤ks.length∧rows=(P i).1.map az∧q=(P i).2∧rows.length=i:=ha;have hpi:=hpb i;have hbi:=hbd i)
  |refine qJ ((i+1,rows++[bQ (jL ts us (ks[i]'(by omega)) q).1],(jL ts us (ks[i]'(by omega)) q).2):Nat × List (List CV)× Int) (by exact⟨by show i+1≤_;omega,by show _=(P (i+1)).1.map az;rw[hnext i (by omega),List.map_append,←ha.2.1,←ha.2.2.1,List.map_cons,List.map_nil,dw],by show _=(P (i+1)).2;rw[hnext i (by omega),←ha.2.2.1],by show(rows++_).length=i+1;rw[List.length_append,ha.2.2.2];rfl⟩)
  |(apply Fact.mk;intro hL;try simp only[List.length_map,maxLen] at hL)
  |((first|apply bA|apply bB|apply bC|apply bD|apply bE|apply bF)<;>intro h<;>(try simp only[List.length_map] at h)<;>(try omega)<;>(try contradiction))|(guard_target=aa _ 191 _ _ _ _;refine cG [false,false,false,true] rfl (hx (ks[i]'(by omega)) (List.getElem_mem (by omega)) q (by omega) (by have:=hbi (by omega);omega)) ?_)
  |refine aR ?_|(guard_target=Index _ _ _;first|refine Index.mk _ (bz (i:=i) (by omega)) ?_)
  |refine iX (k:= ?_)
  |refine nB ?_
  |apply ay.no
  |apply cj.go|(guard_target=aQ _ _;refine aQ.mk (by first|((simp only[List.length_cons,List.length_nil,maxLen];constructor<;>omega))|fail) ?_)
  |refine nO ?_)
 all_goals first|rfl|exact⟨rfl,trivial⟩|trivial
theorem wD(e:ae)(hl:kG e=true)(hn:gV e≤1000)(m:Int)(m1:m≤1000)(m0: -1000000+201*(gV e:Nat)≤m):ai Tryz.prog 191 [.c (.rp 3 (af e)), .c (.ro 3 (ts.map af)), .c (.ro 3 (us.map af)), .c (.op [J m])] [none,none,none,some [.op [J (jL ts us e m).2]]] (.a 3 (bQ (jL ts us e m).1)):=by
 rw[a9]
 exact Ds h1 h2 e hl hn (fun x _hx m a b=>wD x (xb _hx (by rw[Gm,Bool.and_eq_true] at hl;exact hl.2)) (by have:=vA _hx;omega) m a b) m m1 m0
 termination_by SizeOf.sizeOf e
 decreasing_by
  have:=List.sizeOf_lt_of_mem _hx
  cases e
  simp only[ae.mk.sizeOf_spec]
  show SizeOf.sizeOf x<_
  simp only[ae.kids] at this
  omega
theorem ll(t a:Int)(hs:bT t a=true)(e:ae)(hl:kG e=true)(hn:gV e≤1000):ai Tryz.prog 168 [.a 2 [J t,J a], .c (.rp 3 (aI e)), .c (.ro 3 (ts.map af)), .c (.ro 3 (us.map af))] [] (.tup [.a 3 (bQ (ie t a e ts us).1),B (ie t a e ts us).2]):=by
 have c1:=wD h1 h2 e hl hn 200 (by decide) (by omega)
 rw[ff] at c1
 have hb:=lG h1 h2 e 200
 have c2:=lF t a (jL ts us e 200).1 (by simp only[gV] at*;omega)
 rw[hs,ff] at c2
 unfold ie
 generalize jL ts us e 200=R at c1 c2⊢
 obtain⟨⟨k,n,ks⟩,m⟩:=R
 simp only[Bool.true_and] at c1 c2⊢
 have e8:aI (.mk k n ks)=[J k,J n, .ro 3 (db (ks.map az))]:=by rw[ch eK];rfl
 rw[e8] at c2
 generalize aW t a (.mk k n ks)=g at c2⊢
 by_cases hm9:0≤m
 ·rw[decide_eq_true hm9]
  cases g with
  |true=>
   refine cX Tryz.func168 (h:= ?_)
   repeat'((conv=>whnf);first
     |refine ah.mk ?_ ?_
     |((first|apply bA|apply bB|apply bC|apply bD|apply bE|apply bF)<;>intro h<;>(try simp only[List.length_map] at h)<;>(try omega)<;>(try contradiction))|(guard_target=aa _ 191 _ _ _ _;refine cG [false,false,false,true] rfl (c1) ?_)|(guard_target=aa _ 174 _ _ _ _;refine cP rfl (c2) ?_)
     |refine iX (k:= ?_)
     |refine nB ?_
     |apply cj.go
     |refine nO ?_)
   all_goals first|rfl|trivial
  |false=>
   refine cX Tryz.func168 (h:= ?_)
   repeat'((conv=>whnf);first
     |refine ah.mk ?_ ?_
     |((first|apply bA|apply bB|apply bC|apply bD|apply bE|apply bF)<;>intro h<;>(try simp only[List.length_map] at h)<;>(try omega)<;>(try contradiction))|(guard_target=aa _ 191 _ _ _ _;refine cG [false,false,false,true] rfl (c1) ?_)|(guard_target=aa _ 174 _ _ _ _;refine cP rfl (c2) ?_)
     |refine iX (k:= ?_)
     |refine nB ?_
     |apply cj.go
     |refine nO ?_)
   all_goals first|rfl|trivial
 ·rw[decide_eq_false hm9]
  refine cX Tryz.func168 (h:= ?_)
  repeat'((conv=>whnf);first
   |refine ah.mk ?_ ?_
   |((first|apply bA|apply bB|apply bC|apply bD|apply bE|apply bF)<;>intro h<;>(try simp only[List.length_map] at h)<;>(try omega)<;>(try contradiction))|(guard_target=aa _ 191 _ _ _ _;refine cG [false,false,false,true] rfl (c1) ?_)|(guard_target=aa _ 174 _ _ _ _;refine cP rfl (c2) ?_)
   |refine iX (k:= ?_)
   |refine nB ?_
   |apply cj.go
   |refine nO ?_)
  all_goals first|rfl|trivial
theorem yX(t a:Int)(hs:bT t a=true)(e:ae)(hl:kG e=true)(hn:gV e≤1000):ai Tryz.prog 168 [.a 2 [J t,J a], .c (.rp 3 (aI e)), .c (.ro 3 (ts.map af)), .c (.ro 3 (us.map af))] [] (.tup [.a 3 (aI (ie t a e ts us).1),B (ie t a e ts us).2]):=
 (ll h1 h2 t a hs e hl hn).soft (.tup (.cons (zq _) (.cons .same .nil)))
end
end Go.Proofs.YtgbggaddpbghfaaGreat
namespace Go.KA
open Go Go.RowKit
theorem il.of_eq{a b:List (List CV)}(h:a=b):il a b:=by
 subst h
 induction a with
 |nil=>exact .nil
 |cons r rs ih=>exact .cons (fS.refl r) ih
end Go.KA
namespace Go.Proofs.YtgbggaddpbghfaaGreat
open Go Go.KA Go.Proofs
set_option maxHeartbeats 16000000
set_option maxRecDepth 100000
def jD(c:CV):List Int→ae→List CV
 |[],e=>[J e.kind,J e.num,c]
 |i::p,e=>[J e.kind,J e.num, .own 66 3 ((e.kids.map az).set i.toNat (jD c p (e.kids.getD i.toNat cQ)))]
def nH:List Int→ae→Prop
 |[],_=>True
 |i::p,e=>i.toNat<e.kids.length∧nH p (e.kids.getD i.toNat cQ)
theorem nH.snoc{i:Int}:∀{p:List Int} {e:ae},nH p e→i.toNat<(cN p e).length→nH (p++[i]) e
 |[],_,_,h=>⟨h,trivial⟩
 |_::_,_,h1,h=>⟨h1.1,nH.snoc h1.2 h⟩
theorem zS(v:Value)(r:CV):∀(p:List Int) (e:ae),nH p e→ko v r (jD (.val v) p e) (jD r p e)
 |[],e,_=> .skip (.skip .here)
 |i::p,e,h=>by
  refine .skip (.skip ?_)
  have h2:=ko.own (v:=v) (r:=r) (ty:=66) (sz:=3) (rows:=(e.kids.map az).set i.toNat (jD (.val v) p (e.kids.getD i.toNat cQ))) (i:=i.toNat) (cs:=[]) (cB (by rw[List.length_map];exact h.1)) (zS v r p (e.kids.getD i.toNat cQ) h.2)
  rwa[List.set_set] at h2
theorem xu(ks:List ae):∀(p:List Int) (e:ae),jD (.own 66 3 (ks.map az)) p e=az (yP ks p e)
 |[],e=>by
  show _=az (.mk e.kind e.num ks)
  rw[dw]
  rfl
 |i::p,e=>by
  rw[jD,xu ks p,yP,dw (.mk _ _ _)]
  show _=[J e.kind,J e.num,CV.own _ 3 ((e.kids.set i.toNat (yP ks p (e.kids.getD i.toNat cQ))).map az)]
  rw[List.map_set]
theorem xk(r:CV)(i:Int):∀(p:List Int) (e:ae),jD (.own 66 3 (((cN p e).map az).set i.toNat [J ((cN p e).getD i.toNat cQ).kind,J ((cN p e).getD i.toNat cQ).num,r])) p e=jD r (p++[i]) e
 |[],e=>rfl
 |j::p,e=>by
  rw[List.cons_append,jD,jD,cN,xk r i p]
theorem yu(v v2:Value)(e:ae)(pp:List Int)(ix:Int)(hp:nH pp e):ko v (.own 66 3 (((cN pp e).map az).set ix.toNat [J ((cN pp e).getD ix.toNat cQ).kind,J ((cN pp e).getD ix.toNat cQ).num, .val v2])) (jD (.val v) pp e) (jD (.val v2) (pp++[ix]) e):=by
 have h:=zS v (.own 66 3 (((cN pp e).map az).set ix.toNat [J ((cN pp e).getD ix.toNat cQ).kind,J ((cN pp e).getD ix.toNat cQ).num, .val v2])) pp e hp
 rwa[xk] at h
theorem JF(v:Value)(y e:ae)(pp:List Int)(ix:Int)(hp:nH pp e):ko v (.own 66 3 (((cN pp e).map az).set ix.toNat (bQ y))) (jD (.val v) pp e) (az (gD y e (pp++[ix]))):=by
 have h:=zS v (.own 66 3 (((cN pp e).set ix.toNat y).map az)) pp e hp
 rw[xu,ye,List.map_set,dw y] at h
 exact h
inductive Md where
 |root
 |one
 |deep
def Pw:Md→Nat→SV
 | .root,_=> .lp 5 0
 | .one,i=> .le 3 3 i 0
 | .deep,i=> .le 6 3 i 0
def PE:Md→List ae→List (List CV)
 | .deep,l=>l.map az
 |_,_=>[]
structure MU where
 m:Md
 x:ae
 ks:List ae
 ix:Int
 pp:List Int
 v:Value
 Pc:List (List CV)
 S:SV
 bl:Bool
 i:Nat
structure P2(e:ae)(p:List Int)(R:ae × Bool × Bool)(s:MU):Prop where
 S:s.S= .c (.cb s.bl)∨s.S=B s.bl
 i:s.i≤p.length
 at_:nr s.x (p.drop s.i) s.bl=R
 MO:ao s.x≤1048576
 ks:s.ks=cN s.pp e
 P9:nH s.pp e
 rt:s.m= .root→s.i=0∧s.x=e∧s.pp=[]∧s.Pc=e.kids.map az
 on:s.m= .one→s.pp=[]∧p.take s.i=[s.ix]∧s.x=s.ks.getD s.ix.toNat cQ∧0≤s.ix∧s.ix.toNat<s.ks.length∧s.Pc=e.kids.map az
 de:s.m= .deep→∃j q,s.pp=j::q∧p.take s.i=s.pp++[s.ix]∧s.x=s.ks.getD s.ix.toNat cQ∧0≤s.ix∧s.ix.toNat<s.ks.length∧s.Pc=(e.kids.map az).set j.toNat (jD (.val s.v) q (e.kids.getD j.toNat cQ))
section
variable{t a:Int}(hs:bT t a=true)(k n:Int)(ks0:List ae)(y:ae)(p:List Int)(hbe:ao (.mk k n ks0)≤500000)(hby:ao y≤500000){R:ae × Bool × Bool}(hR:nr (.mk k n ks0) p false=R)
include hs hbe hby hR
omit hs hbe hby hR in
theorem Jo{i0 ix:Int}{p1:List Int}{i:Nat}(hp0:p=i0::p1)(hpp:p.take i=[ix])(h8:¬((i:Nat):Int)<(p.length:Nat))(y:ae):(ks0.map az).set ix.toNat (bQ y)=(ks0.set i0.toNat (gD y (ks0.getD i0.toNat cQ) p1)).map az:=by
 rw[List.take_of_length_le (by omega),hp0] at hpp
 injection hpp with h1 h2
 subst h1 h2
 rw[List.map_set,gD,dw]
omit hs hbe hby hR in
theorem Io{i0 ix j:Int}{p1 q:List Int}{i:Nat}(hp0:p=i0::p1)(hpp:p.take i=(j::q)++[ix])(h8:¬((i:Nat):Int)<(p.length:Nat))(y:ae)(z:List CV):((ks0.map az).set j.toNat z).set j.toNat (az (gD y (ks0.getD j.toNat cQ) (q++[ix])))=(ks0.set i0.toNat (gD y (ks0.getD i0.toNat cQ) p1)).map az:=by
 rw[List.take_of_length_le (by omega),hp0,List.cons_append] at hpp
 injection hpp with h1 h2
 subst h1 h2
 rw[List.map_set,List.set_set]
theorem Et{i0:Int}{p1:List Int}(hp0:p=i0::p1){cb gb:Bool}{r:SV}
 (c2:aE Tryz.prog 214 [.c (.rp 3 (aI y))] (B cb))
 (c4:aE Tryz.prog 174 [.a 2 [J t,J a], .c (.rp 3 [J k,J n, .ro 3 (db ((ks0.set i0.toNat (gD y (ks0.getD i0.toNat cQ) p1)).map az))])] (B gb))
 (e1:R.2.2=false→r= .tup [.a 3 [J 0,J 0, .ows 66 3 []],I 2])
 (e2:R.2.2=true→R.2.1=true→cb=false→r= .tup [.a 3 [J 0,J 0, .ows 66 3 []],I 4])
 (e3:R.2.2=true→(R.2.1=false∨cb=true)→gb=false→r= .tup [.a 3 [J 0,J 0, .ows 66 3 []],I 3])
 (e4:R.2.2=true→(R.2.1=false∨cb=true)→gb=true→r= .tup [.a 3 [J k,J n, .own 66 3 ((ks0.set i0.toNat (gD y (ks0.getD i0.toNat cQ) p1)).map az)],I 0]):
 ai Tryz.prog 198 [.a 2 [J t,J a], .c (.rp 3 (aI (.mk k n ks0))), .c (.ro 1 (p.map eI)), .c (.rp 3 (aI y))] [] r:=by
 have _:=hs
 have c1:=er (.mk k n ks0) (by omega)
 rw[ff] at c1
 have c3:=er y (by omega)
 rw[ff] at c3
 refine cX Tryz.func198 (fun reg_=>match reg_ with|8=>true|_=>false) (h:= ?_)
 repeat'((conv=>whnf);first
  |(guard_target=uq _ _ _ _ _ _;(have h8:=‹¬((i:Nat):Int)<(p.length:Nat)›);(have _:=trt);(have h9:=congrArg List.length hp0);(simp only[List.length_cons] at h9);exfalso;omega)|(guard_target=Gh _ _ _ _ _;refine Gh.soft 4 gE.up (Gh.go ?_))|(guard_target=cj _ _ _ _;refine cj.move 4 rfl (fun v1 hv1=> ?_);clear hv1;refine cj.go ?_)|(guard_target=cj _ _ _ _;(have _:=ton);refine cj.Kt 3 ix.toNat 2 rfl (AO hix) rfl (fun v2=>cj.go ?_))|(guard_target=cj _ _ _ _;(have _:=tde);refine cj.Kt 6 ix.toNat 2 rfl (AO hix) rfl (fun v2=>cj.go ?_))|(guard_target=Gh _ _ _ _ _;(have _:=‹dH 0 _ _=true›);(have _:=trt);(have _:nr (.mk k n ks0) (p.drop i) true=R:=hA);refine Gh.go ⟨(⟨.one,ks0.getD (p[i]'(by omega)).toNat cQ,ks0,p[i]'(by omega),[],v,ks0.map az, .c (.cb true),true,i+1⟩:MU),(by(have h9:=bW ‹dH 0 _ _=true›);(try simp only[List.length_map,ae.kids,cN] at h9);exact⟨.inl rfl,by show i+1≤_;omega,by show nr _ (p.drop (i+1)) _=R;rw[←hA];exact(uQ (x:=(.mk k n ks0)) (p:=p) (i:=i) (b:=true) (by omega) (by simpa[ae.kids,cN] using‹dH 0 _ _=true›)).symm,Nat.le_trans (hkb _) hB,rfl,trivial,(fun h=>by cases h),(fun _=>⟨rfl,by show p.take (i+1)=[_];subst hi0;rw[List.take_add_one,List.getElem?_eq_getElem (by omega)];rfl,rfl,h9.1,by show _<_;simp only[ae.kids] at h9⊢;omega,rfl⟩),(fun h=>by cases h)⟩),(by show _<_;(try simp only[]);omega),(by(repeat'((conv=>whnf)<;>(first|exact trivial|refine⟨?_, ?_⟩|kernel_rfl)));done),(by(repeat'((conv=>whnf)<;>(first|exact trivial|refine⟨?_, ?_⟩|kernel_rfl)));done),(by(repeat'((conv=>whnf)<;>(first|exact trivial|refine⟨?_, ?_⟩|kernel_rfl)));done)⟩)|(guard_target=Gh _ _ _ _ _;(have _:=‹dH 0 _ _=true›);(have _:=ton);(have _:nr _ (p.drop i) true=R:=hA);refine Gh.G8 6 _ rfl (Gh.IA 7 6 rfl (Gh.go ⟨(⟨.deep,(ks0.getD ix.toNat cQ).kids.getD (p[i]'(by omega)).toNat cQ,(ks0.getD ix.toNat cQ).kids,p[i]'(by omega),[ix],v2,(ks0.map az).set ix.toNat [J (ks0.getD ix.toNat cQ).kind,J (ks0.getD ix.toNat cQ).num, .val v2], .c (.cb true),true,i+1⟩:MU),(by(have h9:=bW ‹dH 0 _ _=true›);(try simp only[List.length_map,ae.kids,cN] at h9);exact⟨.inl rfl,by show i+1≤_;omega,by show nr _ (p.drop (i+1)) _=R;rw[←hA];exact(uQ (x:=(ks0.getD ix.toNat cQ)) (p:=p) (i:=i) (b:=true) (by omega) (by simpa[ae.kids,cN] using‹dH 0 _ _=true›)).symm,Nat.le_trans (hkb _) hB,rfl,⟨hix,trivial⟩,(fun h=>by cases h),(fun h=>by cases h),(fun _=>⟨ix,[],rfl,by show p.take (i+1)=_;rw[List.take_add_one,List.getElem?_eq_getElem (by omega),hpp];rfl,rfl,h9.1,by show _<_;simp only[ae.kids] at h9⊢;omega,rfl⟩)⟩),(by show _<_;(try simp only[]);omega),(by(repeat'((conv=>whnf)<;>(first|exact trivial|refine⟨?_, ?_⟩|kernel_rfl)));done),(by(repeat'((conv=>whnf)<;>(first|exact trivial|refine⟨?_, ?_⟩|kernel_rfl)));done),(by(repeat'((conv=>whnf)<;>(first|exact trivial|refine⟨?_, ?_⟩|kernel_rfl)));done)⟩)))|(guard_target=Gh _ _ _ _ _;(have _:=‹dH 0 _ _=true›);(have _:=tde);(have _:nr _ (p.drop i) true=R:=hA);refine Gh.zd 3 6 j.toNat rfl (cB (by rw[List.length_map];exact hpi.1)) rfl rfl (yu v v2 (ks0.getD j.toNat cQ) q ix hpi.2) (Gh.IA 7 6 rfl (Gh.go ⟨(⟨.deep,((cN (j::q) (.mk k n ks0)).getD ix.toNat cQ).kids.getD (p[i]'(by omega)).toNat cQ,((cN (j::q) (.mk k n ks0)).getD ix.toNat cQ).kids,p[i]'(by omega),(j::q)++[ix],v2,((ks0.map az).set j.toNat (jD (.val v) q (ks0.getD j.toNat cQ))).set j.toNat (jD (.val v2) (q++[ix]) (ks0.getD j.toNat cQ)), .c (.cb true),true,i+1⟩:MU),(by(have h9:=bW ‹dH 0 _ _=true›);(try simp only[List.length_map,ae.kids,cN] at h9);exact⟨.inl rfl,by show i+1≤_;omega,by show nr _ (p.drop (i+1)) _=R;rw[←hA];exact(uQ (x:=((cN (j::q) (.mk k n ks0)).getD ix.toNat cQ)) (p:=p) (i:=i) (b:=true) (by omega) (by simpa[ae.kids,cN] using‹dH 0 _ _=true›)).symm,Nat.le_trans (hkb _) hB,(tE _ _ _).symm,hpi.snoc hix,(fun h=>by cases h),(fun h=>by cases h),(fun _=>⟨j,q++[ix],rfl,by show p.take (i+1)=_;rw[List.take_add_one,List.getElem?_eq_getElem (by omega),hpp];rfl,rfl,h9.1,by show _<_;simp only[ae.kids,cN] at h9⊢;omega,List.set_set _⟩)⟩),(by show _<_;(try simp only[]);omega),(by(repeat'((conv=>whnf)<;>(first|exact trivial|refine⟨?_, ?_⟩|kernel_rfl)));done),(by(repeat'((conv=>whnf)<;>(first|exact trivial|refine⟨?_, ?_⟩|kernel_rfl)));done),(by(repeat'((conv=>whnf)<;>(first|exact trivial|refine⟨?_, ?_⟩|kernel_rfl)));done)⟩)))|(guard_target=Gh _ _ _ _ _;(have _:=‹dH 0 _ _=true›);(have _:=trt);(have _:nr (.mk k n ks0) (p.drop i) false=R:=hA);refine Gh.go ⟨(⟨.one,ks0.getD (p[i]'(by omega)).toNat cQ,ks0,p[i]'(by omega),[],v,ks0.map az,B (k==5),k==5,i+1⟩:MU),(by(have h9:=bW ‹dH 0 _ _=true›);(try simp only[List.length_map,ae.kids,cN] at h9);exact⟨.inr rfl,by show i+1≤_;omega,by show nr _ (p.drop (i+1)) _=R;rw[←hA];exact(uQ (x:=(.mk k n ks0)) (p:=p) (i:=i) (b:=false) (by omega) (by simpa[ae.kids,cN] using‹dH 0 _ _=true›)).symm,Nat.le_trans (hkb _) hB,rfl,trivial,(fun h=>by cases h),(fun _=>⟨rfl,by show p.take (i+1)=[_];subst hi0;rw[List.take_add_one,List.getElem?_eq_getElem (by omega)];rfl,rfl,h9.1,by show _<_;simp only[ae.kids] at h9⊢;omega,rfl⟩),(fun h=>by cases h)⟩),(by show _<_;(try simp only[]);omega),(by(repeat'((conv=>whnf)<;>(first|exact trivial|refine⟨?_, ?_⟩|kernel_rfl)));done),(by(repeat'((conv=>whnf)<;>(first|exact trivial|refine⟨?_, ?_⟩|kernel_rfl)));done),(by(repeat'((conv=>whnf)<;>(first|exact trivial|refine⟨?_, ?_⟩|kernel_rfl)));done)⟩)|(guard_target=Gh _ _ _ _ _;(have _:=‹dH 0 _ _=true›);(have _:=ton);(have _:nr _ (p.drop i) false=R:=hA);refine Gh.G8 6 _ rfl (Gh.IA 7 6 rfl (Gh.go ⟨(⟨.deep,(ks0.getD ix.toNat cQ).kids.getD (p[i]'(by omega)).toNat cQ,(ks0.getD ix.toNat cQ).kids,p[i]'(by omega),[ix],v2,(ks0.map az).set ix.toNat [J (ks0.getD ix.toNat cQ).kind,J (ks0.getD ix.toNat cQ).num, .val v2],B ((ks0.getD ix.toNat cQ).kind==5),(ks0.getD ix.toNat cQ).kind==5,i+1⟩:MU),(by(have h9:=bW ‹dH 0 _ _=true›);(try simp only[List.length_map,ae.kids,cN] at h9);exact⟨.inr rfl,by show i+1≤_;omega,by show nr _ (p.drop (i+1)) _=R;rw[←hA];exact(uQ (x:=(ks0.getD ix.toNat cQ)) (p:=p) (i:=i) (b:=false) (by omega) (by simpa[ae.kids,cN] using‹dH 0 _ _=true›)).symm,Nat.le_trans (hkb _) hB,rfl,⟨hix,trivial⟩,(fun h=>by cases h),(fun h=>by cases h),(fun _=>⟨ix,[],rfl,by show p.take (i+1)=_;rw[List.take_add_one,List.getElem?_eq_getElem (by omega),hpp];rfl,rfl,h9.1,by show _<_;simp only[ae.kids] at h9⊢;omega,rfl⟩)⟩),(by show _<_;(try simp only[]);omega),(by(repeat'((conv=>whnf)<;>(first|exact trivial|refine⟨?_, ?_⟩|kernel_rfl)));done),(by(repeat'((conv=>whnf)<;>(first|exact trivial|refine⟨?_, ?_⟩|kernel_rfl)));done),(by(repeat'((conv=>whnf)<;>(first|exact trivial|refine⟨?_, ?_⟩|kernel_rfl)));done)⟩)))|(guard_target=Gh _ _ _ _ _;(have _:=‹dH 0 _ _=true›);(have _:=tde);(have _:nr _ (p.drop i) false=R:=hA);refine Gh.zd 3 6 j.toNat rfl (cB (by rw[List.length_map];exact hpi.1)) rfl rfl (yu v v2 (ks0.getD j.toNat cQ) q ix hpi.2) (Gh.IA 7 6 rfl (Gh.go ⟨(⟨.deep,((cN (j::q) (.mk k n ks0)).getD ix.toNat cQ).kids.getD (p[i]'(by omega)).toNat cQ,((cN (j::q) (.mk k n ks0)).getD ix.toNat cQ).kids,p[i]'(by omega),(j::q)++[ix],v2,((ks0.map az).set j.toNat (jD (.val v) q (ks0.getD j.toNat cQ))).set j.toNat (jD (.val v2) (q++[ix]) (ks0.getD j.toNat cQ)),B (((cN (j::q) (.mk k n ks0)).getD ix.toNat cQ).kind==5),((cN (j::q) (.mk k n ks0)).getD ix.toNat cQ).kind==5,i+1⟩:MU),(by(have h9:=bW ‹dH 0 _ _=true›);(try simp only[List.length_map,ae.kids,cN] at h9);exact⟨.inr rfl,by show i+1≤_;omega,by show nr _ (p.drop (i+1)) _=R;rw[←hA];exact(uQ (x:=((cN (j::q) (.mk k n ks0)).getD ix.toNat cQ)) (p:=p) (i:=i) (b:=false) (by omega) (by simpa[ae.kids,cN] using‹dH 0 _ _=true›)).symm,Nat.le_trans (hkb _) hB,(tE _ _ _).symm,hpi.snoc hix,(fun h=>by cases h),(fun h=>by cases h),(fun _=>⟨j,q++[ix],rfl,by show p.take (i+1)=_;rw[List.take_add_one,List.getElem?_eq_getElem (by omega),hpp];rfl,rfl,h9.1,by show _<_;simp only[ae.kids,cN] at h9⊢;omega,List.set_set _⟩)⟩),(by show _<_;(try simp only[]);omega),(by(repeat'((conv=>whnf)<;>(first|exact trivial|refine⟨?_, ?_⟩|kernel_rfl)));done),(by(repeat'((conv=>whnf)<;>(first|exact trivial|refine⟨?_, ?_⟩|kernel_rfl)));done),(by(repeat'((conv=>whnf)<;>(first|exact trivial|refine⟨?_, ?_⟩|kernel_rfl)));done)⟩)))|(guard_target=Gh _ _ _ _ _;(have h8:=‹¬((i:Nat):Int)<(p.length:Nat)›);(have _:=ton);refine Gh.soft 3 (gE.aG (il.of_eq (Jo ks0 p hp0 hpp h8 y))) (Gh.go ?_))|(guard_target=Gh _ _ _ _ _;(have h8:=‹¬((i:Nat):Int)<(p.length:Nat)›);(have _:=tde);refine Gh.zd 3 6 j.toNat rfl (cB (by rw[List.length_map];exact hpi.1)) rfl rfl (JF v y (ks0.getD j.toNat cQ) q ix hpi.2) (Gh.soft 3 (gE.aG (il.of_eq (Io ks0 p hp0 hpp h8 y _))) (Gh.go ?_)))|(guard_target=ah _ _;(exfalso;have h8:=‹¬((i:Nat):Int)<(p.length:Nat)›;have _:=trt;rw[hp0] at h8;simp at h8;omega))|(guard_target=ah _ _;(have _:=‹dH 0 _ _=false›);(obtain rfl:=e1 rfl);exact ah.mk rfl trivial)|(guard_target=ah _ _;(have g2:=‹cb=false›);(obtain rfl:=e2 rfl rfl g2);exact ah.mk rfl trivial)|(guard_target=ah _ _;(have g3:=‹gb=false›);(obtain rfl:=e3 rfl (by first|exact .inl rfl|exact .inr (by assumption)) g3);exact ah.mk rfl trivial)|(guard_target=ah _ _;(have g3:=‹gb=true›);(obtain rfl:=e4 rfl (by first|exact .inl rfl|exact .inr (by assumption)) g3);exact ah.mk rfl trivial)
  |apply bo.mk
  |refine ah.mk ?_ ?_|(guard_target=~ aP 3 _ _ _ _ _ _;refine lX (MU) [1] (fun s=>[(0,Pw s.m s.ix.toNat),(7,s.S),(8,I (s.i:Nat))]) (fun s=>[(3, .aG none 66 3 s.Pc),(6, .aG (some s.v) 66 3 (PE s.m s.ks))]) (fun s=>P2 (.mk k n ks0) p R s) (fun s=>p.length-s.i) (⟨.root,(.mk k n ks0),ks0,0,[],v1,ks0.map az, .c (.cb false),false,0⟩) (by exact⟨.inl rfl,Nat.zero_le _,hR,(by show ao (.mk k n ks0)≤1048576;omega),rfl,trivial,fun _=>⟨rfl,rfl,rfl,rfl⟩,(fun h=>by cases h),(fun h=>by cases h)⟩) (fun s ha=> ?_);(obtain⟨m,x,ks,ix,pp,v,Pc,S,bl,i⟩:=s);(obtain⟨hS,hi,hA,hB,hks,hpi,hrt,hon,hde⟩:=ha);((try simp only[] at hS hi hA hB hks hpi hrt hon hde));(have hkl:=wq x);(have hkb:=AF x);(cases m<;>first|(obtain⟨hi0,rfl,rfl,rfl⟩:=hrt rfl;clear hrt hon hde;obtain rfl:ks0=ks:=hks.symm;have trt:True:=trivial)|(obtain⟨rfl,hpp,hx,hix0,hix,rfl⟩:=hon rfl;clear hrt hon hde;(obtain rfl:ks0=ks:=hks.symm);subst hx;have ton:True:=trivial)|(obtain⟨j,q,rfl,hpp,hx,hix0,hix,rfl⟩:=hde rfl;clear hrt hon hde;subst hks;subst hx;have hpi1:=hpi.1;have tde:True:=trivial))<;>rcases hS with rfl|rfl<;>cases bl)
  |(apply Fact.mk;intro hL;try simp only[List.length_map,maxLen] at hL)
  |((first|apply bA|apply bB|apply bC|apply bD|apply bE|apply bF)<;>intro h<;>(try simp only[List.length_map] at h)<;>(try omega)<;>(try contradiction))|(guard_target=aa _ 137 _ _ _ _;refine cG [] rfl (c1) ?_)|(guard_target=aa _ 137 _ _ _ _;refine cG [] rfl (c3) ?_)|(guard_target=aa _ 214 _ _ _ _;refine cP rfl (c2) ?_)|(guard_target=aa _ 174 _ _ _ _;refine cP rfl (c4) ?_)|(guard_target=aa _ 86 _ _ _ _;refine cP rfl (dE (p[i]'(by omega)) 0 (((ks0.map az).length:Nat)-1)) ?_)|(guard_target=aa _ 86 _ _ _ _;refine cP rfl (dE (p[i]'(by omega)) 0 (((((ks0.getD ix.toNat cQ).kids).map az).length:Nat)-1)) ?_)|(guard_target=aa _ 86 _ _ _ _;refine cP rfl (dE (p[i]'(by omega)) 0 ((((((cN (j::q) (.mk k n ks0)).getD ix.toNat cQ).kids).map az).length:Nat)-1)) ?_)|(guard_target=aa _ 197 _ _ _ _;refine aa.raw rfl (pt dd hm Tryz.func197 rfl rfl rfl rfl (ann:=fun _=>none) (gh:=fun reg_=>match reg_ with|2=>true|5=>true|_=>false) ?_))|(guard_target=Arith _ _ _;refine Arith.fit (aL (by simp only[List.length_map,List.length_set,ae.kids] at hkl⊢;omega) (by simp only[List.length_map,List.length_set,ae.kids] at hkl⊢;omega)) ?_)|(guard_target=uq _ _ _ _ _ _;(have h8:=‹dH 0 _ _=false›);(obtain rfl:=(JI (by omega) (by simpa[ae.kids,cN] using h8)).symm.trans hA);refine uq.of rfl ?_)|(guard_target=uq _ _ _ _ _ _;(have h8:=‹¬((i:Nat):Int)<(p.length:Nat)›);(obtain rfl:=(IV (by omega)).symm.trans hA);refine uq.of rfl ?_)|(guard_target=kq _ _ _;first|refine kq.refl ?_|refine kq.iC ?_|refine kq.one ?_|refine kq.step ?_)|(guard_target=Gh _ _ _ _ _;refine Gh.go ?_)
  |refine aR ?_|(guard_target=Index _ _ _;first|refine Index.mk _ (bz (i:=i) (by omega)) ?_|refine Index.mk _ (cB (by rw[List.length_map];omega)) ?_|refine Index.mk _ (cB (by rw[List.length_map];exact hix)) ?_|refine Index.mk _ (cB (by show ix.toNat<(List.map az _).length;rw[List.length_map];exact hix)) ?_|refine Index.mk _ (cB (by rw[List.length_map];exact hpi1)) ?_|refine Index.mk _ (AO hix) ?_)
  |refine iX (k:= ?_)
  |refine nB ?_|(guard_target=ay _ _ _;first|refine ay.row 7 rfl ?_|refine ay.aG 7 rfl ?_|refine ay.row 6 rfl ?_|refine ay.aG 6 rfl ?_)
  |apply ay.no
  |apply cj.go|(guard_target=aQ _ _;refine aQ.mk (by first|((have h9:=bW ‹dH 0 _ _=true›;(try simp only[List.length_map,List.length_set,cN,ae.kids] at h9⊢);omega))|((simp only[List.length_map,List.length_set];omega))|fail) ?_)
  |refine nO ?_)
 all_goals first|rfl|trivial
end
section
variable{t a:Int}(hs:bT t a=true)(k n:Int)(ks0:List ae)(y:ae)(hbe:ao (.mk k n ks0)≤500000)(hby:ao y≤500000)
include hs hbe hby
theorem Iy{gb:Bool}{r:SV}
 (c4:aE Tryz.prog 174 [.a 2 [J t,J a], .c (.rp 3 [J y.kind,J y.num, .ro 3 (db (y.kids.map az))])] (B gb))
 (e3:gb=false→r= .tup [.a 3 [J 0,J 0, .ows 66 3 []],I 3])
 (e4:gb=true→r= .tup [.a 3 (bQ y),I 0]):
 ai Tryz.prog 198 [.a 2 [J t,J a], .c (.rp 3 (aI (.mk k n ks0))), .c (.ro 1 []), .c (.rp 3 (aI y))] [] r:=by
 have _:=hs
 have c1:=er (.mk k n ks0) (by omega)
 rw[ff] at c1
 have c3:=er y (by omega)
 rw[ff] at c3
 refine cX Tryz.func198 (h:= ?_)
 repeat'((conv=>whnf);first
  |(guard_target=ah _ _;(have g3:=‹gb=false›);(obtain rfl:=e3 g3);exact ah.mk rfl trivial)|(guard_target=ah _ _;(have g3:=‹gb=true›);(obtain rfl:=e4 g3);exact ah.mk rfl trivial)
  |apply bo.mk
  |refine ah.mk ?_ ?_|(guard_target=~ aP 3 _ _ _ _ _ _;refine P8 (Nat) [1] (fun i=>[(0, .lp 5 0),(7, .c (.cb false)),(8,I (i:Nat))]) (fun i=>i=0) (fun i=>0) 0 (by rfl) (fun i ha=> ?_);(obtain rfl:i=0:=ha))
  |(apply Fact.mk;intro hL;try simp only[List.length_map,maxLen] at hL)
  |((first|apply bA|apply bB|apply bC|apply bD|apply bE|apply bF)<;>intro h<;>(try simp only[List.length_map] at h)<;>(try omega)<;>(try contradiction))|(guard_target=aa _ 137 _ _ _ _;refine cG [] rfl (c1) ?_)|(guard_target=aa _ 137 _ _ _ _;refine cG [] rfl (c3) ?_)|(guard_target=aa _ 174 _ _ _ _;refine cP rfl (c4) ?_)|(guard_target=aa _ 197 _ _ _ _;refine aa.raw rfl (pt dd hm Tryz.func197 rfl rfl rfl rfl (ann:=fun _=>none) (gh:=fun _=>false) ?_))|(guard_target=uq _ _ _ _ _ _;refine uq.of rfl ?_)|(guard_target=kq _ _ _;first|refine kq.refl ?_|refine kq.iC ?_|refine kq.one ?_|refine kq.step ?_)
  |refine aR ?_
  |refine iX (k:= ?_)
  |refine nB ?_
  |apply ay.no
  |apply cj.go
  |refine nO ?_)
 all_goals first|rfl|trivial
end
theorem yR{f:Nat}{args:List SV}{n:Int}(h:ai Tryz.prog f args [] (.tup [.a 3 [J 0,J 0, .ows 66 3 []],I n])):ai Tryz.prog f args [] (.tup [.a 3 (bQ cQ),I n]):=ai.N5 h (.same (.same (.up .nil)))
theorem lH(t a:Int)(hs:bT t a=true)(e y:ae)(p:List Int)(hbe:ao e≤500000)(hby:ao y≤500000):ai Tryz.prog 198 [.a 2 [J t,J a], .c (.rp 3 (aI e)), .c (.ro 1 (p.map eI)), .c (.rp 3 (aI y))] [] (.tup [.a 3 (bQ (mP t a e p y).1),I (mP t a e p y).2]):=by
 obtain⟨k,n,ks0⟩:=e
 have hrb:=y2 y p (.mk k n ks0)
 have c4:=lF t a (gD y (.mk k n ks0) p) (by omega)
 rw[hs,ff,Bool.true_and] at c4
 unfold mP
 have nf:∀{b:Bool},b=true→¬b=false:=fun h=>by rw[h];decide
 cases p with
 |nil=>
  have e8:aI (gD y (.mk k n ks0) [])=[J y.kind,J y.num, .ro 3 (db (y.kids.map az))]:=by rw[ch eK];rfl
  rw[e8] at c4
  have core:=fun r=>Iy (r:=r) hs k n ks0 y hbe hby c4
  rw[if_neg (by simp[nr]),if_neg (by simp[nr])]
  cases hg:aW t a (gD y (.mk k n ks0) []) with
  |false=>
   rw[if_pos rfl]
   rw[hg] at core
   exact yR (core _ (fun _=>rfl) (fun h=>by cases h))
  |true=>
   rw[if_neg (by decide)]
   rw[hg] at core
   exact core _ (fun h=>by cases h) (fun _=>rfl)
 |cons i0 p1=>
  have e7:gD y (.mk k n ks0) (i0::p1)= .mk k n (ks0.set i0.toNat (gD y (ks0.getD i0.toNat cQ) p1)):=by rw[zQ];rfl
  have e8:∀L:List ae,aI (.mk k n L)=[J k,J n, .ro 3 (db (L.map az))]:=fun L=>by rw[ch eK];rfl
  rw[e7,e8] at c4
  rw[e7]
  have core:=fun r=>Et (r:=r) hs k n ks0 y (i0::p1) hbe hby rfl rfl (kD y) c4
  cases hfd:(nr (.mk k n ks0) (i0::p1) false).2.2 with
  |false=>
   rw[if_pos rfl]
   exact yR (core _ (fun _=>rfl) (fun h=>absurd hfd (nf h)) (fun h=>absurd hfd (nf h)) (fun h=>absurd hfd (nf h)))
  |true=>
   rw[if_neg (by decide)]
   by_cases hbc:(nr (.mk k n ks0) (i0::p1) false).2.1=true∧cS y=false
   ·rw[if_pos hbc]
    exact yR (core _ (fun h=>absurd h (nf hfd)) (fun _ _ _=>rfl) (fun _ h=>h.elim (fun h=>absurd h (nf hbc.1)) fun h=>absurd hbc.2 (nf h)) (fun _ h=>h.elim (fun h=>absurd h (nf hbc.1)) fun h=>absurd hbc.2 (nf h)))
   ·rw[if_neg hbc]
    cases hg:aW t a (.mk k n (ks0.set i0.toNat (gD y (ks0.getD i0.toNat cQ) p1))) with
    |false=>
     rw[if_pos rfl]
     exact yR (core _ (fun h=>absurd h (nf hfd)) (fun _ h1 h2=>absurd ⟨h1,h2⟩ hbc) (fun _ _ _=>rfl) (fun _ _ h=>absurd hg (nf h)))
    |true=>
     rw[if_neg (by decide)]
     exact core _ (fun h=>absurd h (nf hfd)) (fun _ h1 h2=>absurd ⟨h1,h2⟩ hbc) (fun _ _ h=>absurd h (nf hg)) (fun _ _ _=>rfl)
theorem pW(t a:Int)(hs:bT t a=true)(e y:ae)(p:List Int)(hbe:ao e≤500000)(hby:ao y≤500000):ai Tryz.prog 198 [.a 2 [J t,J a], .c (.rp 3 (aI e)), .c (.ro 1 (p.map eI)), .c (.rp 3 (aI y))] [] (.tup [.a 3 (aI (mP t a e p y).1),I (mP t a e p y).2]):=
 (lH t a hs e y p hbe hby).soft (.tup (.cons (zq _) (.cons .same .nil)))
end Go.Proofs.YtgbggaddpbghfaaGreat
