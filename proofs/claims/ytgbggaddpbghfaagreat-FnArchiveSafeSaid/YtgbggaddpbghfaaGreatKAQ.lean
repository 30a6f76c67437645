/- Contracts of the reference's draws of a text of a list, of full lists for both sides of an equation, and of steps. Conditions: bounds of what has been read. -/
import Derived.Test.YtgbggaddpbghfaaGreatKAP
namespace Go.Proofs.YtgbggaddpbghfaaGreat
open Go Go.KA Go.Proofs Go.Proofs.Tryz
set_option maxHeartbeats 16000000
set_option maxRecDepth 100000
theorem OF(l:List ByteArray)(hl:0<l.length/\l.length≤1000)(s:Src)(hs:Rd s 900000000)(hc:s.code.length≤1000000):aE prog 188 [.c (.op (dz s)), .c (.ro 1 (l.map eS))] [some [.op (dz (GF l s))],none] (KJ (xH l s)):=by
 have i:lJ (l.length:Int):=by unfold lJ;omega
 have p:=dx s hs hc l.length i;have b:=cV s (n:=l.length) (by omega);unfold GF xH;generalize cx s (l.length:Int)=k at p b⊢;generalize aJ s (l.length:Int)=s1 at p⊢;rw[<-List.length_map (f:=eS)]at p;refine cX func188 (h:=?_)
 repeat'((conv=>whnf);first
  |refine aI.mk ?_ ?_
  |(apply Fact.mk;intro hL;try simp only[aa,maxLen]at hL)|(show ay _ 53 _ _ _ _;refine ay.gen [true,false] _ _ _ rfl p rfl rfl _ rfl ?_)|(show Index _ _ _;first|(refine Index.mk _ (aN (l:=l) (d:=⟨#[]⟩) (i:=k.toNat) (by omega)) ?_)|fail)
  |refine nO ?_)
 all_goals first|rfl|exact⟨rfl,trivial⟩|(exfalso;simp at*;omega)
theorem Su(l:List ByteArray)(hl:0<l.length/\l.length≤1000)(s:Src)(hs:Rd s 900000000)(hc:s.code.length≤1000000):aE prog 188 [.c (.op (dz s)), .c (.ows 9 1 (l.map eS))] [some [.op (dz (GF l s))],none] (KJ (xH l s)):=(OF l hl s hs hc).Tq (.same (.c .nil))
section
variable{t a:Int}{s0:Src}{one two:Nat}(h1:one≤3)(h2:two≤4){Q:List CV}{T A:Nat->List (List CV)}{S1 S2:Nat->Src}{tv:Src->ByteArray}{ts es:Src->Src}{rv:ByteArray->aA}{rc:ByteArray->Int}{ev:Src->aA}
 (cf:aS prog 187 [.c (.rp 6 Q)] (.tup [I (one:Nat),I (two:Nat)]))
 (ct:∀i,i<one->aE prog 188 [.c (.op (dz (S1 i))), .c (.ows 9 1 (qw.map eS))] [some [.op (dz (ts (S1 i)))],none] (KJ (tv (S1 i))))
 (cr:∀x,aE prog 189 [.a 2 [J t,J a],KJ x] [] (.tup [.a 3 (cC (rv x)),I (rc x)]))
 (ce:∀i,i<two->aE prog 139 [.c (.op (dz (S2 i))), .a 2 [J t,J a],I 4] [some [.op (dz (es (S2 i)))],none,none] (.a 3 (cC (ev (S2 i)))))
 (t0:T 0=[])(tn:∀i,T (i+1)=T i++[cC (if rc (tv (S1 i))=0 then rv (tv (S1 i))else .mk 2 0 [])])(tl:∀i,(T i).length=i)
 (s1:S1 0=s0)(sn:∀i,S1 (i+1)=ts (S1 i))(s2:S2 0=S1 one)(sm:∀i,S2 (i+1)=es (S2 i))
 (a0:A 0=[])(an:∀i,A (i+1)=A i++[cC (ev (S2 i))])(al:∀i,(A i).length=i)
include h1 h2 cf ct cr ce t0 tn tl s1 sn s2 sm a0 an al
theorem Kj:aE prog 167 [.c (.op (dz s0)), .a 2 [J t,J a], .c (.rp 6 Q)] [some [.op (dz (S2 two))],none,none] (.tup [.c (.own 66 3 (T one)), .c (.own 66 3 (A two))]):=by
 refine cX func167 (h:=?_)
 repeat'((conv=>whnf);first
  |(show aI _ _;(have Z0:i=one:=by omega);(have hj9:j=two:=by omega);(subst Z0 hj9 V7 Z4 NZ);exact aI.mk rfl ⟨rfl,trivial⟩)|(show aZ 5 _ _ _ _ _ _;refine n7 (Nat × List (List CV)× Src) [0,4,8,9,11] (fun⟨i,rows,s⟩=>[(10, .lw 4),(12,I (i:Nat))]) (fun⟨i,rows,s⟩=>[(0, .cc 3 (dz s)),(4, .aU none 66 3 rows)]) (fun⟨i,rows,s⟩=>i≤one/\rows=T i/\s=S1 i) (fun⟨i,rows,s⟩=>one-i) (0,[],s0) (by exact⟨ah _,t0.symm,s1.symm⟩) (fun A ha=>?_);obtain⟨i,rows,s⟩:=A;have ha:i≤one/\rows=T i/\s=S1 i:=ha;(have R5:=ha.1);(have V7:=ha.2.1);(have Im:=ha.2.2);(have RD:rows.length=i:=by rw[V7,tl]))|(show aZ 13 _ _ _ _ _ _;refine n7 (Nat × List (List CV)× Src) [0,4,9,10] (fun⟨j,rws,z⟩=>[(11, .lw 5),(16,I (j:Nat))]) (fun⟨j,rws,z⟩=>[(0, .cc 3 (dz z)),(5, .aU none 66 3 rws)]) (fun⟨j,rws,z⟩=>j≤two/\rws=A j/\z=S2 j) (fun⟨j,rws,z⟩=>two-j) (0,[],s) (by(have Z0:i=one:=by omega);exact⟨ah _,a0.symm,by rw[s2,Im,Z0]⟩) (fun A ha=>?_);obtain⟨j,rws,z⟩:=A;have ha:j≤two/\rws=A j/\z=S2 j:=ha;(have hj1:=ha.1);(have Z4:=ha.2.1);(have NZ:=ha.2.2);(have Nz:rws.length=j:=by rw[Z4,al]))
  |refine tD ((i+1,rows++[cC (rv (tv s))],ts s):Nat × List (List CV)× Src) (by exact⟨by show i+1≤_;omega,by show _=T (i+1);rw[tn,V7,<-Im,if_pos (by simpa using h)],by show _=S1 (i+1);rw[sn,Im]⟩)
  |refine tD ((i+1,rows++[cC (.mk 2 0 [])],ts s):Nat × List (List CV)× Src) (by exact⟨by show i+1≤_;omega,by show _=T (i+1);rw[tn,V7,<-Im,if_neg (by simpa using h)],by show _=S1 (i+1);rw[sn,Im]⟩)
  |refine tD ((j+1,rws++[cC (ev z)],es z):Nat × List (List CV)× Src) (by exact⟨by show j+1≤_;omega,by show _=A (j+1);rw[an,Z4,<-NZ],by show _=S2 (j+1);rw[sm,NZ]⟩)
  |(apply Fact.mk;intro hL;try simp only[maxLen]at hL)
  |((apply bX;constructor)<;>intro h<;>(try simp only[aa]at h)<;>(try first|omega|contradiction))|(show ay _ 187 _ _ _ _;refine cP rfl (cf) ?_)|(show ay _ 188 _ _ _ _;refine cG [true,true] rfl (Im▸ct i (by omega)) ?_)|(show ay _ 189 _ _ _ _;refine cG [] rfl (cr (tv s)) ?_)|(show ay _ 190 _ _ _ _;refine cG [] rfl (yV) ?_)|(show ay _ 139 _ _ _ _;refine cG [true,false,false] rfl (NZ▸ce j (by omega)) ?_)
  |refine aR ?_|(show bh _ _;refine bh.mk (by first|((simp only[List.length_cons,List.length_nil,maxLen];constructor<;>omega))|fail) ?_))
 all_goals first|rfl|exact⟨rfl,trivial⟩|trivial
end
theorem yx{t a:Int}(hs:cE t a=true)(hg:0≤t/\t≤3/\0≤a/\a≤4){s:Src}{N:Int}(hS:jW s N)(hN:N≤500000000){Q:List CV}{one two:Int}(b1:0≤one/\one≤3)(b2:0≤two/\two≤4)
 (cf:aS prog 187 [.c (.rp 6 Q)] (.tup [I one,I two])):
 aE prog 167 [.c (.op (dz s)), .a 2 [J t,J a], .c (.rp 6 Q)] [some [.op (dz (zK t a one two s).2.2)],none,none] (.tup [.c (.own 66 3 ((zK t a one two s).1.map aM)), .c (.own 66 3 ((zK t a one two s).2.1.map aM))]):=by
 obtain⟨m,rfl⟩:∃m:Nat,one=(m:Int):=⟨one.toNat,by omega⟩
 obtain⟨n,rfl⟩:∃n:Nat,two=(n:Int):=⟨two.toNat,by omega⟩
 unfold zK;rw[Int.toNat_natCast,Int.toNat_natCast];refine Kj (s0:=s) (one:=m) (two:=n) (by omega) (by omega) (T:=fun i=>(fy t a s i).1.map aM) (A:=fun i=>(nL t a (fy t a s m).2 i).1.map aM) (S1:=fun i=>(fy t a s i).2) (S2:=fun i=>(nL t a (fy t a s m).2 i).2)
  (tv:=xH qw) (ts:=GF qw) (rv:=fun x=>(kf t a x).1) (rc:=fun x=>(kf t a x).2) (ev:=fun s=>(bY ⟨t,a⟩ 6 false ⟨s,4⟩).1) (es:=fun s=>(bY ⟨t,a⟩ 6 false ⟨s,4⟩).2.s)
  cf (fun i hi=>?_) (fun x=>DA t a hs x) (fun i hi=>?_) rfl (fun i=>?_) (fun i=>?_) rfl (fun i=>rfl) rfl (fun i=>rfl) rfl (fun i=>?_) (fun i=>?_)
 ·have h:=sM (t:=t) (a:=a) hS i;exact Su qw (by decide) _ (h.rd.mono (by omega)) h.len
 ·have h:=y8 (t:=t) (a:=a) (sM (t:=t) (a:=a) hS m) i;exact vO ⟨t,a⟩ hg _ (h.rd.mono (by omega)) h.len 4 (by decide)
 ·show(fy t a s (i+1)).1.map aM=_;rw[fy,au,List.map_cons,List.map_nil,dQ];rfl
 ·rw[aa,tV]
 ·show(nL t a (fy t a s m).2 (i+1)).1.map aM=_;rw[nL,au,List.map_cons,List.map_nil,dQ]
 ·rw[aa,xp]
abbrev uE(x:aA):List CV:=[J x.kind,J x.num, .ro 3 (dD (x.kids.map aM))]
abbrev SS(s:aP):List CV:=[J s.use, .val (.bool s.back), .ro 1 (s.path.map eI), .ro 3 (dD (s.aK.map aM)), .ro 3 (dD (s.dy.map aM))]
theorem sy(x:aA):aY x=uE x:=by
 unfold uE;rw[cM fJ]
theorem S4(s:aP):cD s=SS s:=by
 unfold SS;rw[cM fJ,cM fJ];rfl
theorem L7(l:List aP)(b:Bool):ld (.tup [.c (.own 156 5 (l.map bx)),B b]):=by
 intro s hs;simp only[List.mem_cons,List.not_mem_nil,or_false]at hs;rcases hs with rfl|rfl
 ·exact jo zl l
 ·trivial
section
variable{t a:Int}{p:cY}{e:aA}{most:Nat}{s0:Src}{N:Int}(Qj:most≤1000)(hN:N≤500000000)(N8:jW s0 N)(he:bz t a e=true)
 {F:Nat->Src->aA->List aP->List aP × aA × Src}{fB:aA->Bool}{fL:aA->List aP}{aX:aA->aP->aA}{aC:aA->aP->Int}
 (ack:p.sig.aK=t/\p.sig.aF=a)
 (co:aE prog 137 [.c (.rp 3 (aY e))] [] (.a 3 (cC e)))
 (cF:∀x,bz t a x=true->aE prog 192 [.a 2 [J t,J a], .c (.rp 3 (uE x))] [] (.tup [.c (.own 156 5 ((fL x).map bx)),B (!fB x)]))
 (cA:∀x st,bz t a x=true->j9 t a st->aE prog 172 [.c (.rp 3 (dk p)),I 0, .c (.rp 3 (uE x)), .c (.rp 5 (SS st))] [] (.tup [.a 3 (cC (aX x st)),I (aC x st)]))
 (cz:∀x st,bz t a x=true->j9 t a st->aC x st=0->aS prog 193 [.c (.rp 3 (uE (aX x st)))] (I (jj (aX x st):Nat)))
 (gF:∀x,bz t a x=true-> ∀st∈fL x,j9 t a st)(gL:∀x,(fL x).length≤300)(gA:∀x st,aC x st=0->bz t a (aX x st)=true)
 (f0:∀s x o,F 0 s x o=(o,x,s))
 (f1:∀i s x o,(fB x=true\/(fL x).length=0)->F (i+1) s x o=(o,x,s))
 (f2:∀i s x o,fB x=false-> ¬(fL x).length=0-> ¬(aC x ((fL x).getD (cx s (fL x).length).toNat ju)=0/\jj (aX x ((fL x).getD (cx s (fL x).length).toNat ju))≤60)->F (i+1) s x o=(o,x,aJ s (fL x).length))
 (f3:∀i s x o,fB x=false-> ¬(fL x).length=0->(aC x ((fL x).getD (cx s (fL x).length).toNat ju)=0/\jj (aX x ((fL x).getD (cx s (fL x).length).toNat ju))≤60)->F (i+1) s x o=F i (aJ s (fL x).length) (aX x ((fL x).getD (cx s (fL x).length).toNat ju)) (o++[(fL x).getD (cx s (fL x).length).toNat ju]))
include Qj hN N8 he ack co cF cA cz gF gL gA f0 f1 f2 f3
end
section
variable{t a:Int}{u:Value}{cl:List (List CV)}{e:aA}{most:Nat}{s0:Src}{N:Int}(Qj:most≤1000)(hN:N≤500000000)(N8:jW s0 N)(he:bz t a e=true)
 {F:Nat->Src->aA->List aP->List aP × aA × Src}{fB:aA->Bool}{fL:aA->List aP}{aX:aA->aP->aA}{aC:aA->aP->Int}
 (co:aE prog 137 [.c (.rp 3 (uE e))] [] (.a 3 (cC e)))
 (cF:∀x,bz t a x=true->aE prog 192 [.a 2 [J t,J a], .c (.rp 3 (uE x))] [] (.tup [.c (.own 156 5 ((fL x).map bx)),B (!fB x)]))
 (cA:∀x st,bz t a x=true->j9 t a st->aE prog 172 [.c (.rp 3 [J t,J a, .ro 9 (dD cl)]),I 0, .c (.rp 3 (uE x)), .c (.rp 5 (SS st))] [] (.tup [.a 3 (cC (aX x st)),I (aC x st)]))
 (cz:∀x st,bz t a x=true->j9 t a st->aC x st=0->aS prog 193 [.c (.rp 3 (uE (aX x st)))] (I (jj (aX x st):Nat)))
 (gF:∀x,bz t a x=true-> ∀st∈fL x,j9 t a st)(gL:∀x,(fL x).length≤300)(gA:∀x st,aC x st=0->bz t a (aX x st)=true)
 (f0:∀s x o,F 0 s x o=(o,x,s))
 (f1:∀i s x o,(fB x=true\/(fL x).length=0)->F (i+1) s x o=(o,x,s))
 (f2:∀i s x o,fB x=false-> ¬(fL x).length=0-> ¬(aC x ((fL x).getD (cx s (fL x).length).toNat ju)=0/\jj (aX x ((fL x).getD (cx s (fL x).length).toNat ju))≤60)->F (i+1) s x o=(o,x,aJ s (fL x).length))
 (f3:∀i s x o,fB x=false-> ¬(fL x).length=0->(aC x ((fL x).getD (cx s (fL x).length).toNat ju)=0/\jj (aX x ((fL x).getD (cx s (fL x).length).toNat ju))≤60)->F (i+1) s x o=F i (aJ s (fL x).length) (aX x ((fL x).getD (cx s (fL x).length).toNat ju)) (o++[(fL x).getD (cx s (fL x).length).toNat ju]))
include Qj hN N8 he co cF cA cz gF gL gA f0 f1 f2 f3
theorem Gf{R:List aP × aA × Src}(hR:F (cx s0 (most+1)).toNat (aJ s0 (most+1)) e []=R):aE prog 169 [.c (.op (dz s0)), .c (.op [J t,J a, .fQ u 104 9 cl]), .a 3 (uE e),I (most:Nat)] [some [.op (dz R.2.2)],some [.op [J t,J a, .fQ u 104 9 cl]],none,none] (.tup [.c (.own 156 5 (R.1.map bx)), .a 3 (cC R.2.1)]):=by
 have cp:=dx s0 (N8.rd.mono (by omega)) N8.len (most+1) (by unfold lJ;omega);have bp:=cV s0 (n:=((most:Nat):Int)+1) (by omega);have Im:=N8.pick (most+1);generalize cx s0 (((most:Nat):Int)+1)=k at cp bp hR;generalize aJ s0 (((most:Nat):Int)+1)=s1 at cp Im hR;obtain⟨m,rfl⟩:∃m:Nat,k=(m:Int):=⟨k.toNat,by omega⟩
 rw[Int.toNat_natCast]at hR;refine cX func169 (h:=?_)
 repeat'((conv=>whnf);first
  |(show ay _ 53 _ _ _ _;(have _:=hL);(obtain⟨j,rfl⟩:∃j,i=j+1:=⟨i-1,by omega⟩);(have h0:¬(fL x).length=0:=by omega);(have hq:=dx s (hS.rd.mono (by omega)) hS.len ((fL x).length:Nat) (by unfold lJ;omega));(have bk:=cV s (n:=((fL x).length:Nat)) (by omega));(have jA:=hS.pick ((fL x).length:Nat));(have q2:=f2 j s x o);(have q3:=f3 j s x o);generalize cx s ((fL x).length:Nat)=kk at hq bk q2 q3;generalize aJ s ((fL x).length:Nat)=sq at hq jA q2 q3;rw[<-List.length_map (f:=bx)]at hq;(have uo:j9 t a ((fL x).getD kk.toNat ju):=gF x hg _ (by rw[getD_eq (by omega)];exact ag _));refine ay.gen [true,false] _ _ _ rfl hq rfl rfl _ rfl ?_)|(show Gh _ _ _ _ _;(have hc:aC x ((fL x).getD kk.toNat ju)=0:=by assumption);(have hb:fB x=false:=by first|assumption|(have h9:=‹(!fB x)=true›;simpa using h9));(have hn:jj (aX x ((fL x).getD kk.toNat ju))≤60:=by omega);refine Gh.Eg 8 _ rfl (Gh.N2 19 8 rfl (Gh.go ⟨(⟨z-1,j,rows++[bx ((fL x).getD kk.toNat ju)],aX x ((fL x).getD kk.toNat ju),sq,o++[((fL x).getD kk.toNat ju)]⟩:Int × Nat × List (List CV)× aA × Src × List aP),(by exact⟨by show z-1=_;omega,by show j≤m;omega,by show _=(o++[((fL x).getD kk.toNat ju)]).map bx;rw[au,<-hr];rfl,(q3 hb h0 ⟨hc,hn⟩).symm.trans hF,gA _ _ hc,jA.mono (by omega),by show(o++[_]).length+j≤m;rw[ai];simp only[List.length_cons,List.length_nil];omega⟩),(by show _<_;(try simp only[]);omega),(by(repeat'((conv=>whnf)<;>(first|exact trivial|refine⟨?_,?_⟩|kernel_rfl)));done),(by(repeat'((conv=>whnf)<;>(first|exact trivial|refine⟨?_,?_⟩|kernel_rfl)));done),(by(repeat'((conv=>whnf)<;>(first|exact trivial|refine⟨?_,?_⟩|kernel_rfl)));done)⟩)))|(show aI _ _;(have Z5:=‹¬z>0›);(obtain rfl:i=0:=by omega);(obtain rfl:=(f0 s x o).symm.trans hF);subst hr;exact aI.mk rfl ⟨rfl,rfl,trivial⟩)|(show aI _ _;(have h9:fB x=true\/(fL x).length=0:=by first|exact .inl (by assumption)|(have h8:=‹(!fB x)=false›;exact .inl (by simpa using h8))|exact .inr (by omega));(obtain⟨j,rfl⟩:∃j,i=j+1:=⟨i-1,by omega⟩);(obtain rfl:=(f1 j s x o h9).symm.trans hF);subst hr;exact aI.mk rfl ⟨rfl,rfl,trivial⟩)|(show aI _ _;(have hb:fB x=false:=by first|assumption|(have h9:=‹(!fB x)=true›;simpa using h9));(have h9:¬(aC x ((fL x).getD kk.toNat ju)=0/\jj (aX x ((fL x).getD kk.toNat ju))≤60):=by first|exact(fun hc=>absurd hc.1 (by assumption))|exact(fun hc=>absurd hc.2 (by omega)));(obtain rfl:=(q2 hb h0 h9).symm.trans hF);subst hr;exact aI.mk rfl ⟨rfl,rfl,trivial⟩)|(show aZ 4 _ _ _ _ _ _;refine n7 (Int × Nat × List (List CV)× aA × Src × List aP) [0,1,9,11] (fun⟨z,i,rows,x,s,o⟩=>[(10, .lw 7),(12,I z)]) (fun⟨z,i,rows,x,s,o⟩=>[(0, .cc 3 (dz s)),(7, .aU none 156 5 rows),(8, .aU none 66 3 (x.kids.map aM)),(10, .cells [.c (J x.kind), .c (J x.num), .lw 8])]) (fun⟨z,i,rows,x,s,o⟩=>z=(i:Nat)/\i≤m/\rows=o.map bx/\F i s x o=R/\bz t a x=true/\jW s (N+2+2*((m:Int)-i))/\o.length+i≤m) (fun⟨z,i,rows,x,s,o⟩=>i) ((m:Int),m,[],e,s1,[]) (by exact⟨rfl,aw _,rfl,hR,he,Im.mono (by omega),by simp⟩) (fun A ha=>?_);obtain⟨z,i,rows,x,s,o⟩:=A;have ha:z=(i:Nat)/\i≤m/\rows=o.map bx/\F i s x o=R/\bz t a x=true/\jW s (N+2+2*((m:Int)-i))/\o.length+i≤m:=ha;(obtain⟨hz,hi,hr,hF,hg,hS,ho⟩:=ha);(have hL:=gL x);(have sU:rows.length≤1000:=by rw[hr,aa];omega))
  |(apply Fact.mk;intro hL;try simp only[aa,maxLen]at hL)
  |((apply bX;constructor)<;>intro h<;>(try simp only[aa]at h)<;>(try first|omega|contradiction))|(show ay _ 193 _ _ _ _;refine cP rfl (cz x _ hg uo (by assumption)) ?_)|(show ay _ 137 _ _ _ _;refine ay.own _ _ rfl co (jw _) _ rfl ?_)|(show ay _ 192 _ _ _ _;refine ay.own _ _ rfl (cF x hg) (L7 _ _) _ rfl ?_)|(show ay _ 53 _ _ _ _;refine ay.gen [true,false] _ _ _ rfl cp rfl rfl _ rfl ?_)|(show ay _ 172 _ _ _ _;refine ay.own _ _ rfl (cA x _ hg uo) (mo (jw _)) _ rfl ?_)
  |(intro v_)
  |refine aR ?_|(show Index _ _ _;first|(refine Index.mk _ (aN (l:=fL x) (d:=ju) (i:=kk.toNat) (by omega)) ?_)|fail)
  |refine nB ?_|(show bh _ _;refine bh.mk (by first|((simp only[List.length_cons,List.length_nil,maxLen];constructor<;>omega))|fail) ?_)
  |refine nO ?_)
 all_goals first|rfl|exact⟨rfl,trivial⟩|exact⟨rfl,rfl,trivial⟩|trivial
end
section
variable{t a iv ru rf:Int}{s0 s1 s2 s3 sF:Src}{u:Value}{rows st:List (List CV)}{L R X1 X2:aA}{ts us:List aA}{b1 x1 x2:Bool}{r:SV}{ev gT:Src->aA}{es gs:Src->Src}{gS:Src->List aP}
 (hl:rows.length≤1000)
 (c1:aE prog 76 [.c (.op (dz s0)),I 2] [some [.op (dz s1)],none] (B b1))
 (cp:aE prog 53 [.c (.op (dz s1)),I (rows.length:Nat)] [some [.op (dz s2)],none] (I iv))
 (hiv:0<rows.length->0≤iv/\iv<(rows.length:Nat))
 (si:0<rows.length->rows[iv.toNat]? =some [J L.kind,J L.num, .ro 3 (L.kids.map aD),J R.kind,J R.num, .ro 3 (R.kids.map aD),J ru,J rf, .ro 5 st])
 (cd:aE prog 167 [.c (.op (dz s2)), .a 2 [J t,J a], .c (.rp 6 [J L.kind,J L.num, .ro 3 (L.kids.map aD),J R.kind,J R.num, .ro 3 (R.kids.map aD)])] [some [.op (dz s3)],none,none] (.tup [.c (.own 66 3 (ts.map aM)), .c (.own 66 3 (us.map aM))]))
 (X5:aE prog 168 [.a 2 [J t,J a], .c (.rp 6 [J L.kind,J L.num, .ro 3 (L.kids.map aD),J R.kind,J R.num, .ro 3 (R.kids.map aD)]), .c (.ro 3 (dD (ts.map aM))), .c (.ro 3 (dD (us.map aM)))] [] (.tup [.a 3 (cC X1),B x1]))
 (Y3:aE prog 168 [.a 2 [J t,J a], .c (.rp 3 [J R.kind,J R.num, .ro 3 (R.kids.map aD)]), .c (.ro 3 (dD (ts.map aM))), .c (.ro 3 (dD (us.map aM)))] [] (.tup [.a 3 (cC X2),B x2]))
 (ce:∀z,(z=s0\/z=s1\/z=s3)->aE prog 139 [.c (.op (dz z)), .a 2 [J t,J a],I 5] [some [.op (dz (es z))],none,none] (.a 3 (cC (ev z))))
 (cg:∀z,(z=s0\/z=s1\/z=s3)->aE prog 169 [.c (.op (dz (es z))), .c (.op [J t,J a, .fQ u 104 9 rows]), .a 3 (uE (ev z)),I 2] [some [.op (dz (gs z))],some [.op [J t,J a, .fQ u 104 9 rows]],none,none] (.tup [.c (.own 156 5 ((gS z).map bx)), .a 3 (cC (gT z))]))
 (o1:0<rows.length->b1=true->x1=true->x2=true->r= .a 9 [J X1.kind,J X1.num, .own 66 3 (X1.kids.map aM),J X2.kind,J X2.num, .own 66 3 (X2.kids.map aM),J 1,J 0, .own 156 5 [[J (-1-iv), .val (.bool false), .ows 2 1 [], .own 66 3 (ts.map aM), .own 66 3 (us.map aM)]]]/\sF=s3)
 (o2:∀z,(0<rows.length->b1=true->(x1=false\/x2=false)/\z=s3)->(0<rows.length->b1=false->z=s1)->(¬0<rows.length->z=s0)->r= .a 9 [J (ev z).kind,J (ev z).num, .ro 3 (dD ((ev z).kids.map aM)),J (gT z).kind,J (gT z).num, .own 66 3 ((gT z).kids.map aM),J 1,J 0, .own 156 5 ((gS z).map bx)]/\sF=gs z)
include hl c1 cp hiv si cd X5 Y3 ce cg o1 o2
theorem J8:aE prog 138 [.c (.op (dz s0)), .c (.op [J t,J a, .fQ u 104 9 rows])] [some [.op (dz sF)],some [.op [J t,J a, .fQ u 104 9 rows]]] r:=by
 refine cX func138 (fun ew=>match ew with|5=>true|12=>true|_=>false) (h:=?_)
 repeat'((conv=>whnf);first
  |(show Gh _ _ _ _ _;(fail_if_success (have _:=hi5));(have _:=‹b1=true›);(have hi5:=hiv (by omega));refine Gh.EO 14 _ rfl (Gh.go ?_))|(show Gh _ _ _ _ _;(have _:=hi5);refine Gh.Eg 23 _ rfl (Gh.go ?_))|(show Gh _ _ _ _ _;refine Gh.Eg 7 _ rfl (Gh.go ?_))|(show aI _ _;(obtain⟨rfl,rfl⟩:=o1 (by omega) (by assumption) (by assumption) (by assumption));exact aI.mk rfl ⟨rfl,rfl,trivial⟩)|(show aI _ _;(obtain⟨rfl,rfl⟩:=o2 s0 (fun h _=>absurd h (by omega)) (fun h _=>absurd h (by omega)) (fun _=>rfl));exact aI.mk rfl ⟨rfl,rfl,trivial⟩)|(show aI _ _;(have h8:=‹b1=false›);(obtain⟨rfl,rfl⟩:=o2 s1 (fun _ h=>absurd (h.symm.trans h8) (by decide)) (fun _ _=>rfl) (fun h=>absurd (by omega) h));exact aI.mk rfl ⟨rfl,rfl,trivial⟩)|(show aI _ _;(have h8:=‹b1=true›);(obtain⟨rfl,rfl⟩:=o2 s3 (fun _ _=>⟨by first|exact .inl (by assumption)|exact .inr (by assumption),rfl⟩) (fun _ h=>absurd (h8.symm.trans h) (by decide)) (fun h=>absurd (by omega) h));exact aI.mk rfl ⟨rfl,rfl,trivial⟩)
  |(apply Fact.mk;intro hL;try simp only[maxLen]at hL)
  |((apply bX;constructor)<;>intro h<;>(try simp only[aa]at h)<;>(try first|omega|contradiction))|(show ay _ 76 _ _ _ _;refine cG [true,false] rfl (c1) ?_)|(show ay _ 53 _ _ _ _;refine cG [true,false] rfl (cp) ?_)|(show ay _ 167 _ _ _ _;refine cG [true,false,false] rfl (cd) ?_)|(show ay _ 140 _ _ _ _;refine ay.raw rfl (qU dC hm func140 rfl rfl rfl rfl (ann:=fun _=>none) (gh:=fun _=>false) ?_))|(show xd _ _ _ _ _ _;refine xd.of rfl ?_)|(show mu _ _ _;first|refine mu.refl ?_|refine mu.iE ?_|refine mu.one ?_|refine mu.step ?_)|(show ay _ 168 _ _ _ _;(first|refine ay.own _ _ rfl X5 (mo (jw _)) _ rfl ?_|refine ay.own _ _ rfl Y3 (mo (jw _)) _ rfl ?_))|(show ay _ 139 _ _ _ _;(first|refine ay.gen [true,false,false] _ _ _ rfl (ce s0 (.inl rfl)) rfl rfl _ rfl ?_|refine ay.gen [true,false,false] _ _ _ rfl (ce s1 (.inr (.inl rfl))) rfl rfl _ rfl ?_|refine ay.gen [true,false,false] _ _ _ rfl (ce s3 (.inr (.inr rfl))) rfl rfl _ rfl ?_))|(show ay _ 169 _ _ _ _;(first|refine ay.gen [true,true,false,false] _ _ _ rfl (cg s0 (.inl rfl)) rfl rfl _ rfl ?_|refine ay.gen [true,true,false,false] _ _ _ rfl (cg s1 (.inr (.inl rfl))) rfl rfl _ rfl ?_|refine ay.gen [true,true,false,false] _ _ _ rfl (cg s3 (.inr (.inr rfl))) rfl rfl _ rfl ?_))
  |refine aR ?_|(show Index _ _ _;first|(refine Index.mk _ (si (by omega)) ?_)|fail)
  |refine nB ?_
  |apply jY.go
  |refine nO ?_)
 all_goals first|rfl|exact⟨rfl,trivial⟩|trivial
end
theorem wq(l:List bV):dD (l.map aV)=l.map aV:=cM (fun _=>rfl) l
noncomputable def lG(p:cY)(most:Nat)(s:Src)(e:aA):List aP × aA × Src:=j7 p (cx s ((most:Nat)+1)).toNat (aJ s ((most:Nat)+1)) e []
theorem Fo(s:Src)(most:Nat):(cx s ((most:Nat)+1)).toNat≤most:=by
 have h:=cV s (n:=((most:Nat):Int)+1) (by omega);omega
theorem Nr{p:cY}{most:Nat}{s:Src}{N:Int}(h:jW s N)(e:aA):jW (lG p most s e).2.2 (N+2+2*most):=by
 have h1:=Fo s most;exact(Cs p _ _ e [] _ (h.pick _)).mono (by omega)
theorem Hw{p:cY}{most:Nat}{s:Src}{e:aA}(he:bz p.sig.aK p.sig.aF e=true):bz p.sig.aK p.sig.aF (lG p most s e).2.1=true/\(∀x∈(lG p most s e).1,j9 p.sig.aK p.sig.aF x)/\(lG p most s e).1.length≤most:=by
 have h1:=Fo s most;have h:=xW p (cx s ((most:Nat)+1)).toNat (aJ s ((most:Nat)+1)) e [] he (by simp);exact⟨h.1,h.2.1,by have:=h.2.2;simp only[List.length_nil]at this;exact Nat.le_trans this (by omega)⟩
theorem My{t a:Int}(x:aA):(mZ t a jO x).out.length≤300:=tU t a jO x x [] ⟨[],false⟩ (by simp)
section
variable{t a:Int}(hs:cE t a=true)(hg:0≤t/\t≤3/\0≤a/\a≤4)
include hs
theorem vY(cl:List bV){e:aA}(he:bz t a e=true)(most:Nat)(RT:most≤1000){s:Src}{N:Int}(hS:jW s N)(hN:N≤500000000)(u:Value):
 aE prog 169 [.c (.op (dz s)), .c (.op [J t,J a, .fQ u 104 9 (cl.map aV)]), .a 3 (uE e),I (most:Nat)] [some [.op (dz (lG ⟨⟨t,a⟩,cl⟩ most s e).2.2)],some [.op [J t,J a, .fQ u 104 9 (cl.map aV)]],none,none] (.tup [.c (.own 156 5 ((lG ⟨⟨t,a⟩,cl⟩ most s e).1.map bx)), .a 3 (cC (lG ⟨⟨t,a⟩,cl⟩ most s e).2.1)]):=by
 have Xj:∀{st:aP},j9 t a st->(∀x∈st.aK,aH x≤200)/\ ∀x∈st.dy,aH x≤200:=fun h=>⟨fun x hx=>dU ((kE h.1).1 x hx),fun x hx=>dU ((kE h.1).2 x hx)⟩
 refine Gf (F:=j7 ⟨⟨t,a⟩,cl⟩) (fB:=fun x=>(mZ t a jO x).bad) (fL:=fun x=>(mZ t a jO x).out) (aX:=fun x st=>(g9 jO ⟨⟨t,a⟩,cl⟩ 0 x st).1) (aC:=fun x st=>(g9 jO ⟨⟨t,a⟩,cl⟩ 0 x st).2) RT hN hS he ?_ (fun x hx=>?_) (fun x st hx uo=>?_) (fun x st hx uo hc=>?_) (fun x hx=>LZ hx) (fun x=>My x) (fun x st hc=>uz (p:=⟨⟨t,a⟩,cl⟩) hc) (fun _ _ _=>rfl) (fun i s x o h=>?_) (fun i s x o h1 h2 h3=>?_) (fun i s x o h1 h2 h3=>?_) rfl
 ·have h:=fa e (by have:=dU he;omega);rwa[gn,sy]at h
 ·have h:=QR hs x (dU hx);rwa[sy]at h
 ·have h:=vC ⟨⟨t,a⟩,cl⟩ hs 0 x (dU hx) st (.inl (xf uo)) (fun _=>BQ (xf uo).1 (xf uo).2 0) (Xj uo).1 (Xj uo).2;rw[sy,S4]at h;rw[wq];exact h
 ·have h:=Ei (g9 jO ⟨⟨t,a⟩,cl⟩ 0 x st).1 (by have:=(iA.1 (uz (p:=⟨⟨t,a⟩,cl⟩) hc)).1;omega);rwa[sy]at h
 ·show j7 _ (i+1) s x o=_;rw[j7];exact if_pos h
 ·show j7 _ (i+1) s x o=_;rw[j7,if_neg (by simp only[not_or];exact⟨by simpa using h1,h2⟩)];exact if_neg h3
 ·show j7 _ (i+1) s x o=_;rw[j7,if_neg (by simp only[not_or];exact⟨by simpa using h1,h2⟩)];exact if_pos h3
include hg
omit hs in
theorem HQ{e:aA}(h:bz t a e=true):mN e=true:=m8 hg.2.1 hg.2.2.2 (iR e (iA.1 h).2.2)
omit hs in
theorem RU{l r:aA}(h1:bz t a l=true)(h2:bz t a r=true):(0≤mz ⟨l,r⟩/\mz ⟨l,r⟩≤3)/\0≤qB ⟨l,r⟩/\qB ⟨l,r⟩≤4:=by
 have a1:=gN (iR l (iA.1 h1).2.2) 0;have a2:=gN (iR r (iA.1 h2).2.2) (dM 3 l 0);have a3:=gN (iR r (iA.1 h2).2.2) (dM 4 l 0);have b1:=a1.1 hg.1;have b2:=a1.2.1 hg.2.2.1;have b3:=a2.1 b1;have b4:=a3.2.1 b2;unfold mz qB;simp only[];have:=a1.2.2.1;have:=a1.2.2.2;have:=a2.2.2.1;have:=a3.2.2.2;exact⟨⟨by omega,by omega⟩,by omega,by omega⟩
theorem Fq{s:Src}{N:Int}(hS:jW s N)(hN:N≤400000000)(u:Value)(cl:List bV)(BC:∀c∈cl,bz t a c.left=true/\bz t a c.right=true)(hn:cl.length≤39):
 ∃c s',c7 t a c=true/\c.l8=1/\c.steps.length≤2/\jW s' (N+200000)/\aE prog 138 [.c (.op (dz s)), .c (.op [J t,J a, .fQ u 104 9 (cl.map aV)])] [some [.op (dz s')],some [.op [J t,J a, .fQ u 104 9 (cl.map aV)]]] (.a 9 (aV c)):=by
 have hlen:(cl.map aV).length=cl.length:=aa _;have h1:=hS.pick 2;have h2:=h1.pick (((cl.map aV).length:Nat):Int);obtain⟨C,hC,Xg⟩:∃C:bV,(0<(cl.map aV).length->(cl.map aV)[(cx (aJ s 2) ((cl.map aV).length:Nat)).toNat]? =some (aV C))/\bz t a C.left=true/\bz t a C.right=true:=by
  by_cases h:0<cl.length
  ·have hi:=cV (aJ s 2) (n:=((cl.map aV).length:Nat)) (by omega);refine⟨cl.getD (cx (aJ s 2) ((cl.map aV).length:Nat)).toNat c0,fun _=>aN (by omega),BC _ ?_⟩;rw[getD_eq (by omega)];exact ag _
  ·exact⟨⟨.mk 2 0 [], .mk 2 0 [],1,0,[]⟩,fun h'=>absurd (hlen▸h') h,qY t a,qY t a⟩
 have hF:=RU hg Xg.1 Xg.2;have lL:=HQ hg Xg.1;have lR:=HQ hg Xg.2;have cd:=yx hs hg h2 (by omega) hF.1 hF.2 (z8 ⟨C.left,C.right⟩ lL lR);have t1:=tV t a (aJ (aJ s 2) ((cl.map aV).length:Nat)) (mz ⟨C.left,C.right⟩).toNat;have t2:=ye t a (aJ (aJ s 2) ((cl.map aV).length:Nat)) (mz ⟨C.left,C.right⟩).toNat;have t3:=yf t a (aJ (aJ s 2) ((cl.map aV).length:Nat)) (mz ⟨C.left,C.right⟩).toNat;have t4:=sM (t:=t) (a:=a) h2 (mz ⟨C.left,C.right⟩).toNat;have a1:=xp t a (fy t a (aJ (aJ s 2) ((cl.map aV).length:Nat)) (mz ⟨C.left,C.right⟩).toNat).2 (qB ⟨C.left,C.right⟩).toNat;have a2:=zN t a (fy t a (aJ (aJ s 2) ((cl.map aV).length:Nat)) (mz ⟨C.left,C.right⟩).toNat).2 (qB ⟨C.left,C.right⟩).toNat
 have a3:=y8 (t:=t) (a:=a) t4 (qB ⟨C.left,C.right⟩).toNat;unfold zK at cd;simp only[]at cd;generalize nL t a (fy t a (aJ (aJ s 2) ((cl.map aV).length:Nat)) (mz ⟨C.left,C.right⟩).toNat).2 (qB ⟨C.left,C.right⟩).toNat=A at cd a1 a2 a3;generalize fy t a (aJ (aJ s 2) ((cl.map aV).length:Nat)) (mz ⟨C.left,C.right⟩).toNat=T at cd t1 t2 t3 t4;obtain⟨us,s3⟩:=A;obtain⟨ts,s2'⟩:=T;simp only[]at cd a1 a2 a3 t1 t2 t3 t4;have bt:∀x∈ts,aH x≤200:=fun x hx=>dU (t2 x hx)
 have ba:∀x∈us,aH x≤200:=fun x hx=>dU (a2 x hx)
 have hS3:jW s3 (N+100000):=a3.mono (by omega);have X5:=(nG bt ba t a hs C.left lL (by have:=(iA.1 Xg.1).1;omega)).cut (.same (lh.cut (sz:=6) (k:=3) (cs:=[J C.left.kind,J C.left.num, .ro 3 (C.left.kids.map aD),J C.right.kind,J C.right.num, .ro 3 (C.right.kids.map aD)]) (by decide) (lh.refl _)));have Y3:=nG bt ba t a hs C.right lR (by have:=(iA.1 Xg.2).1;omega);rw[<-cM fJ ts,<-cM fJ us]at X5 Y3;have gX:∀{x:aA},(jm t a x ts us).2=true->bz t a (jm t a x ts us).1=true:=fun h=>by
  unfold jm at h⊢;simp only[ab]at h;exact h.2
 have hz:∀z,(z=s\/z=aJ s 2\/z=s3)->jW z (N+100000):=by
  rintro z (rfl|rfl|rfl)
  ·exact hS.mono (by omega)
  ·exact h1.mono (by omega)
  ·exact hS3
 have he:∀z,(z=s\/z=aJ s 2\/z=s3)->jW (bY ⟨t,a⟩ 6 false ⟨z,5⟩).2.s (N+120000):=fun z h=>by
  have:=zf;exact((hz z h).expr ⟨t,a⟩ 6 false 5).mono (by omega)
 have core:=fun r sF=>J8 (r:=r) (sF:=sF) (rows:=cl.map aV) (u:=u) (L:=C.left) (R:=C.right) (ru:=C.l8) (rf:=C.ref) (st:=C.steps.map cD) (ts:=ts) (us:=us) (ev:=fun z=>(bY ⟨t,a⟩ 6 false ⟨z,5⟩).1) (es:=fun z=>(bY ⟨t,a⟩ 6 false ⟨z,5⟩).2.s)
  (gS:=fun z=>(lG ⟨⟨t,a⟩,cl⟩ 2 (bY ⟨t,a⟩ 6 false ⟨z,5⟩).2.s (bY ⟨t,a⟩ 6 false ⟨z,5⟩).1).1) (gT:=fun z=>(lG ⟨⟨t,a⟩,cl⟩ 2 (bY ⟨t,a⟩ 6 false ⟨z,5⟩).2.s (bY ⟨t,a⟩ 6 false ⟨z,5⟩).1).2.1) (gs:=fun z=>(lG ⟨⟨t,a⟩,cl⟩ 2 (bY ⟨t,a⟩ 6 false ⟨z,5⟩).2.s (bY ⟨t,a⟩ 6 false ⟨z,5⟩).1).2.2)
  (by omega) (jF s (hS.rd.mono (by omega)) hS.len 2 (by unfold lJ;omega)) (dx (aJ s 2) (h1.rd.mono (by omega)) h1.len ((cl.map aV).length:Nat) (by unfold lJ;omega)) (fun h=>cV _ (by omega)) hC cd X5 Y3
  (fun z h=>vO ⟨t,a⟩ hg z ((hz z h).rd.mono (by omega)) (hz z h).len 5 (by decide)) (fun z h=>vY hs cl (nU t a _ _) 2 (by decide) (he z h) (by omega) u)
 by_cases hA:0<(cl.map aV).length/\ky s 2=true/\(jm t a C.left ts us).2=true/\(jm t a C.right ts us).2=true
 ·obtain⟨k1,k2,k3,k4⟩:=hA;have hi:=cV (aJ s 2) (n:=((cl.map aV).length:Nat)) (by omega);refine⟨⟨(jm t a C.left ts us).1,(jm t a C.right ts us).1,1,0,[⟨-1-cx (aJ s 2) ((cl.map aV).length:Nat),false,[],ts,us⟩]⟩,s3,?_,rfl,by simp,hS3.mono (by omega),?_⟩
  ·have uo:dv t a ⟨-1-cx (aJ s 2) ((cl.map aV).length:Nat),false,[],ts,us⟩=true:=by
        simp only[dv,ab,decide_eq_true_eq,aj];exact⟨eL (by omega) (by omega),by simp,by simp,by omega,by omega,t2,t3,a2⟩
   simp only[c7,ab,decide_eq_true_eq,aj];exact⟨gX k3,gX k4,rfl,rfl,by simp,rfl,by simpa using uo⟩
  ·have h:=core _ s3 (fun _ _ _ _=>⟨rfl,rfl⟩) (fun z h _ _=>by
        have:=(h k1 k2).1;rw[k3,k4]at this;exact absurd this (by decide))
   have h:=h.soft (.v (.a (.same (.same (.ro (.same (.same (.ro (.same (.same (.ro .nil)))))))))));have e:∀X Y:aA,∀sr:List (List CV),∀S:List aP,dD sr=S.map cD->[J X.kind,J X.num,mV (.own 66 3 (X.kids.map aM)),J Y.kind,J Y.num,mV (.own 66 3 (Y.kids.map aM)),J 1,J 0,mV (.own 156 5 sr)]=aV ⟨X,Y,1,0,S⟩:=by
        intro X Y sr S hS;simp only[mV,cM fJ,hS];rfl
   rw[e _ _ _ [⟨-1-cx (aJ s 2) ((cl.map aV).length:Nat),false,[],ts,us⟩] (by simp only[dD,pf,mV,cM fJ];rfl)]at h;exact h
 ·obtain⟨z,Z5,q1,q2,q3⟩:∃z,(z=s\/z=aJ s 2\/z=s3)/\(0<(cl.map aV).length->ky s 2=true->z=s3)/\(0<(cl.map aV).length->ky s 2=false->z=aJ s 2)/\(¬0<(cl.map aV).length->z=s):=by
   by_cases k1:0<(cl.map aV).length
   ·cases k2:ky s 2 with
    |true=>exact⟨s3, .inr (.inr rfl),fun _ _=>rfl,fun _ h=>(by cases h),fun h=>absurd k1 h⟩
    |false=>exact⟨aJ s 2, .inr (.inl rfl),fun _ h=>(by cases h),fun _ _=>rfl,fun h=>absurd k1 h⟩
   ·exact⟨s, .inl rfl,fun h=>absurd h k1,fun h=>absurd h k1,fun _=>rfl⟩
  have hG:=Hw (p:=⟨⟨t,a⟩,cl⟩) (most:=2) (s:=(bY ⟨t,a⟩ 6 false ⟨z,5⟩).2.s) (e:=(bY ⟨t,a⟩ 6 false ⟨z,5⟩).1) (nU t a _ _);have hO:=Nr (p:=⟨⟨t,a⟩,cl⟩) (most:=2) (he z Z5) (bY ⟨t,a⟩ 6 false ⟨z,5⟩).1;have h:=core _ (lG ⟨⟨t,a⟩,cl⟩ 2 (bY ⟨t,a⟩ 6 false ⟨z,5⟩).2.s (bY ⟨t,a⟩ 6 false ⟨z,5⟩).1).2.2 (fun b1 b2 b3 b4=>absurd ⟨b1,b2,b3,b4⟩ hA) (fun z' p1 p2 p3=>by
   have hzz:z'=z:=by
        by_cases k1:0<(cl.map aV).length
        ·cases k2:ky s 2 with
         |true=>rw[(p1 k1 k2).2,q1 k1 k2]
         |false=>rw[p2 k1 k2,q2 k1 k2]
        ·rw[p3 k1,q3 k1]
   subst hzz;exact⟨rfl,rfl⟩)
  refine⟨⟨(bY ⟨t,a⟩ 6 false ⟨z,5⟩).1,(lG ⟨⟨t,a⟩,cl⟩ 2 (bY ⟨t,a⟩ 6 false ⟨z,5⟩).2.s (bY ⟨t,a⟩ 6 false ⟨z,5⟩).1).2.1,1,0,(lG ⟨⟨t,a⟩,cl⟩ 2 (bY ⟨t,a⟩ 6 false ⟨z,5⟩).2.s (bY ⟨t,a⟩ 6 false ⟨z,5⟩).1).1⟩,_,?_,rfl,hG.2.2,hO.mono (by omega),?_⟩
  ·have h4:=hG.2.2;simp only[c7,ab,decide_eq_true_eq,aj];exact⟨nU t a _ _,hG.1,rfl,rfl,by omega,rfl,fun x hx=>(hG.2.1 x hx).1⟩
  ·have h:=h.soft (.v (.a (.same (.same (.same (.same (.same (.ro (.same (.same (.ro .nil)))))))))));simp only[mV,cM fJ,cM xC]at h;exact h
end
def uK(l:List Int)(x:Int):Bool:=l.all (fun y=> !(y==x))
theorem NA{l:List Int}{x:Int}:uK l x=true↔x∉l:=by
 unfold uK;rw[aj];constructor
 ·intro h hx;have:=h x hx;simp at this
 ·intro h y hy;have:y≠x:=fun e=>h (e▸hy)
  simpa using this
theorem L6(l:List Int)(x:Int):aS prog 135 [.c (.ro 1 (l.map eI)),I x] (B (!uK l x)):=by
 refine cF func135 (h:=?_)
 repeat'((conv=>whnf);first
  |(apply bP.mk;first|((unfold uK;rw[eQ (i:=i) (by omega) (by simpa using h)];rfl);done)|((unfold uK;rw[fO (by omega) ha];rfl);done)|skip)|(show aZ 2 _ _ _ _ _ _;refine lp (Nat) [0,1] (fun i=>[(5,I (i:Nat))]) (fun i=>i≤l.length/\(l.take i).all (fun y=> !(y==x))=true) (fun i=>l.length-i) 0 (by exact⟨ah _,rfl⟩) (fun i ha=>?_))
  |refine nx (i+1:Nat) (by exact eN (by omega) ha (by simpa using h))
  |(apply Fact.mk;intro hL;try simp only[aa,maxLen]at hL)
  |((apply bX;constructor)<;>intro h<;>(try simp only[aa]at h)<;>(try first|omega|contradiction))
  |refine aR ?_|(show Index _ _ _;first|(refine Index.mk _ (bZ (l:=l) (i:=i) (by omega)) ?_)|fail)
  |refine nO ?_)
 all_goals first|rfl|trivial
noncomputable def tL(p:cY)(k:Int):List aP->aA->aA->Bool
 |[],e,r=>eqv e r
 |st::ss,e,r=>if(g9 jO p k e st).2=0 then tL p k ss (g9 jO p k e st).1 r else false
theorem MM{p:cY}{k:Int}{l:List aP}{i:Nat}(h:i<l.length)(e r:aA):tL p k (l.drop i) e r=if(g9 jO p k e (l.getD i ju)).2=0 then tL p k (l.drop (i+1)) (g9 jO p k e (l.getD i ju)).1 r else false:=by
 rw[List.drop_eq_getElem_cons h,tL,getD_eq h]
section
variable{t a:Int}{p:cY}{k:Nat}{c:bV}{aX:aA->aP->aA}{aC:aA->aP->Int}{sh:List aP->aA->aA->Bool}{b:Bool}
 (hk:k<p.aG.length)(Iz:p.aG.length≤1000000)(hc:p.aG.getD k c0=c)(yE:c.l8=1)(TL:c.steps.length≤100)
 (co:aE prog 137 [.c (.rp 9 (aV c))] [] (.a 3 (cC c.left)))(hg:bz t a c.left=true)
 (cA:∀x st,bz t a x=true->st∈c.steps->aE prog 172 [.c (.rp 3 (dk p)),I (k:Nat), .c (.rp 3 (uE x)), .c (.rp 5 (cD st))] [] (.tup [.a 3 (cC (aX x st)),I (aC x st)]))
 (gA:∀x st,aC x st=0->bz t a (aX x st)=true)
 (cs:∀x,aS prog 51 [.c (.rp 3 (uE x)), .c (.rp 6 ((aV c).drop 3))] (B (sh [] x c.right)))
 (sg:∀i,i<c.steps.length-> ∀x,sh (c.steps.drop i) x c.right=if aC x (c.steps.getD i ju)=0 then sh (c.steps.drop (i+1)) (aX x (c.steps.getD i ju)) c.right else false)
include hk Iz hc yE TL co hg cA gA cs sg
theorem JN:aE prog 142 [.c (.rp 3 (dk p)),I (k:Nat)] [] (B (sh c.steps c.left c.right)):=by
 have _:=Iz;obtain⟨R,hR⟩:∃R,sh c.steps c.left c.right=R:=⟨_,rfl⟩
 rw[hR];have Bu:(p.aG.map aV)[((k:Nat):Int).toNat]? =some (aV c):=by rw[<-hc];exact aN (i:=k) (by omega)
 have Mt:∀i,i<c.steps.length->c.steps.getD i ju∈c.steps:=fun i h=>by rw[getD_eq h];exact ag h
 obtain⟨l,r,ru,rf,ss⟩:=c;simp only[]at yE;subst yE;refine cX func142 (h:=?_)
 repeat'((conv=>whnf);first
  |(show ay _ 172 _ _ _ _;(have eu:i<ss.length:=by omega);(have hq:=sg i eu x);refine ay.own _ _ rfl (cA x _ hgx (Mt i eu)) (mo (jw _)) _ rfl ?_)|(show Gh _ _ _ _ _;(have ZH:aC x (ss.getD i ju)=0:=by assumption);refine Gh.Eg 0 _ rfl (Gh.N2 3 0 rfl (Gh.go ⟨((i+1,aX x (ss.getD i ju)):Nat × aA),(by exact⟨by show i+1≤ss.length;omega,(hq.trans (if_pos ZH)).symm.trans hS,gA _ _ ZH⟩),(by show _<_;(try simp only[]);omega),(by(repeat'((conv=>whnf)<;>(first|exact trivial|refine⟨?_,?_⟩|kernel_rfl)));done),(by(repeat'((conv=>whnf)<;>(first|exact trivial|refine⟨?_,?_⟩|kernel_rfl)));done),(by(repeat'((conv=>whnf)<;>(first|exact trivial|refine⟨?_,?_⟩|kernel_rfl)));done)⟩)))
  |refine aI.mk ?_ ?_|(show aZ 6 _ _ _ _ _ _;refine n7 (Nat × aA) [0,1,5,6] (fun⟨i,x⟩=>[(7,I (i:Nat))]) (fun⟨i,x⟩=>[(0, .aU none 66 3 (x.kids.map aM)),(2, .cells [.c (J x.kind), .c (J x.num), .lw 0])]) (fun⟨i,x⟩=>i≤ss.length/\sh (ss.drop i) x r=R/\bz t a x=true) (fun⟨i,x⟩=>ss.length-i) (0,l) (by exact⟨ah _,hR,hg⟩) (fun A ha=>?_);obtain⟨i,x⟩:=A;have ha:i≤ss.length/\sh (ss.drop i) x r=R/\bz t a x=true:=ha;(obtain⟨hi,hS,hgx⟩:=ha))
  |(apply Fact.mk;intro hL;try simp only[aa,maxLen]at hL)
  |((apply bX;constructor)<;>intro h<;>(try simp only[aa]at h)<;>(try first|omega|contradiction))|(show ay _ 137 _ _ _ _;refine cG [] rfl (co) ?_)|(show ay _ 51 _ _ _ _;refine cP rfl (cs x) ?_)
  |refine aR ?_|(show Index _ _ _;first|(refine Index.mk _ (Bu) ?_)|(refine Index.mk _ (aN (l:=ss) (d:=ju) (i:=i) (by omega)) ?_)|fail)
  |refine nO ?_)
 all_goals first|rfl|trivial|(have e9:i=ss.length:=(by omega);exact congrArg (fun b=>SV.c (CV.val (Value.bool b))) ((by rw[e9,List.drop_length]:sh [] x r=sh (ss.drop i) x r).trans hS))|(have h8:=‹¬aC x (ss.getD i ju)=0›;exact congrArg (fun b=>SV.c (CV.val (Value.bool b))) ((hq.trans (if_neg h8)).symm.trans hS))
end
end Go.Proofs.YtgbggaddpbghfaaGreat
