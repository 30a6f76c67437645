/- Part of a proof engine for functions of the given program: what an operation, a loop and a call compute, symbolically. No conditions. -/
import Derived.Test.YtgbggaddpbghfaaGreatEngG
namespace Go.KA
open Go Go.RowKit
section
variable{P:Program}{tbl:TT}{Γ:Cx}{H Hm:HM}{ρ:RM}{F:FM}{w:World}
theorem lU{ok:Nat->Prop}{sz off len:Nat}{rows:List (List CV)}{xs:List Value}(h:Den w ok rows.flatten xs [])(hr:∀r∈rows,r.length=sz):
 Den w ok ((rows.drop off).take len).flatten ((xs.drop (off*sz)).take (len*sz)) []:=by
 have e1:∀(off:Nat) (rows:List (List CV)),(∀r∈rows,r.length=sz)->(rows.drop off).flatten=rows.flatten.drop (off*sz):=by
  intro off
  induction off with
  |zero=>intro rows _;simp
  |succ n ih=>
   intro rows hr;cases rows with
   |nil=>simp
   |cons r rows=>
    simp only[List.drop_succ_cons,List.flatten_cons];rw[ih rows fun x hx=>hr x (by simp[hx])];have h0:=hr r (by simp);rw[Nat.succ_mul,Nat.add_comm (n*sz) sz,<-List.drop_drop,List.drop_left' h0]
 have e2:∀(len:Nat) (rows:List (List CV)),(∀r∈rows,r.length=sz)->(rows.take len).flatten=rows.flatten.take (len*sz):=by
  intro len
  induction len with
  |zero=>intro rows _;simp
  |succ n ih=>
   intro rows hr;cases rows with
   |nil=>simp
   |cons r rows=>
    simp only[List.take_succ_cons,List.flatten_cons];rw[ih rows fun x hx=>hr x (by simp[hx])];have h0:=hr r (by simp);rw[Nat.succ_mul,List.take_append,h0,List.take_of_length_le (l:=r) (by omega)]
    congr 2
    omega
 rw[e2 _ _ (fun r my=>hr r (List.mem_of_mem_drop my)),e1 _ _ hr];exact kH (gI h _) _
theorem tj(hm:Mem Γ H ρ F w)(hB:∀i,Hm i= .dead\/dH ρ w (bg Γ F w) (Hm i) (ρ i) (F i)){j:Nat}{x:SV}{xv:Value}{sz:Nat}{rs:List (List CV)}{ks:List Nat}(h:uH Hm j x=some (sz,rs,ks))(hx:bJ ρ w (bg Γ F w) x xv):
 ∃ad c news fs,xv= .slice ad rs.length c/\(∀r∈rs,r.length=sz)/\Den w (bg Γ F w) rs.flatten news fs/\(∀b∈fs,∃k∈ks,b∈F k)/\fs.Nodup/\(ks=[]->fs=[])/\rs.length≤maxLen/\
  (∀(q:Nat) u,news[q]? =some u-> ∃b,ad=some b/\w.cell? (b.add q)=some u)/\j∉ks/\ks.Nodup/\ ∀k∈ks,Hm k≠ .dead:=by
 unfold uH at h;split at h
 ·simp only[Option.some.injEq,Prod.mk.injEq]at h;obtain⟨rfl,rfl,rfl⟩:=h;obtain⟨ad,n,c,xs,rfl,rfl,hc,W8,hr,bw,jH⟩:=TE hx;refine⟨ad,c,xs,[],rfl,hr,bw,by simp,by simp,fun _=>rfl,by omega,fun q u hq=>?_,by simp,by simp,by simp⟩;obtain⟨b,rfl,_,_,kR⟩:=jH q u hq;exact⟨b,rfl,kR⟩
 ·rename_i i;cases hb:Nat.beq i j with
  |true=>rw[hb]at h;cases h
  |false=>
   rw[hb]at h;simp only[cond]at h;have EW:=Bl hb;split at h
   ·rename_i o ty fN rows hi;simp only[Option.some.injEq,Prod.mk.injEq]at h;obtain⟨rfl,rfl,rfl⟩:=h;obtain⟨rv,xs,jX,ho,hr,bw,_⟩:=jx hB hi;obtain⟨tK,_⟩:=wg hx;rw[jX]at tK;simp only[Option.some.injEq]at tK;subst tK;rcases dJ ho with⟨rfl,hz,qC⟩|⟨b,c,rfl,hc,W8⟩
    ·subst qC;exact⟨none,0,[],[],by rw[hz],hr,bw,by simp,by simp,fun _=>rfl,by omega,fun q u hq=>by simp at hq,by simp,by simp,by simp⟩
    ·exact⟨_,c,xs,[],rfl,hr,bw,by simp,by simp,fun _=>rfl,by omega,fun q u hq=>⟨_,rfl,(kA ho rfl).1 q u hq⟩,by simp,by simp,by simp⟩
   ·rename_i o ty fN rows hi;simp only[Option.some.injEq,Prod.mk.injEq]at h;obtain⟨rfl,rfl,rfl⟩:=h;obtain⟨rv,xs,f,jX,ho,hr,bw,hF,_⟩:=et hB hi;obtain⟨tK,_⟩:=wg hx;rw[jX]at tK;simp only[Option.some.injEq]at tK;subst tK;have gB:=hm.nodup i;rw[hF,List.nodup_append]at gB;have yN:∀b∈f,∃k∈[i],b∈F k:=fun b hb=>⟨i,by simp,by rw[hF];simp[hb]⟩
    rcases dJ ho with⟨rfl,hz,qC⟩|⟨b,c,rfl,hc,W8⟩
    ·subst qC;exact⟨none,0,[],f,by rw[hz],hr,bw,yN,gB.2.1,by simp,by omega,fun q u hq=>by simp at hq,by simp;exact fun e=>EW e.symm,by simp,by simp[hi]⟩
    ·exact⟨_,c,xs,f,rfl,hr,bw,yN,gB.2.1,by simp,by omega,fun q u hq=>⟨_,rfl,(kA ho rfl).1 q u hq⟩,by simp;exact fun e=>EW e.symm,by simp,by simp[hi]⟩
   ·cases h
 ·rename_i i Fc off len;cases hb:Nat.beq i j with
  |true=>rw[hb]at h;cases h
  |false=>
   rw[hb]at h;simp only[cond]at h;split at h
   ·rename_i o ty fN rows hi;split at h
    case h_2=>cases h
    rename_i gC;have:=ae gC;subst this;simp only[Option.some.injEq,Prod.mk.injEq]at h;obtain⟨rfl,rfl,rfl⟩:=h;obtain⟨rv,xs,jX,ho,hr,bw,_⟩:=jx hB hi;obtain⟨b,n,c,c',hρ,rfl,h1,h2,h3⟩:=Wv hx;rw[hρ]at jX;simp only[Option.some.injEq]at jX;subst jX;obtain⟨jC,hn,hc,W8⟩:=kA ho rfl;have hlen:((rows.drop off).take len).length=len:=by simp;omega
    have YT:=lU (off:=off) (len:=len) bw hr;have mm:=lY (ig jC (off*Fc)) (len*Fc);rw[eW,Nat.zero_add]at mm;exact⟨_,c',_,[],by rw[hlen],fun r my=>hr r (List.mem_of_mem_drop (List.mem_of_mem_take my)),YT,by simp,by simp,fun _=>rfl,by omega,fun q u hq=>⟨_,rfl,mm q u hq⟩,by simp,by simp,by simp⟩
   ·cases h
 ·cases h
theorem kB{t ty e e':Nat}{inf:TypeInfo}{sz n c:Nat}{v:Value}{xs:List Value}(ht:P.underlying t=some (.slice e))(hi:P.info? e=some inf)(pH:w.ownsRow 0 e' sz v n xs):
 (Builtin.append_ #[t,t] ty #[v, .slice none 0 c]).run P w= .ok v w:=by
 rcases pH.2 with⟨rfl,rfl⟩|⟨g,cap,cur,rfl,_,_,ZT,_⟩
 ·simp[Builtin.append_,run_underlying ht,sizeOf,typeInfo,hi,Builtin.lenOf,Builtin.firstCells]
 ·simp[Builtin.append_,run_underlying ht,sizeOf,typeInfo,hi,Builtin.lenOf,Builtin.firstCells,ZT,storeCells]
theorem XV{i sz off len:Nat}{v:Value}{ok:Nat->Prop}(h:bJ ρ w ok (.ls i sz off len) v):∃b n c c',ρ i=some (.slice (some ⟨b,0,none⟩) n c)/\v= .slice (some ⟨b,off*sz,none⟩) len c'/\off+len≤n/\len≤c'/\c'≤maxLen/\off+c'=c:=by
 cases h with
 |v h=>cases h with|c h=>cases h with|ls h h1 h2 h3 h4=>exact⟨_,_,_,_,h,rfl,h1,h2,h3,h4⟩
theorem OU{ty sz n m b c k:Nat}{xs:List Value}(h:w.ownsRow 0 ty sz (.slice (some ⟨b,0,none⟩) k c) n xs)(hm:m≤n):w.ownsRow 0 ty sz (.slice (some ⟨b,0,none⟩) m c) m (xs.take (m*sz)):=by
 obtain⟨h1,h|⟨g,cap,cur,hv,hb,hh,hc,W8,hs,ht⟩⟩:=h
 ·cases h.1
 ·injection hv with e1 e2 e3
  injection e1 with e1
  injection e1 with e1 _
  subst e1 e2 e3;have:=Nat.mul_le_mul_right sz hm;refine⟨by rw[aq];omega, .inr ⟨b,c,cur,rfl,hb,hh,by omega,W8,hs,?_⟩⟩;rw[<-ht,List.take_take]
  congr 1
  omega
theorem kU(hm:Mem Γ H ρ F w)(hle:n9 Hm H){d:Bool}{t ty n j ll dw yg:Nat}{x:SV}{sv xv:Value}{K:iT->Prop}(nY:oc ρ n K){i:iZ}(hk:vM P t i)(mT:i.elem=some (ll,dw,yg))
 (hx:bJ ρ w (bg Γ F w) x xv){fN:Nat}{rs:List (List CV)}{ks:List Nat}(qE:uH Hm j x=some (fN,rs,ks))
 {mq sz:Nat}{rows:List (List CV)}{kb:dW}{xs:List Value}{f:List Nat}(ho:w.ownsRow 0 mq sz sv rows.length xs)(hr:∀r∈rows,r.length=sz)(bw:Den w (bg Γ F w) rows.flatten xs f)(hF:F j=sv.ownBlock.toList++f)(S6:Hm j≠ .dead)
 (NQ:(kb= .row none mq sz (rows++rs)/\f=[]/\ks=[])\/kb= .aU none mq sz (rows++rs))
 (hq:cond (Nat.beq mq ll&&(Nat.beq sz dw&&Nat.beq fN dw)) (fact d (rows.length≤maxLen/\rs.length≤maxLen) (bh (rows.length+rs.length≤maxLen/\(rows.length+rs.length)*yg≤140737488355328)
     (K ⟨.lw n,kp (j::ks)++[(n,kb)],1,[(n,j)]⟩))) False):um Γ H ρ F w n K ((Builtin.append_ #[t,t] ty #[sv,xv]).run P w):=by
 have hB:=hm.hb hle;obtain⟨hu,qa,inf,z,kX,gC,IH,hz,W5⟩:=hk.elem _ _ _ mT;obtain⟨ad,c,news,fs,rfl,IC,Xr,yN,Tg,Zq,hlen,wY,Zk,abi,XH⟩:=tj hm hB qE hx;cases hb:(Nat.beq mq ll&&(Nat.beq sz dw&&Nat.beq fN dw))with
 |false=>rw[hb]at hq;exact hq.elim
 |true=>
 rw[hb]at hq;simp only[ab]at hb;have e1:=ae hb.1;have e2:=ae hb.2.1;have e3:=ae hb.2.2;subst e1 e2 e3;have sU:rows.length≤maxLen:=by rcases dJ ho with⟨_,hz,_⟩|⟨b,c,_,hc,W8⟩<;>omega
 simp only[cond]at hq;obtain⟨⟨h63,VP⟩,hK⟩:=nw hq ⟨sU,hlen⟩;have hn:=nY _ hK n (aw _) (by simp);have VM:j≠n:=kM hm hle hn S6;have fin:∀v' w',(Builtin.append_ #[t,t] ty #[sv, .slice ad rs.length c]).run P w= .ok v' w'->w'.ownsRow 0 mq fN v' (rows.length+rs.length) (xs++news)->w.grownBy w' sv.ownBlock->(v'.ownBlock=sv.ownBlock\/v'.ownBlock=some w.heap.size)->
  um Γ H ρ F w n K ((Builtin.append_ #[t,t] ty #[sv, .slice ad rs.length c]).run P w):=by
  intro v' w' fu pH hg jC;have ko:∀b,b<w.heap.size->b∉F j->w'.heap[b]? =w.heap[b]? :=fun b hb Sp=>hg.block b hb fun e=>Sp (by rw[hF,<-e];simp)
  have aa0:∀b,bg Γ F w b->w'.heap[b]? =w.heap[b]? :=fun b hb=>ko b hb.1 fun Rb=>hb.2.2 ⟨j,Rb⟩
  have S0:=hm.nodup j;rw[hF,List.nodup_append]at S0;have ZP:∀b∈f,b∈F j:=fun b hb=>by rw[hF];simp[hb]
  have Wc:∀b∈fs,b∉F j:=fun b hb E8=>by
   obtain⟨k,RZ,MJ⟩:=yN b hb;exact Zk (hm.kO j k b E8 MJ▸RZ)
  have Uh:∀b∈fs,b<w.heap.size:=fun b hb=>by
   obtain⟨k,_,MJ⟩:=yN b hb;exact hm.lt k b MJ
  have KS:∀r∈rows++rs,r.length=fN:=by
   intro r my;rcases ao.1 my with h1|h1
   ·exact hr r h1
   ·exact IC r h1
  have TA:∀b,v'.ownBlock=some b->(b∈F j/\b∉f/\b∉fs/\sv.ownBlock=some b)\/(b=w.heap.size/\b<w'.heap.size):=by
   intro b hb;rcases jC with e|e
   ·left;have fX:sv.ownBlock=some b:=by rw[<-e];exact hb
    have E8:b∈F j:=by rw[hF,fX];simp
    exact⟨E8,fun YH=>S0.2.2 b (by rw[fX];simp) b YH rfl,fun YH=>Wc b YH E8,fX⟩
   ·right;rw[e]at hb;injection hb with hb
    subst hb;refine⟨rfl,?_⟩;rcases pH.2 with⟨e2,_⟩|⟨g,cap,cur,e2,_,hh,_⟩
    ·rw[e2]at e;cases e
    ·rw[e2]at e;simp only[Value.ownBlock,Option.some.injEq]at e;subst e;exact(Array.getElem?_eq_some_iff.1 hh).1
  have Qz:∀b,b∈f++fs->w'.heap[b]? =w.heap[b]? :=by
   intro b hb;rcases ao.1 hb with hb|hb
   ·refine hg.block b (hm.lt j b (ZP b hb)) fun e=>?_
    exact S0.2.2 b (by rw[<-e];simp) b hb rfl
   ·exact ko b (Uh b hb) (Wc b hb)
  have qW:∀ok':Nat->Prop,(∀b,bg Γ F w b->ok' b)->Den w' ok' (rows++rs).flatten (xs++news) (f++fs):=by
   intro ok' iu;rw[List.flatten_append];exact(bw.append Xr).mono aa0 iu Qz
  have Xa:n∉j::ks:=by
   simp only[List.mem_cons,not_or];exact⟨fun e=>VM e.symm,fun hh=>kM hm hle hn (XH n hh) rfl⟩
  obtain⟨g1,g2,g3⟩:=hm.qT (j:=n) (ks:=j::ks) (k:=kb) (f:=v'.ownBlock.toList++(f++fs)) (ρ':=xi ρ n v') (w':=w') hg.os hg.tape hg.output hg.size (gQ hn _) (fun i hi=>ox hi) Xa
   (fun b hb _ Sp=>ko b hb (Sp j (by simp)))
   (fun b hb=>by
        rcases ao.1 hb with hb|hb
        ·have fX:v'.ownBlock=some b:=by simpa using hb
         rcases TA b fX with⟨h1,_⟩|⟨h1,h2⟩
         ·exact .inr (.inl ⟨j,by simp,h1⟩)
         ·exact .inr (.inr ⟨by omega,h2⟩)
        ·rcases ao.1 hb with hb|hb
         ·exact .inr (.inl ⟨j,by simp,ZP b hb⟩)
         ·obtain⟨k,RZ,MJ⟩:=yN b hb;exact .inr (.inl ⟨k,by simp[RZ],MJ⟩))
   (by
        rw[List.nodup_append,List.nodup_append];refine⟨by cases v'.ownBlock<;>simp,⟨S0.2.1,Tg,fun a ha b hb e=>by subst e;exact Wc a hb (ZP a ha)⟩,fun a ha b hb e=>?_⟩;subst e;have ha':v'.ownBlock=some a:=by simpa using ha
        rcases TA a ha' with⟨_,h2,h3,_⟩|⟨h1,_⟩
        ·rcases ao.1 hb with hb|hb
         ·exact h2 hb
         ·exact h3 hb
        ·rcases ao.1 hb with hb|hb
         ·have:=hm.lt j a (ZP a hb);omega
         ·have:=Uh a hb;omega)
   (fun ok' iu=>by
        rw[gP];rcases NQ with⟨rfl,h1,e2⟩|rfl
        ·have h2:=Zq e2;have hd:=qW ok' iu;subst h1 h2;simp only[List.append_nil];exact .row (by rw[ai];exact pH) KS hd (by simp)
        ·exact .aU (by rw[ai];exact pH) KS (qW ok' iu) (by simp))
  refine⟨_,_,_,v',w',hK,fu,gQ hn _,fun i hi=>by have:=m9 hi;simp;omega,g1,g2,g3,?_⟩;rcases dJ pH with⟨e,_⟩|⟨b,c',e,_⟩
  ·exact .v (.c (by rw[e];exact .lw gP))
  ·exact .v (.c (by rw[e];exact .lw gP))
 cases ad with
 |none=>
  have VU:news=[]:=by
   cases news with
   |nil=>rfl
   |cons u us=>obtain⟨b,hb,_⟩:=wY 0 u rfl;cases hb
  subst VU;have abC:rs.length=0:=by
   have:=Xr.length;rw[fE IC]at this;rcases Nat.mul_eq_zero.1 this with h0|h0
   ·exact h0
   ·omega
  have ab9:rs=[]:=List.eq_nil_of_length_eq_zero abC;subst ab9;exact fin sv w (kB hu kX ho) (by simpa using ho) (World.grownBy.refl w _) (.inl rfl)
 |some ad=>
  obtain⟨v',w',fu,pH,hg,_,jC⟩:=run_append_own_at (P:=P) w 0 t ty mq inf z fN yg hu kX hz gC IH W5 qa sv rows.length xs ho ad rs.length c news (by rw[<-Xr.length,fE IC])
   (fun q u hq=>by obtain⟨b,hb,hc⟩:=wY q u hq;injection hb with hb;subst hb;exact hc) Xr.one h63 VP (ah _)
  exact fin v' w' fu pH hg jC
theorem Bq(dC:en P tbl)(hm:Mem Γ H ρ F w)(hle:n9 Hm H){d:Bool}{t ty n:Nat}{s x:SV}{sv xv:Value}{K:iT->Prop}(h:vj d tbl t s x Hm n K)(nY:oc ρ n K)
 (hs:bJ ρ w (bg Γ F w) s sv)(hx:bJ ρ w (bg Γ F w) x xv):um Γ H ρ F w n K ((Builtin.append_ #[t,t] ty #[sv,xv]).run P w):=by
 have hB:=hm.hb hle;unfold vj at h;split at h
 case h_3=>exact h.elim
 case h_2=>
  rename_i i j Fc len hi;split at h
  case h_2=>exact h.elim
  rename_i ll dw yg mT;split at h
  case h_2=>exact h.elim
  rename_i fN rs ks qE;split at h
  case h_2=>exact h.elim
  rename_i o mq sz rows hj;obtain⟨b,m,c,c',hρ,rfl,h1,h2,h3,h4⟩:=XV hs;obtain⟨rv,xs,jX,ho,hr,bw,hF,_⟩:=jx hB hj;rw[hρ]at jX;injection jX with jX
  subst jX;cases hb:Nat.beq Fc sz with
  |false=>rw[hb]at h;exact h.elim
  |true=>
  rw[hb]at h;have:=ae hb;subst this;have VX:m=rows.length:=(kA ho rfl).2.1;have hc:c'=c:=by omega
  subst hc;have N9:w.ownsRow 0 mq Fc (.slice (some ⟨b,0*Fc,none⟩) len c') (rows.take len).length (xs.take (len*Fc)):=by
   have hl:(rows.take len).length=len:=by rw[aq];omega
   rw[hl,Nat.zero_mul];exact OU ho (by omega)
  rw[Bool.true_and]at h;have I5:F j=(Value.slice (some ⟨b,0*Fc,none⟩) len c').ownBlock.toList++[]:=by rw[hF];simp[Value.ownBlock]
  have UD:Den w (bg Γ F w) (rows.take len).flatten (xs.take (len*Fc)) []:=by
   have:=lU (off:=0) (len:=len) bw hr;simpa using this
  cases ks with
  |nil=>exact kU (d:=d) hm hle nY (dC _ _ hi) mT hx qE N9 (fun r my=>hr r (List.mem_of_mem_take my)) UD I5 (by rw[hj];simp) (.inl ⟨rfl,rfl,rfl⟩) h
  |cons k ks=>exact kU (d:=d) hm hle nY (dC _ _ hi) mT hx qE N9 (fun r my=>hr r (List.mem_of_mem_take my)) UD I5 (by rw[hj];simp) (.inr rfl) h
 rename_i i j hi;have hk:=dC _ _ hi;split at h
 case h_2=>exact h.elim
 rename_i ll dw yg mT;obtain⟨hu,qa,inf,z,kX,gC,IH,hz,W5⟩:=hk.elem _ _ _ mT;obtain⟨wm,_⟩:=wg hs;have Z3:∀{o:Option Value} {V5 Fc:Nat} {rows:List (List CV)},(Hm j= .row o V5 Fc rows\/Hm j= .aU o V5 Fc rows)-> ∃xs f,w.ownsRow 0 V5 Fc sv rows.length xs/\(∀r∈rows,r.length=Fc)/\Den w (bg Γ F w) rows.flatten xs f/\F j=sv.ownBlock.toList++f/\(Hm j= .row o V5 Fc rows->f=[]):=by
  rintro o V5 Fc rows (hj|hj)
  ·obtain⟨rv,xs,jX,ho,hr,bw,hF,_⟩:=jx hB hj;rw[wm]at jX;injection jX with jX
   subst jX;exact⟨xs,[],ho,hr,bw,by simpa using hF,fun _=>rfl⟩
  ·obtain⟨rv,xs,f,jX,ho,hr,bw,hF,_⟩:=et hB hj;rw[wm]at jX;injection jX with jX
   subst jX;exact⟨xs,f,ho,hr,bw,hF,fun e=>by rw[hj]at e;cases e⟩
 split at h
 ·have:=fD (b9.jM hx);subst this;split at h
  ·rename_i hj;obtain⟨xs,f,ho,_⟩:=Z3 (.inl hj);exact um.quiet hm ⟨_,_,h,kB hu kX ho,hs⟩
  ·rename_i hj;obtain⟨xs,f,ho,_⟩:=Z3 (.inr hj);exact um.quiet hm ⟨_,_,h,kB hu kX ho,hs⟩
  ·exact h.elim
 ·split at h
  case h_2=>exact h.elim
  rename_i fN rs ks qE;obtain⟨ad,c,news,fs,rfl,IC,Xr,yN,Tg,Zq,hlen,wY,Zk,abi,XH⟩:=tj hm hB qE hx;split at h
  ·rename_i o mq sz rows hj;obtain⟨xs,f,ho,hr,bw,hF,YD⟩:=Z3 (.inl hj);split at h
   ·exact kU hm hle nY hk mT hx qE ho hr bw hF (by rw[hj];simp) (.inl ⟨rfl,YD hj,rfl⟩) h
   ·exact kU hm hle nY hk mT hx qE ho hr bw hF (by rw[hj];simp) (.inr rfl) h
  ·rename_i o mq sz rows hj;obtain⟨xs,f,ho,hr,bw,hF,_⟩:=Z3 (.inr hj);exact kU hm hle nY hk mT hx qE ho hr bw hF (by rw[hj];simp) (.inr rfl) h
  ·exact h.elim
end
end Go.KA
