/- Part of a proof engine for functions of the given program: what an operation, a loop and a call compute, symbolically. No conditions. -/
import Derived.Test.YtgbggaddpbghfaaGreatEngY
namespace Go.KA
open Go
section
variable{A B:Prop}
theorem bA{p:Prop}{_i:Decidable p}(t:p->A)(f:¬p->B):bM (decide p) A B:=bM.mk (fun h=>t (of_decide_eq_true h)) (fun h=>f (of_decide_eq_false h))
theorem bB{a b:Int}(t:a=b->A)(f:¬a=b->B):bM (a==b) A B:=bM.mk (fun h=>t (by simpa using h)) (fun h=>f (by simpa using h))
theorem bC{a b:Int}(t:¬a=b->A)(f:a=b->B):bM (a != b) A B:=bM.mk (fun h=>t (by simpa using h)) (fun h=>f (by simpa using h))
theorem bD{p:Prop}{_i:Decidable p}(t:¬p->A)(f:p->B):bM (!(decide p)) A B:=bM.mk (fun h=>t (by simpa using h)) (fun h=>f (by simpa using h))
theorem bE{b:Bool}(t:b=false->A)(f:b=true->B):bM (!b) A B:=bM.mk (fun h=>t (by simpa using h)) (fun h=>f (by simpa using h))
theorem bF{b:Bool}(t:b=true->A)(f:b=false->B):bM b A B:=bM.mk t f
end
inductive Br(A B:Prop):Bool->Prop
 |a {p:Prop} {_i:Decidable p} (t:p->A) (f:¬p->B):Br A B (decide p)
 |b {a b:Int} (t:a=b->A) (f:¬a=b->B):Br A B (a==b)
 |c {a b:Int} (t:¬a=b->A) (f:a=b->B):Br A B (a != b)
 |d {p:Prop} {_i:Decidable p} (t:¬p->A) (f:p->B):Br A B (!(decide p))
 |e {b:Bool} (t:b=false->A) (f:b=true->B):Br A B (!b)
 |f {b:Bool} (t:b=true->A) (f:b=false->B):Br A B b
theorem bX{A B:Prop}{b:Bool}(h:Br A B b):bM b A B:=by
 cases h with
 |a t f=>exact bA t f
 |b t f=>exact bB t f
 |c t f=>exact bC t f
 |d t f=>exact bD t f
 |e t f=>exact bE t f
 |f t f=>exact bF t f
theorem nB{b:Bool}{K:Prop}(k:K)(h:b=true:=by first|kernel_rfl|rfl):bh (b=true) K:=⟨h,k⟩
theorem nO{p K:Prop}(k:K)(h:p:=by first|omega|(simp only[aa];omega)):bh p K:=⟨h,k⟩
theorem aR{i:IntKind}{z:Int}{K:Int->Prop}(k:K z)(h:i.wrap z=z:=by first|exact bu (by first|omega|(simp only[aa];omega)) (by first|omega|(simp only[aa];omega))|decide):Arith i z K:= .fit h k
theorem Qe{α:Type}{f:α->List CV}{l:List α}{i:Nat}(h:i<l.length):(l.map f)[i]? =some (f l[i]):=by
 rw[List.getElem?_map,List.getElem?_eq_getElem h];rfl
theorem iX{α:Type}{f:α->List CV}{l:List α}{i:Nat}{K:List CV->Prop}(h:i<l.length:=by omega)(k:K (f l[i])):Index (l.map f) i K:=⟨_,Qe h,k⟩
section
variable{d:Bool}{P:Program}{f:Nat}{args:List SV}{H:HM}{n:Nat}{K:iT->Prop}{df:List SV}{r:SV}{E:iT}
theorem cP(hv:tS H [] args=some df)(h:aE P f df [] r)(k:K E)(hs:(ez [] args||La r)=true:=by exact rfl)(he:iQ H [] args [] r n=some E:=by exact rfl):ay (d:=d) P f args H n K:= .pure _ _ hv h hs _ he k
theorem cG(md:List Bool){outs:List (Option (List CV))}(hv:tS H md args=some df)(h:aE P f df outs r)(k:K E)(hn:gK (fK H md args)=true:=by exact rfl)(hc:ez md args=true:=by exact rfl)(he:iQ H md args outs r n=some E:=by exact rfl):ay (d:=d) P f args H n K:=
 .gen md _ _ _ hv h hn hc _ he k
end
theorem lp{RF np:Nat}{T:TM}{H:HM}{n:Nat}{body:(X->TM->HM->Nat->Prop)->TM->HM->Nat->Prop}{K:X->TM->HM->Nat->Prop}(α:Type)(iY:List Nat)(ov:α->List (Nat × SV))(φ:α->Prop)(μ:α->Nat)(a0:α)(h0:φ a0)
 (round:∀a,φ a->body (fun e T' H' n'=>match e with
        | .normal=>Gh np n' T' H' fun T' H'=>∃a',φ a'/\μ a'<μ a/\wz n (ov a') T'/\xa n iY T T'/\sX n n H' (iE [] H)
        |e=>K e T' H' n') (N3 (ov a) (qs iY T)) (iE [] H) n)
 (hT:wz n (ov a0) T:=by(repeat'((conv=>whnf)<;>(first|exact trivial|refine⟨?_,?_⟩|kernel_rfl)));done)
 (hK:xa n iY T T:=by(repeat'((conv=>whnf)<;>(first|exact trivial|refine⟨?_,?_⟩|kernel_rfl)));done)
 (hH:sX n n H (iE [] H):=by(repeat'((conv=>whnf)<;>(first|exact trivial|refine⟨?_,?_⟩|exact rfl|(simp only[au,List.map_cons,List.map_nil,List.map_set];first|done|rfl))));done):aZ RF np T H n body K:=
 aZ.mk ⟨α,iY,ov,fun _=>[],φ,μ⟩ (nu.mk a0 h0 hT hK hH round (fun _=>rfl))
theorem lpk{RF np:Nat}{T:TM}{H:HM}{n:Nat}{body:(X->TM->HM->Nat->Prop)->TM->HM->Nat->Prop}{K:X->TM->HM->Nat->Prop}(α:Type)(iY:List Nat)(ov:α->List (Nat × SV))(φ:α->Prop)(μ:α->Nat)(a0:α)(h0:φ a0)
 (round:∀a,φ a->body (fun e T' H' n'=>match e with
        | .normal=>Gh np n' T' H' fun T' H'=>∃a',φ a'/\μ a'<μ a/\wz n (ov a') T'/\xa n iY T T'/\sX n n H' (iE [] H)
        |e=>K e T' H' n') (N3 (ov a) (qs iY T)) (iE [] H) n)
 (hT:wz n (ov a0) T:=by(repeat'((conv=>whnf)<;>(first|exact trivial|refine⟨?_,?_⟩|kernel_rfl)));done)
 (hK:xa n iY T T:=by(repeat'((conv=>whnf)<;>(first|exact trivial|refine⟨?_,?_⟩|kernel_rfl)));done)
 (hH:sX n n H (iE [] H):=by(repeat'((conv=>whnf)<;>(first|exact trivial|refine⟨?_,?_⟩|kernel_rfl)));done):aZ RF np T H n body K:=
 aZ.mk ⟨α,iY,ov,fun _=>[],φ,μ⟩ (nu.mk a0 h0 hT hK hH round (fun _=>rfl))
theorem qJ{RF np:Nat}{T:TM}{H:HM}{n:Nat}{body:(X->TM->HM->Nat->Prop)->TM->HM->Nat->Prop}{K:X->TM->HM->Nat->Prop}(α:Type)(iY:List Nat)(ov:α->List (Nat × SV))(hv:α->List (Nat × dW))(φ:α->Prop)(μ:α->Nat)(a0:α)(h0:φ a0)
 (round:∀a,φ a->body (fun e T' H' n'=>match e with
        | .normal=>Gh np n' T' H' fun T' H'=>∃a',φ a'/\μ a'<μ a/\wz n (ov a') T'/\xa n iY T T'/\sX n n H' (iE (hv a') H)
        |e=>K e T' H' n') (N3 (ov a) (qs iY T)) (iE (hv a) H) n)
 (hT:wz n (ov a0) T:=by(repeat'((conv=>whnf)<;>(first|exact trivial|refine⟨?_,?_⟩|kernel_rfl)));done)
 (hK:xa n iY T T:=by(repeat'((conv=>whnf)<;>(first|exact trivial|refine⟨?_,?_⟩|kernel_rfl)));done)
 (hH:sX n n H (iE (hv a0) H):=by(repeat'((conv=>whnf)<;>(first|exact trivial|refine⟨?_,?_⟩|exact rfl|(simp only[au,List.map_cons,List.map_nil,List.map_set];first|done|rfl))));done)
 (hl:∀a,(hv a).all (fun p=>Nat.blt p.1 n)=true:=by intro A;first|rfl|(obtain⟨_,_⟩:=A;rfl)|(obtain⟨_,_,_⟩:=A;rfl)):aZ RF np T H n body K:=
 aZ.mk ⟨α,iY,ov,hv,φ,μ⟩ (nu.mk a0 h0 hT hK hH round hl)
theorem n7{RF np:Nat}{T:TM}{H:HM}{n:Nat}{body:(X->TM->HM->Nat->Prop)->TM->HM->Nat->Prop}{K:X->TM->HM->Nat->Prop}(α:Type)(iY:List Nat)(ov:α->List (Nat × SV))(hv:α->List (Nat × dW))(φ:α->Prop)(μ:α->Nat)(a0:α)(h0:φ a0)
 (round:∀a,φ a->body (fun e T' H' n'=>match e with
        | .normal=>Gh np n' T' H' fun T' H'=>∃a',φ a'/\μ a'<μ a/\wz n (ov a') T'/\xa n iY T T'/\sX n n H' (iE (hv a') H)
        |e=>K e T' H' n') (N3 (ov a) (qs iY T)) (iE (hv a) H) n)
 (hT:wz n (ov a0) T:=by(repeat'((conv=>whnf)<;>(first|exact trivial|refine⟨?_,?_⟩|kernel_rfl)));done)
 (hK:xa n iY T T:=by(repeat'((conv=>whnf)<;>(first|exact trivial|refine⟨?_,?_⟩|kernel_rfl)));done)
 (hH:sX n n H (iE (hv a0) H):=by(repeat'((conv=>whnf)<;>(first|exact trivial|refine⟨?_,?_⟩|kernel_rfl)));done)
 (hl:∀a,(hv a).all (fun p=>Nat.blt p.1 n)=true:=by intro A;first|rfl|(obtain⟨_,_⟩:=A;rfl)|(obtain⟨_,_,_⟩:=A;rfl)):aZ RF np T H n body K:=
 aZ.mk ⟨α,iY,ov,hv,φ,μ⟩ (nu.mk a0 h0 hT hK hH round hl)
inductive oI(k:Nat)(ks:List Nat):HM->HM->Prop
 |refl {H}:oI k ks H H
 |upd {l:List (Nat × dW)} {H' H:HM} (h:l.all (fun p=>Nat.ble k p.1||ks.contains p.1)=true) (t:oI k ks H' H):oI k ks (du l H') H
 |set {l:List (Nat × dW)} {H' H:HM} (h:l.all (fun p=>ks.contains p.1)=true) (t:oI k ks H' H):oI k ks (iE l H') H
theorem LD{k i:Nat}{ks:List Nat}(hi:i<k)(hn:ks.contains i=false):∀(l:List (Nat × dW)) (H:HM),l.all (fun p=>Nat.ble k p.1||ks.contains p.1)=true->du l H i=H i
 |[],_,_=>rfl
 |(j,b)::r,H,h=>by
  rw[List.all_cons,ab,Bool.or_eq_true]at h;rw[du,LD hi hn r _ h.2];unfold dY;cases hb:Nat.beq i j with
  |false=>rfl
  |true=>
   have e:=ae hb;subst e;rcases h.1 with h1|h1
   ·have:=Nat.le_of_ble_eq_true h1;omega
   ·rw[hn]at h1;cases h1
theorem Em{i:Nat}{ks:List Nat}(hn:ks.contains i=false):∀(l:List (Nat × dW)) (H:HM),l.all (fun p=>ks.contains p.1)=true->iE l H i=H i
 |[],_,_=>rfl
 |(j,b)::r,H,h=>by
  rw[List.all_cons,ab]at h;show cond (Nat.beq i j) b (iE r H i)=H i;cases hb:Nat.beq i j with
  |false=>exact Em hn r H h.2
  |true=>
   have e:=ae hb;subst e;rw[hn]at h;exact absurd h.1 (by simp)
theorem oI.eq{k:Nat}{ks:List Nat}{H' H:HM}(h:oI k ks H' H):∀i,i<k->ks.contains i=false->H' i=H i:=by
 induction h with
 |refl=>exact fun _ _ _=>rfl
 |upd h _ ih=>exact fun i hi hn=>(LD hi hn _ _ h).trans (ih i hi hn)
 |set h _ ih=>exact fun i hi hn=>(Em hn _ _ h).trans (ih i hi hn)
def Ew(m:Nat):Nat->HM->Bool
 |0,_=>true
 |k+1,H=>D4 m (H k)&&Ew m k H
def Vn:List Nat->HM->HM->Prop
 |[],_,_=>True
 |j::js,H',H=>GU (H' j) (H j)/\Vn js H' H
theorem GN{H' H:HM}:∀{ks:List Nat},Vn ks H' H-> ∀i,ks.contains i=true->GU (H' i) (H i)
 |[],_,i,h=>by simp at h
 |j::js,h,i,hi=>by
  rw[List.contains_cons,Bool.or_eq_true,beq_iff_eq]at hi;rcases hi with rfl|hi
  ·exact h.1
  ·exact GN h.2 i hi
theorem NJ(b:dW):GU b b:=by
 cases b<;>first|exact trivial|exact rfl
theorem KW{m:Nat}{H' H:HM}:∀{k:Nat},(∀i,i<k->GU (H' i) (H i))->Ew m k H=true->sX m k H' H
 |0,_,_=>trivial
 |k+1,g,h=>by
  unfold Ew at h;rw[ab]at h;exact⟨⟨g k (by omega),h.1⟩,KW (fun i hi=>g i (by omega)) h.2⟩
theorem Rw(l:List (Nat × dW)):l.all (fun p=>(l.map fun q=>q.1).contains p.1)=true:=by
 rw[aj];intro p hp;rw[List.contains_iff_mem];exact List.mem_map.2 ⟨p,hp,rfl⟩
theorem OC{m:Nat}{H' H:HM}{l:List (Nat × dW)}(h:oI m (l.map fun q=>q.1) H' H)(hk:Vn (l.map fun q=>q.1) H' (iE l H))(hb:Ew m m (iE l H)=true):sX m m H' (iE l H):=
 KW (fun i hi=>by
  cases hn:(l.map fun q=>q.1).contains i with
  |true=>exact GN hk i hn
  |false=>
   rw[h.eq i hi hn,Em hn _ _ (Rw l)];exact NJ _) hb
theorem nx{np n:Nat}{T:TM}{H:HM}{α:Type}{φ M:α->Prop}{C1:TM->α->Prop}{C2:TM->Prop}{C3:HM->α->Prop}(a:α)(h:φ a)(h1:M a:=by first|(show _<_;simp only[];omega)|omega|(simp;omega))
 (h2:C1 T a:=by(repeat'((conv=>whnf)<;>(first|exact trivial|refine⟨?_,?_⟩|kernel_rfl)));done)(h3:C2 T:=by(repeat'((conv=>whnf)<;>(first|exact trivial|refine⟨?_,?_⟩|kernel_rfl)));done)
 (h4:C3 H a:=by first|(refine OC ?_ ?_ ?_;(focus ((repeat (first|((with_reducible refine oI.upd ?_ ?_);(focus (exact rfl)))|((with_reducible refine oI.set ?_ ?_);(focus (exact rfl));try with_reducible exact oI.refl)));done));(focus ((repeat'((conv=>whnf)<;>(first|exact trivial|refine⟨?_,?_⟩|exact rfl|(simp only[au,List.map_cons,List.map_nil,List.map_set];first|done|rfl))));done));kernel_rfl)|((repeat'((conv=>whnf)<;>(first|exact trivial|refine⟨?_,?_⟩|exact rfl|(simp only[au,List.map_cons,List.map_nil,List.map_set];first|done|rfl))));done)):
 Gh np n T H (fun T' H'=>∃a',φ a'/\M a'/\C1 T' a'/\C2 T'/\C3 H' a'):=Gh.go ⟨a,h,h1,h2,h3,h4⟩
theorem tD{np n:Nat}{T:TM}{H:HM}{α:Type}{φ M:α->Prop}{C1:TM->α->Prop}{C2:TM->Prop}{C3:HM->α->Prop}(a:α)(h:φ a)(h1:M a:=by first|(show _<_;simp only[];omega)|omega|(simp;omega))
 (h2:C1 T a:=by(repeat'((conv=>whnf)<;>(first|exact trivial|refine⟨?_,?_⟩|kernel_rfl)));done)(h3:C2 T:=by(repeat'((conv=>whnf)<;>(first|exact trivial|refine⟨?_,?_⟩|kernel_rfl)));done)
 (h4:C3 H a:=by first|(refine OC ?_ ?_ ?_;(focus ((repeat (first|((with_reducible refine oI.upd ?_ ?_);(focus (exact rfl)))|((with_reducible refine oI.set ?_ ?_);(focus (exact rfl));try with_reducible exact oI.refl)));done));(focus ((repeat'((conv=>whnf)<;>(first|exact trivial|refine⟨?_,?_⟩|kernel_rfl)));done));kernel_rfl)|((repeat'((conv=>whnf)<;>(first|exact trivial|refine⟨?_,?_⟩|kernel_rfl)));done)):
 Gh np n T H (fun T' H'=>∃a',φ a'/\M a'/\C1 T' a'/\C2 T'/\C3 H' a'):=Gh.go ⟨a,h,h1,h2,h3,h4⟩
theorem cF{P:Program}{tbl:TT}{f:Nat}{fn:Func}{c:Code}{args ss:List SV}{r:SV}{bs:List (Nat × dW)}{np:Nat}(hf:P.funcs[f]? =some fn)(gh:Nat->Bool:=fun _=>false)
 (h:wQ (vU ss bs) 0 fun pm=>E5 P tbl fn.ntmps pm (fun _=>none) gh c (Yo tbl fn.results.toList r) (T0 ss) (H0 bs) np)
 (jN:(fn.name== "runtime.NumGoroutine")=false:=by exact rfl)(hb:fn.body=some c:=by exact rfl)(hn:Nat.ble args.length fn.ntmps=true:=by exact rfl)(ha:gD args 0=some (ss,bs,np):=by exact rfl)
 (dC:en P tbl:=by exact dC)(iW:P.follows .mixedOrders=true:=by exact hm):aS P f args r:=eh dC iW hf jN hb hn ha h
theorem cX{P:Program}{tbl:TT}{f:Nat}{fn:Func}{c:Code}{args ss:List SV}{outs:List (Option (List CV))}{r:SV}{bs:List (Nat × dW)}{np:Nat}(hf:P.funcs[f]? =some fn)(gh:Nat->Bool:=fun _=>false)
 (h:wQ (vU ss bs) 0 fun pm=>E5 P tbl fn.ntmps pm (fun _=>none) gh c (I9 tbl fn.results.toList (H0 bs) ss outs r) (T0 ss) (H0 bs) np)
 (jN:(fn.name== "runtime.NumGoroutine")=false:=by exact rfl)(hb:fn.body=some c:=by exact rfl)(hn:Nat.ble args.length fn.ntmps=true:=by exact rfl)(ha:gD args 0=some (ss,bs,np):=by exact rfl)
 (dC:en P tbl:=by exact dC)(iW:P.follows .mixedOrders=true:=by exact hm):aE P f args outs r:=G2 dC iW hf jN hb hn ha h
theorem Oa{P:Program}{tbl:TT}{f:Nat}{fn:Func}{c:Code}{args ss:List SV}{outs:List (Option (List CV))}{r:SV}{bs:List (Nat × dW)}{np:Nat}(hf:P.funcs[f]? =some fn)(gh:Nat->Bool:=fun _=>false)
 (h:wQ (vU ss bs) 0 fun pm=>E5 P tbl fn.ntmps pm (fun _=>none) gh c (QU tbl fn.results.toList (H0 bs) ss outs r pm) (T0 ss) (H0 bs) np)
 (jN:(fn.name== "runtime.NumGoroutine")=false:=by exact rfl)(hb:fn.body=some c:=by exact rfl)(hn:Nat.ble args.length fn.ntmps=true:=by exact rfl)(ha:gD args 0=some (ss,bs,np):=by exact rfl)
 (dC:en P tbl:=by exact dC)(iW:P.follows .mixedOrders=true:=by exact hm):aE P f args outs r:=EF dC iW hf jN hb hn ha h
theorem WH{P:Program}{tbl:TT}{f:Nat}{fn:Func}{c:Code}{args ss:List SV}{α:Type}{φ:α->Prop}{outs:α->List (Option (List CV))}{r:α->SV}{bs:List (Nat × dW)}{np:Nat}(hf:P.funcs[f]? =some fn)(gh:Nat->Bool:=fun _=>false)
 (h:wQ (vU ss bs) 0 fun pm=>E5 P tbl fn.ntmps pm (fun _=>none) gh c (Vb tbl fn.results.toList (H0 bs) ss φ outs r pm) (T0 ss) (H0 bs) np)
 (jN:(fn.name== "runtime.NumGoroutine")=false:=by exact rfl)(hb:fn.body=some c:=by exact rfl)(hn:Nat.ble args.length fn.ntmps=true:=by exact rfl)(ha:gD args 0=some (ss,bs,np):=by exact rfl)
 (dC:en P tbl:=by exact dC)(iW:P.follows .mixedOrders=true:=by exact hm):gW P f args φ outs r:=HW dC iW hf jN hb hn ha h
end Go.KA
