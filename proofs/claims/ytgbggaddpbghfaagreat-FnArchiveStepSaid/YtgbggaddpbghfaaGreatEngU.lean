/- Part of a proof engine for functions of the given program: what an operation, a loop and a call compute, symbolically. No conditions. -/
import Derived.Test.YtgbggaddpbghfaaGreatEngY
namespace Go.KA
open Go
section
variable{A B:Prop}
theorem bA{p:Prop}{_i:Decidable p}(t:p→A)(f:¬p→B):bf (decide p) A B:=bf.mk (fun h=>t (of_decide_eq_true h)) (fun h=>f (of_decide_eq_false h))
theorem bB{a b:Int}(t:a=b→A)(f:¬a=b→B):bf (a==b) A B:=bf.mk (fun h=>t (by simpa using h)) (fun h=>f (by simpa using h))
theorem bC{a b:Int}(t:¬a=b→A)(f:a=b→B):bf (a != b) A B:=bf.mk (fun h=>t (by simpa using h)) (fun h=>f (by simpa using h))
theorem bD{p:Prop}{_i:Decidable p}(t:¬p→A)(f:p→B):bf (!(decide p)) A B:=bf.mk (fun h=>t (by simpa using h)) (fun h=>f (by simpa using h))
theorem bE{b:Bool}(t:b=false→A)(f:b=true→B):bf (!b) A B:=bf.mk (fun h=>t (by simpa using h)) (fun h=>f (by simpa using h))
theorem bF{b:Bool}(t:b=true→A)(f:b=false→B):bf b A B:=bf.mk t f
end
theorem nB{b:Bool}{K:Prop}(k:K)(h:b=true:=by first|kernel_rfl|rfl):aQ (b=true) K:=⟨h,k⟩
theorem nO{p K:Prop}(k:K)(h:p:=by first|omega|(simp only[List.length_map];omega)):aQ p K:=⟨h,k⟩
theorem aR{i:IntKind}{z:Int}{K:Int→Prop}(k:K z)(h:i.wrap z=z:=by first|exact aL (by first|omega|(simp only[List.length_map];omega)) (by first|omega|(simp only[List.length_map];omega))|decide):Arith i z K:= .fit h k
theorem Kc{α:Type}{f:α→List CV}{l:List α}{i:Nat}(h:i<l.length):(l.map f)[i]? =some (f l[i]):=by
 rw[List.getElem?_map,List.getElem?_eq_getElem h]
 rfl
theorem iX{α:Type}{f:α→List CV}{l:List α}{i:Nat}{K:List CV→Prop}(h:i<l.length:=by omega)(k:K (f l[i])):Index (l.map f) i K:=⟨_,Kc h,k⟩
section
variable{d:Bool}{P:Program}{f:Nat}{args:List SV}{H:HM}{n:Nat}{K:gC→Prop}{args':List SV}{r:SV}{E:gC}
theorem cP(hv:qC H [] args=some args')(h:ai P f args' [] r)(k:K E)(hs:(dQ [] args||Gi r)=true:=by exact rfl)(he:gG H [] args [] r n=some E:=by exact rfl):aa (d:=d) P f args H n K:= .pure _ _ hv h hs _ he k
theorem cG(md:List Bool){outs:List (Option (List CV))}(hv:qC H md args=some args')(h:ai P f args' outs r)(k:K E)(hn:fD (eJ H md args)=true:=by exact rfl)(hc:dQ md args=true:=by exact rfl)(he:gG H md args outs r n=some E:=by exact rfl):aa (d:=d) P f args H n K:=
 .gen md _ _ _ hv h hn hc _ he k
end
theorem lp{reg np:Nat}{T:TM}{H:HM}{n:Nat}{body:(X→TM→HM→Nat→Prop)→TM→HM→Nat→Prop}{K:X→TM→HM→Nat→Prop}(α:Type)(gJ:List Nat)(ov:α→List (Nat × SV))(φ:α→Prop)(μ:α→Nat)(a0:α)(h0:φ a0)
 (round:∀a,φ a→body (fun e T' H' n'=>match e with
        | .normal=>Gh np n' T' H' fun T' H'=>∃a',φ a'∧μ a'<μ a∧tw n (ov a') T'∧tA n gJ T T'∧sQ n n H' (iC [] H)
        |e=>K e T' H' n') (IE (ov a) (n8 gJ T)) (iC [] H) n)
 (hT:tw n (ov a0) T:=by(repeat'((conv=>whnf)<;>(first|exact trivial|refine⟨?_, ?_⟩|kernel_rfl)));done)
 (hK:tA n gJ T T:=by(repeat'((conv=>whnf)<;>(first|exact trivial|refine⟨?_, ?_⟩|kernel_rfl)));done)
 (hH:sQ n n H (iC [] H):=by(repeat'((conv=>whnf)<;>(first|exact trivial|refine⟨?_, ?_⟩|exact rfl|(simp only[List.map_append,List.map_cons,List.map_nil,List.map_set];first|done|rfl))));done):aP reg np T H n body K:=
 aP.mk ⟨α,gJ,ov,fun _=>[],φ,μ⟩ (kO.mk a0 h0 hT hK hH round (fun _=>rfl))
theorem P8{reg np:Nat}{T:TM}{H:HM}{n:Nat}{body:(X→TM→HM→Nat→Prop)→TM→HM→Nat→Prop}{K:X→TM→HM→Nat→Prop}(α:Type)(gJ:List Nat)(ov:α→List (Nat × SV))(φ:α→Prop)(μ:α→Nat)(a0:α)(h0:φ a0)
 (round:∀a,φ a→body (fun e T' H' n'=>match e with
        | .normal=>Gh np n' T' H' fun T' H'=>∃a',φ a'∧μ a'<μ a∧tw n (ov a') T'∧tA n gJ T T'∧sQ n n H' (iC [] H)
        |e=>K e T' H' n') (IE (ov a) (n8 gJ T)) (iC [] H) n)
 (hT:tw n (ov a0) T:=by(repeat'((conv=>whnf)<;>(first|exact trivial|refine⟨?_, ?_⟩|kernel_rfl)));done)
 (hK:tA n gJ T T:=by(repeat'((conv=>whnf)<;>(first|exact trivial|refine⟨?_, ?_⟩|kernel_rfl)));done)
 (hH:sQ n n H (iC [] H):=by(repeat'((conv=>whnf)<;>(first|exact trivial|refine⟨?_, ?_⟩|kernel_rfl)));done):aP reg np T H n body K:=
 aP.mk ⟨α,gJ,ov,fun _=>[],φ,μ⟩ (kO.mk a0 h0 hT hK hH round (fun _=>rfl))
theorem tJ{reg np:Nat}{T:TM}{H:HM}{n:Nat}{body:(X→TM→HM→Nat→Prop)→TM→HM→Nat→Prop}{K:X→TM→HM→Nat→Prop}(α:Type)(gJ:List Nat)(ov:α→List (Nat × SV))(hv:α→List (Nat × dD))(φ:α→Prop)(μ:α→Nat)(a0:α)(h0:φ a0)
 (round:∀a,φ a→body (fun e T' H' n'=>match e with
        | .normal=>Gh np n' T' H' fun T' H'=>∃a',φ a'∧μ a'<μ a∧tw n (ov a') T'∧tA n gJ T T'∧sQ n n H' (iC (hv a') H)
        |e=>K e T' H' n') (IE (ov a) (n8 gJ T)) (iC (hv a) H) n)
 (hT:tw n (ov a0) T:=by(repeat'((conv=>whnf)<;>(first|exact trivial|refine⟨?_, ?_⟩|kernel_rfl)));done)
 (hK:tA n gJ T T:=by(repeat'((conv=>whnf)<;>(first|exact trivial|refine⟨?_, ?_⟩|kernel_rfl)));done)
 (hH:sQ n n H (iC (hv a0) H):=by(repeat'((conv=>whnf)<;>(first|exact trivial|refine⟨?_, ?_⟩|exact rfl|(simp only[List.map_append,List.map_cons,List.map_nil,List.map_set];first|done|rfl))));done)
 (hl:∀a,(hv a).all (fun p=>Nat.blt p.1 n)=true:=by intro A;first|rfl|(obtain⟨_,_⟩:=A;rfl)|(obtain⟨_,_,_⟩:=A;rfl)):aP reg np T H n body K:=
 aP.mk ⟨α,gJ,ov,hv,φ,μ⟩ (kO.mk a0 h0 hT hK hH round hl)
theorem lX{reg np:Nat}{T:TM}{H:HM}{n:Nat}{body:(X→TM→HM→Nat→Prop)→TM→HM→Nat→Prop}{K:X→TM→HM→Nat→Prop}(α:Type)(gJ:List Nat)(ov:α→List (Nat × SV))(hv:α→List (Nat × dD))(φ:α→Prop)(μ:α→Nat)(a0:α)(h0:φ a0)
 (round:∀a,φ a→body (fun e T' H' n'=>match e with
        | .normal=>Gh np n' T' H' fun T' H'=>∃a',φ a'∧μ a'<μ a∧tw n (ov a') T'∧tA n gJ T T'∧sQ n n H' (iC (hv a') H)
        |e=>K e T' H' n') (IE (ov a) (n8 gJ T)) (iC (hv a) H) n)
 (hT:tw n (ov a0) T:=by(repeat'((conv=>whnf)<;>(first|exact trivial|refine⟨?_, ?_⟩|kernel_rfl)));done)
 (hK:tA n gJ T T:=by(repeat'((conv=>whnf)<;>(first|exact trivial|refine⟨?_, ?_⟩|kernel_rfl)));done)
 (hH:sQ n n H (iC (hv a0) H):=by(repeat'((conv=>whnf)<;>(first|exact trivial|refine⟨?_, ?_⟩|kernel_rfl)));done)
 (hl:∀a,(hv a).all (fun p=>Nat.blt p.1 n)=true:=by intro A;first|rfl|(obtain⟨_,_⟩:=A;rfl)|(obtain⟨_,_,_⟩:=A;rfl)):aP reg np T H n body K:=
 aP.mk ⟨α,gJ,ov,hv,φ,μ⟩ (kO.mk a0 h0 hT hK hH round hl)
theorem nx{np n:Nat}{T:TM}{H:HM}{α:Type}{φ M:α→Prop}{C1:TM→α→Prop}{C2:TM→Prop}{C3:HM→α→Prop}(a:α)(h:φ a)(h1:M a:=by first|(show _<_;simp only[];omega)|omega|(simp;omega))
 (h2:C1 T a:=by(repeat'((conv=>whnf)<;>(first|exact trivial|refine⟨?_, ?_⟩|kernel_rfl)));done)(h3:C2 T:=by(repeat'((conv=>whnf)<;>(first|exact trivial|refine⟨?_, ?_⟩|kernel_rfl)));done)
 (h4:C3 H a:=by(repeat'((conv=>whnf)<;>(first|exact trivial|refine⟨?_, ?_⟩|exact rfl|(simp only[List.map_append,List.map_cons,List.map_nil,List.map_set];first|done|rfl))));done):
 Gh np n T H (fun T' H'=>∃a',φ a'∧M a'∧C1 T' a'∧C2 T'∧C3 H' a'):=Gh.go ⟨a,h,h1,h2,h3,h4⟩
theorem qJ{np n:Nat}{T:TM}{H:HM}{α:Type}{φ M:α→Prop}{C1:TM→α→Prop}{C2:TM→Prop}{C3:HM→α→Prop}(a:α)(h:φ a)(h1:M a:=by first|(show _<_;simp only[];omega)|omega|(simp;omega))
 (h2:C1 T a:=by(repeat'((conv=>whnf)<;>(first|exact trivial|refine⟨?_, ?_⟩|kernel_rfl)));done)(h3:C2 T:=by(repeat'((conv=>whnf)<;>(first|exact trivial|refine⟨?_, ?_⟩|kernel_rfl)));done)
 (h4:C3 H a:=by(repeat'((conv=>whnf)<;>(first|exact trivial|refine⟨?_, ?_⟩|kernel_rfl)));done):
 Gh np n T H (fun T' H'=>∃a',φ a'∧M a'∧C1 T' a'∧C2 T'∧C3 H' a'):=Gh.go ⟨a,h,h1,h2,h3,h4⟩
theorem cF{P:Program}{tbl:TT}{f:Nat}{fn:Func}{c:Code}{args ss:List SV}{r:SV}{bs:List (Nat × dD)}{np:Nat}(hf:P.funcs[f]? =some fn)(gh:Nat→Bool:=fun _=>false)
 (h:ta (rS ss bs) 0 fun pm=>A9 P tbl fn.ntmps pm (fun _=>none) gh c (O2 tbl fn.results.toList r) (T0 ss) (H0 bs) np)
 (hname:(fn.name== "runtime.NumGoroutine")=false:=by exact rfl)(hb:fn.body=some c:=by exact rfl)(hn:Nat.ble args.length fn.ntmps=true:=by exact rfl)(ha:fw args 0=some (ss,bs,np):=by exact rfl)
 (dd:dK P tbl:=by exact dd)(hmix:P.follows .mixedOrders=true:=by exact hm):aE P f args r:=dF dd hmix hf hname hb hn ha h
theorem cX{P:Program}{tbl:TT}{f:Nat}{fn:Func}{c:Code}{args ss:List SV}{outs:List (Option (List CV))}{r:SV}{bs:List (Nat × dD)}{np:Nat}(hf:P.funcs[f]? =some fn)(gh:Nat→Bool:=fun _=>false)
 (h:ta (rS ss bs) 0 fun pm=>A9 P tbl fn.ntmps pm (fun _=>none) gh c (FE tbl fn.results.toList (H0 bs) ss outs r) (T0 ss) (H0 bs) np)
 (hname:(fn.name== "runtime.NumGoroutine")=false:=by exact rfl)(hb:fn.body=some c:=by exact rfl)(hn:Nat.ble args.length fn.ntmps=true:=by exact rfl)(ha:fw args 0=some (ss,bs,np):=by exact rfl)
 (dd:dK P tbl:=by exact dd)(hmix:P.follows .mixedOrders=true:=by exact hm):ai P f args outs r:=B4 dd hmix hf hname hb hn ha h
theorem ID{P:Program}{tbl:TT}{f:Nat}{fn:Func}{c:Code}{args ss:List SV}{outs:List (Option (List CV))}{r:SV}{bs:List (Nat × dD)}{np:Nat}(hf:P.funcs[f]? =some fn)(gh:Nat→Bool:=fun _=>false)
 (h:ta (rS ss bs) 0 fun pm=>A9 P tbl fn.ntmps pm (fun _=>none) gh c (KE tbl fn.results.toList (H0 bs) ss outs r pm) (T0 ss) (H0 bs) np)
 (hname:(fn.name== "runtime.NumGoroutine")=false:=by exact rfl)(hb:fn.body=some c:=by exact rfl)(hn:Nat.ble args.length fn.ntmps=true:=by exact rfl)(ha:fw args 0=some (ss,bs,np):=by exact rfl)
 (dd:dK P tbl:=by exact dd)(hmix:P.follows .mixedOrders=true:=by exact hm):ai P f args outs r:=zU dd hmix hf hname hb hn ha h
theorem Ow{P:Program}{tbl:TT}{f:Nat}{fn:Func}{c:Code}{args ss:List SV}{α:Type}{φ:α→Prop}{outs:α→List (Option (List CV))}{r:α→SV}{bs:List (Nat × dD)}{np:Nat}(hf:P.funcs[f]? =some fn)(gh:Nat→Bool:=fun _=>false)
 (h:ta (rS ss bs) 0 fun pm=>A9 P tbl fn.ntmps pm (fun _=>none) gh c (N0 tbl fn.results.toList (H0 bs) ss φ outs r pm) (T0 ss) (H0 bs) np)
 (hname:(fn.name== "runtime.NumGoroutine")=false:=by exact rfl)(hb:fn.body=some c:=by exact rfl)(hn:Nat.ble args.length fn.ntmps=true:=by exact rfl)(ha:fw args 0=some (ss,bs,np):=by exact rfl)
 (dd:dK P tbl:=by exact dd)(hmix:P.follows .mixedOrders=true:=by exact hm):fU P f args φ outs r:=DK dd hmix hf hname hb hn ha h
end Go.KA
