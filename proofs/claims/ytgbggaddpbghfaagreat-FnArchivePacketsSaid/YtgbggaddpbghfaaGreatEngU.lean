/- Part of a proof engine for functions of the given program: what an operation, a loop and a call compute, symbolically. No conditions. -/
import Derived.Test.YtgbggaddpbghfaaGreatEngY
namespace Go.KA
open Go
section
variable{A B:Prop}
theorem bA{p:Prop}{_i:Decidable p}(t:p→A)(f:¬p→B):bd (decide p) A B:=bd.mk (fun h=>t (of_decide_eq_true h)) (fun h=>f (of_decide_eq_false h))
theorem bB{a b:Int}(t:a=b→A)(f:¬a=b→B):bd (a==b) A B:=bd.mk (fun h=>t (by simpa using h)) (fun h=>f (by simpa using h))
theorem bC{a b:Int}(t:¬a=b→A)(f:a=b→B):bd (a != b) A B:=bd.mk (fun h=>t (by simpa using h)) (fun h=>f (by simpa using h))
theorem bD{p:Prop}{_i:Decidable p}(t:¬p→A)(f:p→B):bd (!(decide p)) A B:=bd.mk (fun h=>t (by simpa using h)) (fun h=>f (by simpa using h))
theorem bE{b:Bool}(t:b=false→A)(f:b=true→B):bd (!b) A B:=bd.mk (fun h=>t (by simpa using h)) (fun h=>f (by simpa using h))
theorem bF{b:Bool}(t:b=true→A)(f:b=false→B):bd b A B:=bd.mk t f
end
theorem nB{b:Bool}{K:Prop}(k:K)(h:b=true:=by first|kernel_rfl|rfl):aV (b=true) K:=⟨h,k⟩
theorem nO{p K:Prop}(k:K)(h:p:=by first|omega|(simp only[List.length_map];omega)):aV p K:=⟨h,k⟩
theorem aR{i:IntKind}{z:Int}{K:Int→Prop}(k:K z)(h:i.wrap z=z:=by first|exact aP (by first|omega|(simp only[List.length_map];omega)) (by first|omega|(simp only[List.length_map];omega))|decide):Arith i z K:= .fit h k
theorem Jt{α:Type}{f:α→List CV}{l:List α}{i:Nat}(h:i<l.length):(l.map f)[i]? =some (f l[i]):=by
 rw[List.getElem?_map,List.getElem?_eq_getElem h]
 rfl
theorem iX{α:Type}{f:α→List CV}{l:List α}{i:Nat}{K:List CV→Prop}(h:i<l.length:=by omega)(k:K (f l[i])):Index (l.map f) i K:=⟨_,Jt h,k⟩
section
variable{d:Bool}{P:Program}{f:Nat}{args:List SV}{H:HM}{n:Nat}{K:gI→Prop}{args':List SV}{r:SV}{E:gI}
theorem cP(hv:rE H [] args=some args')(h:ah P f args' [] r)(k:K E)(hs:(dT [] args||Gj r)=true:=by exact rfl)(he:gC H [] args [] r n=some E:=by exact rfl):aa (d:=d) P f args H n K:= .pure _ _ hv h hs _ he k
theorem cG(md:List Bool){outs:List (Option (List CV))}(hv:rE H md args=some args')(h:ah P f args' outs r)(k:K E)(hn:fH (eT H md args)=true:=by exact rfl)(hc:dT md args=true:=by exact rfl)(he:gC H md args outs r n=some E:=by exact rfl):aa (d:=d) P f args H n K:=
 .gen md _ _ _ hv h hn hc _ he k
end
theorem lp{reg np:Nat}{T:TM}{H:HM}{n:Nat}{body:(X→TM→HM→Nat→Prop)→TM→HM→Nat→Prop}{K:X→TM→HM→Nat→Prop}(α:Type)(gM:List Nat)(ov:α→List (Nat × SV))(φ:α→Prop)(μ:α→Nat)(a0:α)(h0:φ a0)
 (round:∀a,φ a→body (fun e T' H' n'=>match e with
        | .normal=>Gh np n' T' H' fun T' H'=>∃a',φ a'∧μ a'<μ a∧tC n (ov a') T'∧uw n gM T T'∧sX n n H' (iK [] H)
        |e=>K e T' H' n') (I9 (ov a) (ox gM T)) (iK [] H) n)
 (hT:tC n (ov a0) T:=by(repeat'((conv=>whnf)<;>(first|exact trivial|refine⟨?_, ?_⟩|kernel_rfl)));done)
 (hK:uw n gM T T:=by(repeat'((conv=>whnf)<;>(first|exact trivial|refine⟨?_, ?_⟩|kernel_rfl)));done)
 (hH:sX n n H (iK [] H):=by(repeat'((conv=>whnf)<;>(first|exact trivial|refine⟨?_, ?_⟩|exact rfl|(simp only[List.map_append,List.map_cons,List.map_nil,List.map_set];first|done|rfl))));done):aK reg np T H n body K:=
 aK.mk ⟨α,gM,ov,fun _=>[],φ,μ⟩ (lQ.mk a0 h0 hT hK hH round (fun _=>rfl))
theorem QI{reg np:Nat}{T:TM}{H:HM}{n:Nat}{body:(X→TM→HM→Nat→Prop)→TM→HM→Nat→Prop}{K:X→TM→HM→Nat→Prop}(α:Type)(gM:List Nat)(ov:α→List (Nat × SV))(φ:α→Prop)(μ:α→Nat)(a0:α)(h0:φ a0)
 (round:∀a,φ a→body (fun e T' H' n'=>match e with
        | .normal=>Gh np n' T' H' fun T' H'=>∃a',φ a'∧μ a'<μ a∧tC n (ov a') T'∧uw n gM T T'∧sX n n H' (iK [] H)
        |e=>K e T' H' n') (I9 (ov a) (ox gM T)) (iK [] H) n)
 (hT:tC n (ov a0) T:=by(repeat'((conv=>whnf)<;>(first|exact trivial|refine⟨?_, ?_⟩|kernel_rfl)));done)
 (hK:uw n gM T T:=by(repeat'((conv=>whnf)<;>(first|exact trivial|refine⟨?_, ?_⟩|kernel_rfl)));done)
 (hH:sX n n H (iK [] H):=by(repeat'((conv=>whnf)<;>(first|exact trivial|refine⟨?_, ?_⟩|kernel_rfl)));done):aK reg np T H n body K:=
 aK.mk ⟨α,gM,ov,fun _=>[],φ,μ⟩ (lQ.mk a0 h0 hT hK hH round (fun _=>rfl))
theorem sM{reg np:Nat}{T:TM}{H:HM}{n:Nat}{body:(X→TM→HM→Nat→Prop)→TM→HM→Nat→Prop}{K:X→TM→HM→Nat→Prop}(α:Type)(gM:List Nat)(ov:α→List (Nat × SV))(hv:α→List (Nat × dE))(φ:α→Prop)(μ:α→Nat)(a0:α)(h0:φ a0)
 (round:∀a,φ a→body (fun e T' H' n'=>match e with
        | .normal=>Gh np n' T' H' fun T' H'=>∃a',φ a'∧μ a'<μ a∧tC n (ov a') T'∧uw n gM T T'∧sX n n H' (iK (hv a') H)
        |e=>K e T' H' n') (I9 (ov a) (ox gM T)) (iK (hv a) H) n)
 (hT:tC n (ov a0) T:=by(repeat'((conv=>whnf)<;>(first|exact trivial|refine⟨?_, ?_⟩|kernel_rfl)));done)
 (hK:uw n gM T T:=by(repeat'((conv=>whnf)<;>(first|exact trivial|refine⟨?_, ?_⟩|kernel_rfl)));done)
 (hH:sX n n H (iK (hv a0) H):=by(repeat'((conv=>whnf)<;>(first|exact trivial|refine⟨?_, ?_⟩|exact rfl|(simp only[List.map_append,List.map_cons,List.map_nil,List.map_set];first|done|rfl))));done)
 (hl:∀a,(hv a).all (fun p=>Nat.blt p.1 n)=true:=by intro A;first|rfl|(obtain⟨_,_⟩:=A;rfl)|(obtain⟨_,_,_⟩:=A;rfl)):aK reg np T H n body K:=
 aK.mk ⟨α,gM,ov,hv,φ,μ⟩ (lQ.mk a0 h0 hT hK hH round hl)
theorem l8{reg np:Nat}{T:TM}{H:HM}{n:Nat}{body:(X→TM→HM→Nat→Prop)→TM→HM→Nat→Prop}{K:X→TM→HM→Nat→Prop}(α:Type)(gM:List Nat)(ov:α→List (Nat × SV))(hv:α→List (Nat × dE))(φ:α→Prop)(μ:α→Nat)(a0:α)(h0:φ a0)
 (round:∀a,φ a→body (fun e T' H' n'=>match e with
        | .normal=>Gh np n' T' H' fun T' H'=>∃a',φ a'∧μ a'<μ a∧tC n (ov a') T'∧uw n gM T T'∧sX n n H' (iK (hv a') H)
        |e=>K e T' H' n') (I9 (ov a) (ox gM T)) (iK (hv a) H) n)
 (hT:tC n (ov a0) T:=by(repeat'((conv=>whnf)<;>(first|exact trivial|refine⟨?_, ?_⟩|kernel_rfl)));done)
 (hK:uw n gM T T:=by(repeat'((conv=>whnf)<;>(first|exact trivial|refine⟨?_, ?_⟩|kernel_rfl)));done)
 (hH:sX n n H (iK (hv a0) H):=by(repeat'((conv=>whnf)<;>(first|exact trivial|refine⟨?_, ?_⟩|kernel_rfl)));done)
 (hl:∀a,(hv a).all (fun p=>Nat.blt p.1 n)=true:=by intro A;first|rfl|(obtain⟨_,_⟩:=A;rfl)|(obtain⟨_,_,_⟩:=A;rfl)):aK reg np T H n body K:=
 aK.mk ⟨α,gM,ov,hv,φ,μ⟩ (lQ.mk a0 h0 hT hK hH round hl)
theorem nx{np n:Nat}{T:TM}{H:HM}{α:Type}{φ M:α→Prop}{C1:TM→α→Prop}{C2:TM→Prop}{C3:HM→α→Prop}(a:α)(h:φ a)(h1:M a:=by first|(show _<_;simp only[];omega)|omega|(simp;omega))
 (h2:C1 T a:=by(repeat'((conv=>whnf)<;>(first|exact trivial|refine⟨?_, ?_⟩|kernel_rfl)));done)(h3:C2 T:=by(repeat'((conv=>whnf)<;>(first|exact trivial|refine⟨?_, ?_⟩|kernel_rfl)));done)
 (h4:C3 H a:=by(repeat'((conv=>whnf)<;>(first|exact trivial|refine⟨?_, ?_⟩|exact rfl|(simp only[List.map_append,List.map_cons,List.map_nil,List.map_set];first|done|rfl))));done):
 Gh np n T H (fun T' H'=>∃a',φ a'∧M a'∧C1 T' a'∧C2 T'∧C3 H' a'):=Gh.go ⟨a,h,h1,h2,h3,h4⟩
theorem rL{np n:Nat}{T:TM}{H:HM}{α:Type}{φ M:α→Prop}{C1:TM→α→Prop}{C2:TM→Prop}{C3:HM→α→Prop}(a:α)(h:φ a)(h1:M a:=by first|(show _<_;simp only[];omega)|omega|(simp;omega))
 (h2:C1 T a:=by(repeat'((conv=>whnf)<;>(first|exact trivial|refine⟨?_, ?_⟩|kernel_rfl)));done)(h3:C2 T:=by(repeat'((conv=>whnf)<;>(first|exact trivial|refine⟨?_, ?_⟩|kernel_rfl)));done)
 (h4:C3 H a:=by(repeat'((conv=>whnf)<;>(first|exact trivial|refine⟨?_, ?_⟩|kernel_rfl)));done):
 Gh np n T H (fun T' H'=>∃a',φ a'∧M a'∧C1 T' a'∧C2 T'∧C3 H' a'):=Gh.go ⟨a,h,h1,h2,h3,h4⟩
theorem cF{P:Program}{tbl:TT}{f:Nat}{fn:Func}{c:Code}{args ss:List SV}{r:SV}{bs:List (Nat × dE)}{np:Nat}(hf:P.funcs[f]? =some fn)(gh:Nat→Bool:=fun _=>false)
 (h:ud (sZ ss bs) 0 fun pm=>BB P tbl fn.ntmps pm (fun _=>none) gh c (P4 tbl fn.results.toList r) (T0 ss) (H0 bs) np)
 (hname:(fn.name== "runtime.NumGoroutine")=false:=by exact rfl)(hb:fn.body=some c:=by exact rfl)(hn:Nat.ble args.length fn.ntmps=true:=by exact rfl)(ha:fC args 0=some (ss,bs,np):=by exact rfl)
 (da:dM P tbl:=by exact da)(hmix:P.follows .mixedOrders=true:=by exact hm):aD P f args r:=dF da hmix hf hname hb hn ha h
theorem cX{P:Program}{tbl:TT}{f:Nat}{fn:Func}{c:Code}{args ss:List SV}{outs:List (Option (List CV))}{r:SV}{bs:List (Nat × dE)}{np:Nat}(hf:P.funcs[f]? =some fn)(gh:Nat→Bool:=fun _=>false)
 (h:ud (sZ ss bs) 0 fun pm=>BB P tbl fn.ntmps pm (fun _=>none) gh c (FT tbl fn.results.toList (H0 bs) ss outs r) (T0 ss) (H0 bs) np)
 (hname:(fn.name== "runtime.NumGoroutine")=false:=by exact rfl)(hb:fn.body=some c:=by exact rfl)(hn:Nat.ble args.length fn.ntmps=true:=by exact rfl)(ha:fC args 0=some (ss,bs,np):=by exact rfl)
 (da:dM P tbl:=by exact da)(hmix:P.follows .mixedOrders=true:=by exact hm):ah P f args outs r:=CU da hmix hf hname hb hn ha h
theorem Jb{P:Program}{tbl:TT}{f:Nat}{fn:Func}{c:Code}{args ss:List SV}{outs:List (Option (List CV))}{r:SV}{bs:List (Nat × dE)}{np:Nat}(hf:P.funcs[f]? =some fn)(gh:Nat→Bool:=fun _=>false)
 (h:ud (sZ ss bs) 0 fun pm=>BB P tbl fn.ntmps pm (fun _=>none) gh c (Lk tbl fn.results.toList (H0 bs) ss outs r pm) (T0 ss) (H0 bs) np)
 (hname:(fn.name== "runtime.NumGoroutine")=false:=by exact rfl)(hb:fn.body=some c:=by exact rfl)(hn:Nat.ble args.length fn.ntmps=true:=by exact rfl)(ha:fC args 0=some (ss,bs,np):=by exact rfl)
 (da:dM P tbl:=by exact da)(hmix:P.follows .mixedOrders=true:=by exact hm):ah P f args outs r:=Bu da hmix hf hname hb hn ha h
theorem Pe{P:Program}{tbl:TT}{f:Nat}{fn:Func}{c:Code}{args ss:List SV}{α:Type}{φ:α→Prop}{outs:α→List (Option (List CV))}{r:α→SV}{bs:List (Nat × dE)}{np:Nat}(hf:P.funcs[f]? =some fn)(gh:Nat→Bool:=fun _=>false)
 (h:ud (sZ ss bs) 0 fun pm=>BB P tbl fn.ntmps pm (fun _=>none) gh c (Ob tbl fn.results.toList (H0 bs) ss φ outs r pm) (T0 ss) (H0 bs) np)
 (hname:(fn.name== "runtime.NumGoroutine")=false:=by exact rfl)(hb:fn.body=some c:=by exact rfl)(hn:Nat.ble args.length fn.ntmps=true:=by exact rfl)(ha:fC args 0=some (ss,bs,np):=by exact rfl)
 (da:dM P tbl:=by exact da)(hmix:P.follows .mixedOrders=true:=by exact hm):gJ P f args φ outs r:=Cw da hmix hf hname hb hn ha h
end Go.KA
