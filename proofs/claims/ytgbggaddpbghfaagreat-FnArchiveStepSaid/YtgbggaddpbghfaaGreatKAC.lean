/- Contracts of the functions that look for numbers and notes in lists, and whether entries, notes and servers are valid. No conditions. -/
import Derived.Test.YtgbggaddpbghfaaGreatKAB
namespace Go.Proofs.YtgbggaddpbghfaaGreat
open Go Go.KA Go.Proofs
set_option maxHeartbeats 16000000
set_option maxRecDepth 100000
def nu{α:Type}(p:α→Bool):List α→Int
 |[]=> -1
 |x::xs=>if p x=true then 0 else if nu p xs<0 then-1 else nu p xs+1
theorem vy{α:Type}{p:α→Bool}:∀{l:List α} {i:Nat} (h:i<l.length),(l.take i).all (fun x=> !p x)=true→p l[i]=true→nu p l=i
 |x::xs,0,_,_,hp=>by
  simp only[List.getElem_cons_zero] at hp
  simp[nu,hp]
 |x::xs,i+1,h,hn,hp=>by
  simp only[List.take_succ_cons,List.all_cons,Bool.and_eq_true] at hn
  have hx:p x=false:=by simpa using hn.1
  have ih:=vy (l:=xs) (i:=i) (by simpa using h) hn.2 (by simpa using hp)
  simp only[nu,hx,ih]
  rw[if_neg (by simp),if_neg (by omega)]
  omega
theorem pA{α:Type}{p:α→Bool}:∀{l:List α},l.all (fun x=> !p x)=true→nu p l= -1
 |[],_=>rfl
 |x::xs,h=>by
  simp only[List.all_cons,Bool.and_eq_true] at h
  have hx:p x=false:=by simpa using h.1
  simp only[nu,hx,pA h.2]
  rfl
theorem Am{α:Type}(p:α→Bool):∀l:List α,(nu p l= -1∧∀x∈l,p x=false)∨∃(i:Nat) (h:i<l.length),nu p l=i∧p l[i]=true∧∀j (hj:j<i),p (l[j]'(Nat.lt_trans hj h))=false
 |[]=> .inl ⟨rfl,by simp⟩
 |x::xs=>by
  cases hx:p x with
  |true=>exact .inr ⟨0,by simp,by simp[nu,hx],by simpa using hx,fun j hj=>by omega⟩
  |false=>
   rcases Am p xs with⟨h1,h2⟩|⟨i,h,h1,h2,h3⟩
   ·left
    refine⟨by simp[nu,hx,h1],fun y hy=> ?_⟩
    rcases List.mem_cons.1 hy with rfl|hy
    ·exact hx
    ·exact h2 y hy
   ·right
    refine⟨i+1,by simpa using h, ?_,by simpa using h2,fun j hj=> ?_⟩
    ·simp only[nu,hx,h1]
     rw[if_neg (by simp),if_neg (by omega)]
     omega
    ·cases j with
     |zero=>simpa using hx
     |succ j=>simpa using h3 j (by omega)
theorem nN{α:Type}{p:α→Bool}{l:List α}:0≤nu p l↔∃x∈l,p x=true:=by
 rcases Am p l with⟨h1,h2⟩|⟨i,h,h1,h2,h3⟩
 ·rw[h1]
  constructor
  ·intro h;omega
  ·rintro⟨x,hx,hp⟩;rw[h2 x hx] at hp;cases hp
 ·rw[h1]
  exact⟨fun _=>⟨_,List.getElem_mem h,h2⟩,fun _=>by omega⟩
theorem EU{b:Bool}(h:b=false):(!b)=true:=by rw[h];rfl
theorem I6(l:List Int)(x:Int):aE Tryz.prog 132 [.c (.ro 1 (l.map eI)),I x] (I (nu (fun y=>x==y) l)):=by
 refine cF Tryz.func132 (h:= ?_)
 repeat'((conv=>whnf);first
  |(apply bo.mk;first|(exact congrArg I (vy (p:=fun y=>x==y) (i:=i) (by omega) ha.2 (by simpa using h)).symm;done)|(exact congrArg I (pA (p:=fun y=>x==y) (dG (by omega) ha)).symm;done)|skip)|(guard_target=~ aP 2 _ _ _ _ _ _;refine lp (Nat) [0,1,7] (fun i=>[(8,I i)]) (fun i=>i≤l.length∧(l.take i).all (fun y=> !(x==y))=true) (fun i=>l.length-i) 0 (by exact⟨Nat.zero_le _,rfl⟩) (fun i ha=> ?_))
  |refine nx (i+1:Nat) (by exact fy (by omega) ha (by simpa using h))
  |(apply Fact.mk;intro hL;try simp only[List.length_map,maxLen] at hL)
  |((first|apply bA|apply bB|apply bC|apply bD|apply bE|apply bF)<;>intro h<;>(try simp only[List.length_map] at h)<;>(try omega)<;>(try contradiction))
  |refine aR ?_|(guard_target=Index _ _ _;first|refine Index.mk _ (bz (i:=i) (by omega)) ?_)
  |refine iX (k:= ?_)
  |apply ay.no
  |refine nO ?_)
def Mn(x:Int)(l:List Int):Bool:=decide (x∈l)
theorem Mo{x:Int}{l:List Int}:decide (nu (fun y=>x==y) l≥0)=Mn x l:=by
 unfold Mn
 refine decide_eq_decide.2 (nN.trans ?_)
 simp
theorem Cb(l:List Int)(x:Int):aE Tryz.prog 107 [.c (.ro 1 (l.map eI)),I x] (B (Mn x l)):=by
 refine cF Tryz.func107 (h:= ?_)
 repeat'((conv=>whnf);first
  |(apply bo.mk;first|(rw[←Mo];rfl;done)|skip)|(guard_target=aa _ 132 _ _ _ _;refine cP rfl (I6 l x) ?_)
  |refine nO ?_)
theorem Ac(l:List Int)(a b x:Int):aE Tryz.prog 107 [.c (.ro 1 (((l.map eI).drop a.toNat).take (b.toNat-a.toNat))),I x] (B (Mn x ((l.drop a.toNat).take (b.toNat-a.toNat)))):=by
 have:=Cb ((l.drop a.toNat).take (b.toNat-a.toNat)) x
 rwa[List.map_take,List.map_drop] at this
theorem pJ{α:Type}(l:List α)(i:Nat):(l.drop (0:Int).toNat).take ((i:Int).toNat-(0:Int).toNat)=l.take i:=by simp
theorem wh{l:List Int}{i:Nat}(h:i<l.length)(hn:(l.take i).Nodup)(hm:¬l[i]∈l.take i):(l.take (i+1)).Nodup:=by
 rw[List.take_add_one,List.getElem?_eq_getElem h]
 refine List.nodup_append.2 ⟨hn,by simp,fun a ha b hb=> ?_⟩
 simp at hb
 subst hb
 rintro rfl
 exact hm ha
theorem Cw{l:List Int}{i:Nat}(h:i<l.length)(hm:l[i]∈l.take i):¬l.Nodup:=by
 intro hn
 have hd:l[i]∈l.drop i:=List.mem_iff_getElem.2 ⟨0,by simp only[List.length_drop];omega,by simp⟩
 have e:(l.take i++l.drop i).Nodup:=by rw[List.take_append_drop];exact hn
 exact(List.nodup_append.1 e).2.2 _ hm l[i] hd rfl
theorem vi(l:List Int):aE Tryz.prog 124 [.c (.ro 1 (l.map eI))] (B (decide l.Nodup)):=by
 refine cF Tryz.func124 (h:= ?_)
 repeat'((conv=>whnf);first
  |(apply bo.mk;first|(exact dU (decide_eq_false (Cw (i:=i) (by omega) (by rw[pJ] at h;exact h)));done)|(exact fE (decide_eq_true (by have:=ha.2;rwa[List.take_of_length_le (by omega)] at this));done)|skip)|(guard_target=~ aP 2 _ _ _ _ _ _;refine lp (Nat) [0,5,6] (fun i=>[(7,I i)]) (fun i=>i≤l.length∧(l.take i).Nodup) (fun i=>l.length-i) 0 (by exact⟨Nat.zero_le _,by simp⟩) (fun i ha=> ?_))
  |refine nx (i+1:Nat) (by exact⟨by show i+1≤_;omega,wh (by omega) ha.2 (by rw[pJ] at h;exact h)⟩)
  |(apply Fact.mk;intro hL;try simp only[List.length_map,maxLen] at hL)
  |((first|apply bA|apply bB|apply bC|apply bD|apply bE|apply bF)<;>intro h<;>(try simp only[List.length_map] at h)<;>(try omega)<;>(try contradiction))|(guard_target=aa _ 107 _ _ _ _;refine cP rfl (Ac l 0 i _) ?_)
  |refine aR ?_|(guard_target=Index _ _ _;first|refine Index.mk _ (bz (i:=i) (by omega)) ?_)
  |refine iX (k:= ?_)
  |apply ay.no
  |refine nO ?_)
def fe(r:Bool)(id:Int)(x:aS):Bool:=(x.bZ==r)&&(x.id==id)
def bK(l:List aS)(r:Bool)(id:Int):Int:=nu (fe r id) l
theorem IL(x:aS)(r:Bool)(id:Int):aE Tryz.prog 106 [.a 7 (bj x), .c (.rp 1 [.val (.bool r)]), .c (.rp 1 [J id])] (B (fe r id x)):=by
 refine cF Tryz.func106 (h:= ?_)
 repeat'((conv=>whnf);first
  |(apply bo.mk;first|(rfl;done)|(simp_all[fe,aN,aM];done)|(simp_all[fe,aN,aM];omega;done)|(simp_all[fe,aN,aM];intros;omega;done)|(simp_all[-List.all_eq_true, -List.all_eq_false,fe,aN,aM];done)|(simp_all[-List.all_eq_true, -List.all_eq_false,fe,aN,aM];omega;done)|skip)
  |((first|apply bA|apply bB|apply bC|apply bD|apply bE|apply bF)<;>intro h<;>(try simp only[List.length_map] at h)<;>(try omega)<;>(try contradiction))
  |refine nO ?_)
theorem yb(l:List aS)(r:Bool)(id:Int):aE Tryz.prog 105 [.c (.ro 7 (l.map bj)), .clo 106 [.c (.rp 1 [.val (.bool r)]), .c (.rp 1 [J id])]] (I (bK l r id)):=by
 refine cF Tryz.func105 (h:= ?_)
 repeat'((conv=>whnf);first
  |(apply bo.mk;first|(exact congrArg I (vy (i:=i) (by omega) ha.2 h).symm;done)|(exact congrArg I (pA (dG (by omega) ha)).symm;done)|skip)|(guard_target=~ aP 2 _ _ _ _ _ _;refine lp (Nat) [0,1,7] (fun i=>[(8,I i)]) (fun i=>i≤l.length∧(l.take i).all (fun y=> !(fe r id y))=true) (fun i=>l.length-i) 0 (by exact⟨Nat.zero_le _,rfl⟩) (fun i ha=> ?_))
  |refine nx (i+1:Nat) (by exact fy (by omega) ha (EU h))
  |(apply Fact.mk;intro hL;try simp only[List.length_map,maxLen] at hL)
  |((first|apply bA|apply bB|apply bC|apply bD|apply bE|apply bF)<;>intro h<;>(try simp only[List.length_map] at h)<;>(try omega)<;>(try contradiction))|(guard_target=aa _ 106 _ _ _ _;refine cP rfl (IL _ r id) ?_)
  |refine aR ?_|(guard_target=Index _ _ _;first|refine Index.mk _ (bz (i:=i) (by omega)) ?_)
  |refine iX (k:= ?_)
  |apply ay.no
  |refine nO ?_)
theorem sD(l:List aS)(r:Bool)(id:Int):aE Tryz.prog 59 [.c (.ro 7 (l.map bj)),B r,I id] (I (bK l r id)):=by
 refine cF Tryz.func59 (h:= ?_)
 repeat'((conv=>whnf);first
  |(apply bo.mk;first|(rfl;done)|skip)|(guard_target=aa _ 105 _ _ _ _;refine cP rfl (yb l r id) ?_)
  |refine nO ?_)
theorem gR(l:List aS)(r:Bool)(id:Int):aE Tryz.prog 60 [.c (.ro 7 (l.map bj)),B r,I id] (I (bK l r id)):=by
 refine cF Tryz.func60 (h:= ?_)
 repeat'((conv=>whnf);first
  |(apply bo.mk;first|(exact congrArg I (vy (i:=i) (by omega) ha.2 (by simp_all[fe])).symm;done)|(exact congrArg I (pA (dG (by omega) ha)).symm;done)|skip)|(guard_target=~ aP 2 _ _ _ _ _ _;refine lp (Nat) [0,1,2] (fun i=>[(7,I i)]) (fun i=>i≤l.length∧(l.take i).all (fun y=> !(fe r id y))=true) (fun i=>l.length-i) 0 (by exact⟨Nat.zero_le _,rfl⟩) (fun i ha=> ?_))
  |refine nx (i+1:Nat) (by exact fy (by omega) ha (by simp_all[fe]))
  |(apply Fact.mk;intro hL;try simp only[List.length_map,maxLen] at hL)
  |((first|apply bA|apply bB|apply bC|apply bD|apply bE|apply bF)<;>intro h<;>(try simp only[List.length_map] at h)<;>(try omega)<;>(try contradiction))
  |refine aR ?_|(guard_target=Index _ _ _;first|refine Index.mk _ (bz (i:=i) (by omega)) ?_)
  |refine iX (k:= ?_)
  |apply ay.no
  |refine nO ?_)
end Go.Proofs.YtgbggaddpbghfaaGreat
namespace Go.Proofs.YtgbggaddpbghfaaGreat
open Go Go.KA Go.Proofs
set_option maxHeartbeats 16000000
set_option maxRecDepth 100000
theorem Ky(l:List aS)(a b:Int)(r:Bool)(id:Int):aE Tryz.prog 59 [.c (.ro 7 (((l.map bj).drop a.toNat).take (b.toNat-a.toNat))),B r,I id] (I (bK ((l.drop a.toNat).take (b.toNat-a.toNat)) r id)):=by
 have:=sD ((l.drop a.toNat).take (b.toNat-a.toNat)) r id
 rwa[List.map_take,List.map_drop] at this
theorem BA(l:List aS)(a b:Int)(r:Bool)(id:Int):aE Tryz.prog 60 [.c (.ro 7 (((l.map bj).drop a.toNat).take (b.toNat-a.toNat))),B r,I id] (I (bK ((l.drop a.toNat).take (b.toNat-a.toNat)) r id)):=by
 have:=gR ((l.drop a.toNat).take (b.toNat-a.toNat)) r id
 rwa[List.map_take,List.map_drop] at this
def JV(l:List aS)(id:Int):Bool:=decide (0≤bK l false id)
def gz(l:List aS)(ids:List Int):Bool:=ids.all (JV l)
theorem FQ{l:List aS}{id:Int}(h:bK l false id<0):JV l id=false:=decide_eq_false (by omega)
theorem BW{l:List aS}{id:Int}(h:¬bK l false id<0):JV l id=true:=decide_eq_true (by omega)
theorem oN(l:List aS)(ids:List Int):aE Tryz.prog 95 [.c (.ro 7 (l.map bj)), .c (.ro 1 (ids.map eI))] (B (gz l ids)):=by
 refine cF Tryz.func95 (h:= ?_)
 repeat'((conv=>whnf);first
  |(apply bo.mk;first|(exact dU (dM (i:=i) (by omega) (FQ h));done)|(exact fE (dG (by omega) ha);done)|skip)|(guard_target=~ aP 2 _ _ _ _ _ _;refine lp (Nat) [0,7,8] (fun i=>[(9,I i)]) (fun i=>i≤ids.length∧(ids.take i).all (JV l)=true) (fun i=>ids.length-i) 0 (by exact⟨Nat.zero_le _,rfl⟩) (fun i ha=> ?_))
  |refine nx (i+1:Nat) (by exact fy (by omega) ha (BW h))
  |(apply Fact.mk;intro hL;try simp only[List.length_map,maxLen] at hL)
  |((first|apply bA|apply bB|apply bC|apply bD|apply bE|apply bF)<;>intro h<;>(try simp only[List.length_map] at h)<;>(try omega)<;>(try contradiction))|(guard_target=aa _ 59 _ _ _ _;refine cP rfl (sD l false _) ?_)
  |refine aR ?_|(guard_target=Index _ _ _;first|refine Index.mk _ (bz (i:=i) (by omega)) ?_)
  |refine iX (k:= ?_)
  |apply ay.no
  |refine nO ?_)
theorem uk(l:List aS)(ids:List Int):aE Tryz.prog 115 [.c (.ro 7 (l.map bj)), .c (.ro 1 (ids.map eI))] (B (gz l ids)):=by
 refine cF Tryz.func115 (h:= ?_)
 repeat'((conv=>whnf);first
  |(apply bo.mk;first|(exact dU (dM (i:=i) (by omega) (FQ h));done)|(exact fE (dG (by omega) ha);done)|skip)|(guard_target=~ aP 2 _ _ _ _ _ _;refine lp (Nat) [0,1] (fun i=>[(5,I i)]) (fun i=>i≤ids.length∧(ids.take i).all (JV l)=true) (fun i=>ids.length-i) 0 (by exact⟨Nat.zero_le _,rfl⟩) (fun i ha=> ?_))
  |refine nx (i+1:Nat) (by exact fy (by omega) ha (BW h))
  |(apply Fact.mk;intro hL;try simp only[List.length_map,maxLen] at hL)
  |((first|apply bA|apply bB|apply bC|apply bD|apply bE|apply bF)<;>intro h<;>(try simp only[List.length_map] at h)<;>(try omega)<;>(try contradiction))|(guard_target=aa _ 60 _ _ _ _;refine cP rfl (gR l false _) ?_)
  |refine aR ?_|(guard_target=Index _ _ _;first|refine Index.mk _ (bz (i:=i) (by omega)) ?_)
  |refine iX (k:= ?_)
  |apply ay.no
  |refine nO ?_)
theorem AT(l:List aS)(a b:Int)(ids:List Int):aE Tryz.prog 95 [.c (.ro 7 (((l.map bj).drop a.toNat).take (b.toNat-a.toNat))), .c (.ro 1 (ids.map eI))] (B (gz ((l.drop a.toNat).take (b.toNat-a.toNat)) ids)):=by
 have:=oN ((l.drop a.toNat).take (b.toNat-a.toNat)) ids
 rwa[List.map_take,List.map_drop] at this
theorem Ez(l:List aS)(a b:Int)(ids:List Int):aE Tryz.prog 115 [.c (.ro 7 (((l.map bj).drop a.toNat).take (b.toNat-a.toNat))), .c (.ro 1 (ids.map eI))] (B (gz ((l.drop a.toNat).take (b.toNat-a.toNat)) ids)):=by
 have:=uk ((l.drop a.toNat).take (b.toNat-a.toNat)) ids
 rwa[List.map_take,List.map_drop] at this
def lT(p:cE):Bool:=(p.sig.au==0&&p.sig.aq==0)&&((p.aj.length:Int)==0)
def cU(t a:Int)(bu:List Int)(p:cE):Bool:=
 decide ((bu.length:Int)≤4)&&(decide bu.Nodup&&(bu.all (dH 0 99)&&(cD p&&((p.sig.au==t&&p.sig.aq==a)&&(decide ((bu.length:Int)<p.aj.length)&&decide ((rm p:Int)≤20000))))))
theorem rF(p:cE):aE Tryz.prog 100 [.a 3 (cL p)] (B (lT p)):=by
 refine cF Tryz.func100 (h:= ?_)
 repeat'((conv=>whnf);first
  |(apply bo.mk;first|(rfl;done)|(simp_all[lT,aN,aM];done)|(simp_all[lT,aN,aM];omega;done)|(simp_all[lT,aN,aM];intros;omega;done)|(simp_all[-List.all_eq_true, -List.all_eq_false,lT,aN,aM];done)|(simp_all[-List.all_eq_true, -List.all_eq_false,lT,aN,aM];omega;done)|skip)
  |(apply Fact.mk;intro hL;try simp only[List.length_map,maxLen] at hL)
  |((first|apply bA|apply bB|apply bC|apply bD|apply bE|apply bF)<;>intro h<;>(try simp only[List.length_map] at h)<;>(try omega)<;>(try contradiction))
  |refine nO ?_)
theorem uN(p:cE):aE Tryz.prog 92 [.c (.rp 3 (cL p))] (B (lT p)):=by
 refine cF Tryz.func92 (h:= ?_)
 repeat'((conv=>whnf);first
  |(apply bo.mk;first|(rfl;done)|(simp_all[lT,aN,aM];done)|(simp_all[lT,aN,aM];omega;done)|(simp_all[lT,aN,aM];intros;omega;done)|(simp_all[-List.all_eq_true, -List.all_eq_false,lT,aN,aM];done)|(simp_all[-List.all_eq_true, -List.all_eq_false,lT,aN,aM];omega;done)|skip)
  |(apply Fact.mk;intro hL;try simp only[List.length_map,maxLen] at hL)
  |((first|apply bA|apply bB|apply bC|apply bD|apply bE|apply bF)<;>intro h<;>(try simp only[List.length_map] at h)<;>(try omega)<;>(try contradiction))
  |refine nO ?_)
theorem vS(t a:Int)(bu:List Int)(p:cE)(hl:cC p≤1048576):aE Tryz.prog 97 [.a 2 [J t,J a], .c (.ro 1 (bu.map eI)), .a 3 (cL p)] (B (cU t a bu p)):=by
 have hr:aE Tryz.prog 63 [.c (.ro 1 (bu.map eI)),I 100] (B (bu.all (dH 0 99))):=xf bu 100 (by omega)
 refine cF Tryz.func97 (h:= ?_)
 repeat'((conv=>whnf);first
  |(apply bo.mk;first|(rfl;done)|(simp_all[cU,aN,aM];done)|(simp_all[cU,aN,aM];omega;done)|(simp_all[cU,aN,aM];intros;omega;done)|(simp_all[-List.all_eq_true, -List.all_eq_false,cU,aN,aM];done)|(simp_all[-List.all_eq_true, -List.all_eq_false,cU,aN,aM];omega;done)|skip)
  |(apply Fact.mk;intro hL;try simp only[List.length_map,maxLen] at hL)
  |((first|apply bA|apply bB|apply bC|apply bD|apply bE|apply bF)<;>intro h<;>(try simp only[List.length_map] at h)<;>(try omega)<;>(try contradiction))|(guard_target=aa _ 124 _ _ _ _;refine cP rfl (vi _) ?_)|(guard_target=aa _ 63 _ _ _ _;refine cP rfl (hr) ?_)|(guard_target=aa _ 125 _ _ _ _;refine cP rfl (xX p) ?_)|(guard_target=aa _ 126 _ _ _ _;refine cP rfl (AR p hl) ?_)
  |refine nO ?_)
theorem Km(p:cE):(zH p.aj 20000<0↔¬(rm p:Int)≤20000):=by
 obtain⟨k,h⟩:=M3 p.aj
 have:=h.iff 20000
 simp only[rm]
 omega
theorem uG(t a:Int)(bu:List Int)(p:cE)(hl:cC p≤1048576):aE Tryz.prog 91 [.a 2 [J t,J a], .c (.ro 1 (bu.map eI)), .c (.rp 3 (cL p))] (B (cU t a bu p)):=by
 have hz:=Km p
 refine cF Tryz.func91 (h:= ?_)
 repeat'((conv=>whnf);first
  |(apply bo.mk;first|(rfl;done)|(simp_all[cU,aN,aM];done)|(simp_all[cU,aN,aM];omega;done)|(simp_all[cU,aN,aM];intros;omega;done)|(simp_all[-List.all_eq_true, -List.all_eq_false,cU,aN,aM];done)|(simp_all[-List.all_eq_true, -List.all_eq_false,cU,aN,aM];omega;done)|((refine dU ?_;have h9:=dM (p:=dH 0 99) (i:=i) (by omega) h;simp_all[-List.all_eq_true, -List.all_eq_false,cU];done);done)|((refine dU ?_;have h9:¬bu.Nodup:=Cw (i:=i) (by omega) (List.mem_iff_getElem.2 ⟨k,by rw[List.length_take];omega,by rw[List.getElem_take];exact h⟩);unfold cU;rw[decide_eq_false h9];simp);done)|((refine fE ?_;have h7:=ha.2.1;have h8:=ha.2.2;rw[List.take_of_length_le (by omega)] at h7 h8;unfold cU;rw[h7,decide_eq_true h8,decide_eq_true (show(bu.length:Int)≤4 by omega),‹cD p=true›,decide_eq_true (show(bu.length:Int)<p.aj.length by omega),decide_eq_true (show(rm p:Int)≤20000 by omega)];simp_all);done)|skip)|(guard_target=~ aP 4 _ _ _ _ _ _;refine lp (Nat) [1] (fun i=>[(7,I i)]) (fun i=>i≤bu.length∧(bu.take i).all (dH 0 99)=true∧(bu.take i).Nodup) (fun i=>bu.length-i) 0 (by exact⟨Nat.zero_le _,rfl,by simp⟩) (fun i ha=> ?_))|(guard_target=~ aP 9 _ _ _ _ _ _;refine lp (Nat) [1,7] (fun k=>[(8,I k)]) (fun k=>k≤i∧∀j (hj:j<bu.length),j<k→∀hi:i<bu.length,¬bu[j]=bu[i]) (fun k=>i-k) 0 (by exact⟨Nat.zero_le _,fun j _ hj=>by omega⟩) (fun k ha=> ?_))
  |refine nx (k+1:Nat) (by exact⟨by show k+1≤_;omega,fun j hj hjk hi=>by rcases Nat.lt_succ_iff_lt_or_eq.1 hjk with hjk|rfl;exact ha.2 j hj hjk hi;exact h⟩)
  |refine nx (i+1:Nat) (by(have h8:=‹i≤bu.length∧(bu.take i).all (dH 0 99)=true∧(bu.take i).Nodup›;have hi:i<bu.length:=(by omega);exact⟨hi,ke hi h8.2.1 ‹dH 0 99 bu[i]=true›,wh hi h8.2.2 (fun hm=>by obtain⟨j,hj,e⟩:=List.mem_iff_getElem.1 hm;rw[List.length_take] at hj;rw[List.getElem_take] at e;exact ha.2 j (by omega) (by omega) hi e)⟩))
  |(apply Fact.mk;intro hL;try simp only[List.length_map,maxLen] at hL)
  |((first|apply bA|apply bB|apply bC|apply bD|apply bE|apply bF)<;>intro h<;>(try simp only[List.length_map] at h)<;>(try omega)<;>(try contradiction))|(guard_target=aa _ 116 _ _ _ _;refine cP rfl (Kx p hl) ?_)|(guard_target=aa _ 117 _ _ _ _;refine cP rfl (EX p hl 20000 (by omega) (by omega)) ?_)|(guard_target=aa _ 86 _ _ _ _;refine cP rfl (dE _ _ _) ?_)
  |refine aR ?_|(guard_target=Index _ _ _;first|refine Index.mk _ (bz (i:=i) (by omega)) ?_|refine Index.mk _ (bz (i:=k) (by omega)) ?_)
  |refine iX (k:= ?_)
  |refine nB ?_
  |apply ay.no
  |apply cj.go
  |refine nO ?_)
end Go.Proofs.YtgbggaddpbghfaaGreat
namespace Go.Proofs.YtgbggaddpbghfaaGreat
open Go Go.KA Go.Proofs
set_option maxHeartbeats 16000000
set_option maxRecDepth 100000
def oe(e:dB):Bool:=(e.id==0)&&(((e.bu.length:Int)==0)&&lT e.proof)
theorem vq(e:dB):aE Tryz.prog 96 [.a 5 (ki e)] (B (oe e)):=by
 refine cF Tryz.func96 (h:= ?_)
 repeat'((conv=>whnf);first
  |(apply bo.mk;first|(rfl;done)|(simp_all[oe,aN,aM];done)|(simp_all[oe,aN,aM];omega;done)|(simp_all[oe,aN,aM];intros;omega;done)|(simp_all[-List.all_eq_true, -List.all_eq_false,oe,aN,aM];done)|(simp_all[-List.all_eq_true, -List.all_eq_false,oe,aN,aM];omega;done)|skip)
  |(apply Fact.mk;intro hL;try simp only[List.length_map,maxLen] at hL)
  |((first|apply bA|apply bB|apply bC|apply bD|apply bE|apply bF)<;>intro h<;>(try simp only[List.length_map] at h)<;>(try omega)<;>(try contradiction))|(guard_target=aa _ 100 _ _ _ _;refine cP rfl (rF e.proof) ?_)
  |refine nO ?_)
def bI(t a:Int)(n:aS):Bool:=dH 0 99 n.id&&(if n.bZ=true then oe n.entry else(n.entry.id==n.id)&&cU t a n.entry.bu n.entry.proof)
theorem yj(t a:Int)(n:aS)(hl:bG n≤1048576):aE Tryz.prog 47 [.a 2 [J t,J a], .a 7 (bj n)] (B (bI t a n)):=by
 have hp:cC n.entry.proof≤1048576:=by simp only[bG,nq] at hl;omega
 refine cF Tryz.func47 (h:= ?_)
 repeat'((conv=>whnf);first
  |(apply bo.mk;first|(rfl;done)|(simp_all[bI,aN,aM];done)|(simp_all[bI,aN,aM];omega;done)|(simp_all[bI,aN,aM];intros;omega;done)|(simp_all[-List.all_eq_true, -List.all_eq_false,bI,aN,aM];done)|(simp_all[-List.all_eq_true, -List.all_eq_false,bI,aN,aM];omega;done)|skip)
  |((first|apply bA|apply bB|apply bC|apply bD|apply bE|apply bF)<;>intro h<;>(try simp only[List.length_map] at h)<;>(try omega)<;>(try contradiction))|(guard_target=aa _ 45 _ _ _ _;refine cP rfl (eU _ _ _) ?_)|(guard_target=aa _ 96 _ _ _ _;refine cP rfl (vq n.entry) ?_)|(guard_target=aa _ 97 _ _ _ _;refine cP rfl (vS t a n.entry.bu n.entry.proof hp) ?_)
  |refine nO ?_)
theorem xD(t a:Int)(n:aS)(hl:bG n≤1048576):aE Tryz.prog 88 [.a 2 [J t,J a], .c (.rp 7 (bj n))] (B (bI t a n)):=by
 have hp:cC n.entry.proof≤1048576:=by simp only[bG,nq] at hl;omega
 refine cF Tryz.func88 (h:= ?_)
 repeat'((conv=>whnf);first
  |(apply bo.mk;first|(rfl;done)|(simp_all[bI,aN,aM];done)|(simp_all[bI,aN,aM];omega;done)|(simp_all[bI,aN,aM];intros;omega;done)|(simp_all[-List.all_eq_true, -List.all_eq_false,bI,aN,aM];done)|(simp_all[-List.all_eq_true, -List.all_eq_false,bI,aN,aM];omega;done)|(rfl;done)|(simp_all[bI,oe,aN,aM];done)|(simp_all[bI,oe,aN,aM];omega;done)|(simp_all[bI,oe,aN,aM];intros;omega;done)|(simp_all[-List.all_eq_true, -List.all_eq_false,bI,oe,aN,aM];done)|(simp_all[-List.all_eq_true, -List.all_eq_false,bI,oe,aN,aM];omega;done)|skip)
  |(apply Fact.mk;intro hL;try simp only[List.length_map,maxLen] at hL)
  |((first|apply bA|apply bB|apply bC|apply bD|apply bE|apply bF)<;>intro h<;>(try simp only[List.length_map] at h)<;>(try omega)<;>(try contradiction))|(guard_target=aa _ 86 _ _ _ _;refine cP rfl (dE _ _ _) ?_)|(guard_target=aa _ 92 _ _ _ _;refine cP rfl (uN n.entry.proof) ?_)|(guard_target=aa _ 91 _ _ _ _;refine cP rfl (uG t a n.entry.bu n.entry.proof hp) ?_)
  |refine nB ?_
  |apply cj.go
  |refine nO ?_)
abbrev n0:aS:=⟨false,0,⟨0,[],⟨⟨0,0⟩,[]⟩⟩⟩
def fx(t a:Int)(l:List aS)(i:Nat):Bool:=bI t a (l.getD i n0)&&(decide (bK (l.take i) (l.getD i n0).bZ (l.getD i n0).id<0)&&gz (l.take i) (l.getD i n0).entry.bu)
def l3(n:Nat)(p:Nat→Bool):Bool:=(List.range n).all p
theorem pE{n:Nat}{p:Nat→Bool}(h:l3 n p=true)(hp:p n=true):l3 (n+1) p=true:=by
 unfold l3 at h⊢
 rw[List.range_succ,List.all_append,h]
 simp[hp]
theorem zI{n i:Nat}{p:Nat→Bool}(hi:i<n)(hp:p i=false):l3 n p=false:=by
 unfold l3
 rw[List.all_eq_false]
 exact⟨i,by simp[hi],by simp[hp]⟩
theorem Cc{n i:Nat}{p:Nat→Bool}(h:l3 n p=true)(hi:i<n):p i=true:=by
 unfold l3 at h
 rw[List.all_eq_true] at h
 exact h i (by simp[hi])
def dW(t a:Int)(l:List aS):Bool:=l3 l.length (fx t a l)
def bN(t a:Int)(s:aT):Bool:=
 decide ((s.notes.length:Int)≤20)&&(dH 0 s.notes.length s.saved&&((s.up||s.saved==s.notes.length)&&dW t a s.notes))
theorem y8{t a:Int}{s:aT}{i:Nat}(hi:i<s.notes.length)(h:fx t a s.notes i=false):bN t a s=false:=by
 unfold bN dW
 rw[zI hi h]
 simp
theorem yA{t a:Int}{l:List aS}{i:Nat}(h:¬(bI t a (l.getD i n0)=true∧bK (l.take i) (l.getD i n0).bZ (l.getD i n0).id<0∧gz (l.take i) (l.getD i n0).entry.bu=true)):fx t a l i=false:=by
 cases hb:fx t a l i with
 |false=>rfl
 |true=>
  unfold fx at hb
  simp only[Bool.and_eq_true,decide_eq_true_eq] at hb
  exact absurd hb h
theorem w9{t a:Int}{l:List aS}{i:Nat}(h1:bI t a (l.getD i n0)=true)(h2:¬bK (l.take i) (l.getD i n0).bZ (l.getD i n0).id≥0)(h3:gz (l.take i) (l.getD i n0).entry.bu=true):fx t a l i=true:=by
 unfold fx
 rw[h1,h3,decide_eq_true (by omega)]
 rfl
theorem CG(t a:Int)(s:aT)(hl:cZ s≤1048576):aE Tryz.prog 46 [.a 2 [J t,J a], .a 3 (dt s)] (B (bN t a s)):=by
 have hn:∀i,i<s.notes.length→bG (s.notes.getD i n0)≤1048576:=fun i h=>by
  rw[getD_eq h]
  have:=cY bG (List.getElem_mem h)
  simp only[cZ] at hl
  omega
 refine cF Tryz.func46 (h:= ?_)
 repeat'((conv=>whnf);first
  |(apply bo.mk;first|(rfl;done)|(simp_all[bN,aN,aM];done)|(simp_all[bN,aN,aM];omega;done)|(simp_all[bN,aN,aM];intros;omega;done)|(simp_all[-List.all_eq_true, -List.all_eq_false,bN,aN,aM];done)|(simp_all[-List.all_eq_true, -List.all_eq_false,bN,aN,aM];omega;done)|(((try simp only[pJ] at*);refine dU (y8 (i:=i) (by omega) (yA ?_));rintro⟨g1,g2,g3⟩;first|omega|(rw[g1] at h;cases h)|(rw[g3] at h;cases h));done)|((refine fE ?_;have e:i=s.notes.length:=(by omega);rw[e] at ha;have h9:dW t a s.notes=true:=ha.2;clear ha;simp_all[bN]);done)|skip)|(guard_target=~ aP 5 _ _ _ _ _ _;refine lp (Nat) [2,3,32,33] (fun i=>[(34,I i)]) (fun i=>i≤s.notes.length∧l3 i (fx t a s.notes)=true) (fun i=>s.notes.length-i) 0 (by exact⟨Nat.zero_le _,rfl⟩) (fun i ha=> ?_))
  |refine nx (i+1:Nat) (by((try simp only[pJ] at*);exact⟨by show i+1≤_;omega,pE ha.2 (w9 ‹_› ‹_› h)⟩))
  |(apply Fact.mk;intro hL;try simp only[List.length_map,maxLen] at hL)
  |((first|apply bA|apply bB|apply bC|apply bD|apply bE|apply bF)<;>intro h<;>(try simp only[List.length_map] at h)<;>(try omega)<;>(try contradiction))|(guard_target=aa _ 45 _ _ _ _;refine cP rfl (eU _ _ _) ?_)|(guard_target=aa _ 47 _ _ _ _;refine cP rfl (yj t a _ (hn i (by omega))) ?_)|(guard_target=aa _ 59 _ _ _ _;refine cP rfl (Ky s.notes 0 i _ _) ?_)|(guard_target=aa _ 95 _ _ _ _;refine cP rfl (AT s.notes 0 i _) ?_)
  |refine aR ?_|(guard_target=Index _ _ _;first|refine Index.mk _ (aF (d:=n0) (i:=i) (by omega)) ?_)
  |refine iX (k:= ?_)
  |refine nB ?_
  |apply ay.no
  |apply cj.go
  |refine nO ?_)
theorem Aj(t a:Int)(s:aT)(hl:cZ s≤1048576):aE Tryz.prog 87 [.a 2 [J t,J a], .c (.rp 3 (dt s))] (B (bN t a s)):=by
 have hn:∀i,i<s.notes.length→bG (s.notes.getD i n0)≤1048576:=fun i h=>by
  rw[getD_eq h]
  have:=cY bG (List.getElem_mem h)
  simp only[cZ] at hl
  omega
 refine cF Tryz.func87 (h:= ?_)
 repeat'((conv=>whnf);first
  |(apply bo.mk;first|(rfl;done)|(simp_all[bN,aN,aM];done)|(simp_all[bN,aN,aM];omega;done)|(simp_all[bN,aN,aM];intros;omega;done)|(simp_all[-List.all_eq_true, -List.all_eq_false,bN,aN,aM];done)|(simp_all[-List.all_eq_true, -List.all_eq_false,bN,aN,aM];omega;done)|(((try simp only[pJ] at*);refine dU (y8 (i:=i) (by omega) (yA ?_));rintro⟨g1,g2,g3⟩;first|omega|(rw[g1] at h;cases h)|(rw[g3] at h;cases h));done)|((refine fE ?_;have e:i=s.notes.length:=(by omega);rw[e] at ha;have h9:dW t a s.notes=true:=ha.2;clear ha;simp_all[bN]);done)|skip)|(guard_target=~ aP 5 _ _ _ _ _ _;refine lp (Nat) [1,2] (fun i=>[(6,I i)]) (fun i=>i≤s.notes.length∧l3 i (fx t a s.notes)=true) (fun i=>s.notes.length-i) 0 (by exact⟨Nat.zero_le _,rfl⟩) (fun i ha=> ?_))
  |refine nx (i+1:Nat) (by((try simp only[pJ] at*);exact⟨by show i+1≤_;omega,pE ha.2 (w9 ‹_› ‹_› h)⟩))
  |(apply Fact.mk;intro hL;try simp only[List.length_map,maxLen] at hL)
  |((first|apply bA|apply bB|apply bC|apply bD|apply bE|apply bF)<;>intro h<;>(try simp only[List.length_map] at h)<;>(try omega)<;>(try contradiction))|(guard_target=aa _ 86 _ _ _ _;refine cP rfl (dE _ _ _) ?_)|(guard_target=aa _ 88 _ _ _ _;refine cP rfl (xD t a _ (hn i (by omega))) ?_)|(guard_target=aa _ 60 _ _ _ _;refine cP rfl (BA s.notes 0 i _ _) ?_)|(guard_target=aa _ 115 _ _ _ _;refine cP rfl (Ez s.notes 0 i _) ?_)
  |refine aR ?_|(guard_target=Index _ _ _;first|refine Index.mk _ (aF (d:=n0) (i:=i) (by omega)) ?_)
  |refine iX (k:= ?_)
  |refine nB ?_
  |apply ay.no
  |apply cj.go
  |refine nO ?_)
end Go.Proofs.YtgbggaddpbghfaaGreat
namespace Go.Proofs.YtgbggaddpbghfaaGreat
open Go Go.KA Go.Proofs
set_option maxHeartbeats 16000000
set_option maxRecDepth 100000
section
variable{α:Type}{a b:List α}{i:Nat}
theorem jW(h:¬a.length=b.length):eqv a b=false:=fh fun e=>h (by rw[e])
theorem mH(hi:i<a.length)(hj:i<b.length)(h:eqv a[i] b[i]=false):eqv a b=false:=fh fun e=>by
 subst e
 simp at h
theorem mI(hi:i<a.length)(hj:i<b.length)(ht:a.take i=b.take i)(h:eqv a[i] b[i]=true):a.take (i+1)=b.take (i+1):=by
 rw[List.take_add_one,List.take_add_one,ht,List.getElem?_eq_getElem hi,List.getElem?_eq_getElem hj,eqv_true.1 h]
theorem jS(hl:a.length=b.length)(hi:¬i<a.length)(ht:a.take i=b.take i):eqv a b=true:=by
 rw[List.take_of_length_le (by omega),List.take_of_length_le (by omega)] at ht
 exact eqv_true.2 ht
end
theorem xy(a b:List Int):aE Tryz.prog 94 [.c (.ro 1 (a.map eI)), .c (.ro 1 (b.map eI))] (B (eqv a b)):=by
 refine cF Tryz.func94 (h:= ?_)
 repeat'((conv=>whnf);first
  |(apply bo.mk;first|(exact dU (jW (by omega));done)|(exact dU (mH (i:=i) (by omega) (by omega) (fh h));done)|(exact fE (jS ha.2.1 (by omega) ha.2.2);done)|skip)|(guard_target=~ aP 4 _ _ _ _ _ _;refine lp (Nat) [0,1] (fun i=>[(5,I i)]) (fun i=>i≤a.length∧a.length=b.length∧a.take i=b.take i) (fun i=>a.length-i) 0 (by exact⟨Nat.zero_le _,by omega,rfl⟩) (fun i ha=> ?_))
  |refine nx (i+1:Nat) (by exact⟨by show i+1≤_;omega,ha.2.1,mI (by omega) (by omega) ha.2.2 (kY h)⟩)
  |(apply Fact.mk;intro hL;try simp only[List.length_map,maxLen] at hL)
  |((first|apply bA|apply bB|apply bC|apply bD|apply bE|apply bF)<;>intro h<;>(try simp only[List.length_map] at h)<;>(try omega)<;>(try contradiction))
  |refine aR ?_|(guard_target=Index _ _ _;first|refine Index.mk _ (bz (i:=i) (by omega)) ?_)
  |refine iX (k:= ?_)
  |refine nB ?_
  |apply ay.no
  |apply cj.go
  |refine nO ?_)
theorem DP(a b:List Int):aE Tryz.prog 98 [.c (.ro 1 (a.map eI)), .c (.ro 1 (b.map eI))] (B (eqv a b)):=by
 refine cF Tryz.func98 (h:= ?_)
 repeat'((conv=>whnf);first
  |(apply bo.mk;first|(exact dU (jW (by omega));done)|(exact dU (mH (i:=i) (by omega) (by omega) (fh h));done)|(exact fE (jS ha.2.1 (by omega) ha.2.2);done)|skip)|(guard_target=~ aP 4 _ _ _ _ _ _;refine lp (Nat) [0,1,12] (fun i=>[(13,I i)]) (fun i=>i≤a.length∧a.length=b.length∧a.take i=b.take i) (fun i=>a.length-i) 0 (by exact⟨Nat.zero_le _,by omega,rfl⟩) (fun i ha=> ?_))
  |refine nx (i+1:Nat) (by exact⟨by show i+1≤_;omega,ha.2.1,mI (by omega) (by omega) ha.2.2 (kY h)⟩)
  |(apply Fact.mk;intro hL;try simp only[List.length_map,maxLen] at hL)
  |((first|apply bA|apply bB|apply bC|apply bD|apply bE|apply bF)<;>intro h<;>(try simp only[List.length_map] at h)<;>(try omega)<;>(try contradiction))
  |refine aR ?_|(guard_target=Index _ _ _;first|refine Index.mk _ (bz (i:=i) (by omega)) ?_)
  |refine iX (k:= ?_)
  |refine nB ?_
  |apply ay.no
  |apply cj.go
  |refine nO ?_)
theorem PX(x y:ae):eqv x y=((x.kind==y.kind)&&((x.num==y.num)&&eqv x.kids y.kids)):=by
 cases x;cases y
 refine Bool.eq_iff_iff.2 ?_
 simp[ae.kind,ae.num,ae.kids]
theorem Bv(x y:ae)(hx:∀u∈x.kids,∀v,aE Tryz.prog 51 [.c (.rp 3 (af u)), .c (.rp 3 (af v))] (B (eqv u v))):aE Tryz.prog 51 [.c (.rp 3 (aI x)), .c (.rp 3 (aI y))] (B (eqv x y)):=by
 rw[PX]
 refine cF Tryz.func51 (h:= ?_)
 repeat'((conv=>whnf);first
  |(apply bo.mk;first|((refine dU ?_;rw[jW (by omega),Bool.and_false,Bool.and_false]);done)|((refine dU ?_;rw[mH (i:=i) (by omega) (by omega) (fh h),Bool.and_false,Bool.and_false]);done)|((refine fE ?_;rw[jS ha.2.1 (by omega) ha.2.2];simp_all;done);done)|((refine dU ?_;simp_all;done);done)|skip)|(guard_target=~ aP 4 _ _ _ _ _ _;refine lp (Nat) [0,1] (fun i=>[(5,I i)]) (fun i=>i≤x.kids.length∧x.kids.length=y.kids.length∧x.kids.take i=y.kids.take i) (fun i=>x.kids.length-i) 0 (by exact⟨Nat.zero_le _,by omega,rfl⟩) (fun i ha=> ?_))
  |refine nx (i+1:Nat) (by exact⟨by show i+1≤_;omega,ha.2.1,mI (by omega) (by omega) ha.2.2 (kY h)⟩)
  |(apply Fact.mk;intro hL;try simp only[List.length_map,maxLen] at hL)
  |((first|apply bA|apply bB|apply bC|apply bD|apply bE|apply bF)<;>intro h<;>(try simp only[List.length_map] at h)<;>(try omega)<;>(try contradiction))|(guard_target=aa _ 51 _ _ _ _;refine cP rfl (hx _ (List.getElem_mem (by omega)) _) ?_)
  |refine aR ?_|(guard_target=Index _ _ _;first|refine Index.mk _ (bz (i:=i) (by omega)) ?_)
  |refine iX (k:= ?_)
  |refine nB ?_
  |apply ay.no
  |apply cj.go
  |refine nO ?_)
theorem nL(x y:ae):aE Tryz.prog 51 [.c (.rp 3 (af x)), .c (.rp 3 (af y))] (B (eqv x y)):=by
 rw[a9,a9]
 exact Bv x y fun u _hx v=>nL u v
 termination_by SizeOf.sizeOf x
 decreasing_by
  have:=List.sizeOf_lt_of_mem _hx
  cases x
  simp only[ae.mk.sizeOf_spec]
  show SizeOf.sizeOf u<_
  simp only[ae.kids] at this
  omega
theorem xF(a b:List ae)(hx:∀u∈a,∀v,aE Tryz.prog 152 [.a 3 (af u), .a 3 (af v)] (B (eqv u v))):aE Tryz.prog 178 [.c (.ro 3 (a.map af)), .c (.ro 3 (b.map af)), .clo 152 []] (B (eqv a b)):=by
 refine cF Tryz.func178 (h:= ?_)
 repeat'((conv=>whnf);first
  |(apply bo.mk;first|(exact dU (jW (by omega));done)|(exact dU (mH (i:=i) (by omega) (by omega) (fh h));done)|(exact fE (jS ha.2.1 (by omega) ha.2.2);done)|skip)|(guard_target=~ aP 4 _ _ _ _ _ _;refine lp (Nat) [1,2,15,16] (fun i=>[(17,I i)]) (fun i=>i≤a.length∧a.length=b.length∧a.take i=b.take i) (fun i=>a.length-i) 0 (by exact⟨Nat.zero_le _,by omega,rfl⟩) (fun i ha=> ?_))
  |refine nx (i+1:Nat) (by exact⟨by show i+1≤_;omega,ha.2.1,mI (by omega) (by omega) ha.2.2 (kY h)⟩)
  |(apply Fact.mk;intro hL;try simp only[List.length_map,maxLen] at hL)
  |((first|apply bA|apply bB|apply bC|apply bD|apply bE|apply bF)<;>intro h<;>(try simp only[List.length_map] at h)<;>(try omega)<;>(try contradiction))|(guard_target=aa _ 152 _ _ _ _;refine cP rfl (hx _ (List.getElem_mem (by omega)) _) ?_)
  |refine aR ?_|(guard_target=Index _ _ _;first|refine Index.mk _ (bz (i:=i) (by omega)) ?_)
  |refine iX (k:= ?_)
  |apply ay.no
  |refine nO ?_)
theorem ox(x y:ae):aE Tryz.prog 152 [.a 3 (af x), .a 3 (af y)] (B (eqv x y)):=by
 rw[a9,a9,PX]
 have h0:=xF x.kids y.kids fun u _hx v=>ox u v
 refine cF Tryz.func152 (h:= ?_)
 repeat'((conv=>whnf);first
  |(apply bo.mk;first|((simp_all[fh,aN,aM];done);done)|skip)
  |((first|apply bA|apply bB|apply bC|apply bD|apply bE|apply bF)<;>intro h<;>(try simp only[List.length_map] at h)<;>(try omega)<;>(try contradiction))|(guard_target=aa _ 178 _ _ _ _;refine cP rfl (h0) ?_)
  |refine nO ?_)
 termination_by SizeOf.sizeOf x
 decreasing_by
  have:=List.sizeOf_lt_of_mem _hx
  cases x
  simp only[ae.mk.sizeOf_spec]
  show SizeOf.sizeOf u<_
  simp only[ae.kids] at this
  omega
theorem A3(a b:List ae):aE Tryz.prog 179 [.c (.ro 3 (a.map af)), .c (.ro 3 (b.map af))] (B (eqv a b)):=by
 have h0:=xF a b fun u _ v=>ox u v
 refine cF Tryz.func179 (h:= ?_)
 repeat'((conv=>whnf);first
  |(apply bo.mk;first|(rfl;done)|skip)|(guard_target=aa _ 178 _ _ _ _;refine cP rfl (h0) ?_)
  |refine nO ?_)
theorem vR(a b:List ae):aE Tryz.prog 129 [.c (.ro 3 (a.map af)), .c (.ro 3 (b.map af))] (B (eqv a b)):=by
 refine cF Tryz.func129 (h:= ?_)
 repeat'((conv=>whnf);first
  |(apply bo.mk;first|(exact dU (jW (by omega));done)|(exact dU (mH (i:=i) (by omega) (by omega) (fh h));done)|(exact fE (jS ha.2.1 (by omega) ha.2.2);done)|skip)|(guard_target=~ aP 4 _ _ _ _ _ _;refine lp (Nat) [0,1] (fun i=>[(5,I i)]) (fun i=>i≤a.length∧a.length=b.length∧a.take i=b.take i) (fun i=>a.length-i) 0 (by exact⟨Nat.zero_le _,by omega,rfl⟩) (fun i ha=> ?_))
  |refine nx (i+1:Nat) (by exact⟨by show i+1≤_;omega,ha.2.1,mI (by omega) (by omega) ha.2.2 (kY h)⟩)
  |(apply Fact.mk;intro hL;try simp only[List.length_map,maxLen] at hL)
  |((first|apply bA|apply bB|apply bC|apply bD|apply bE|apply bF)<;>intro h<;>(try simp only[List.length_map] at h)<;>(try omega)<;>(try contradiction))|(guard_target=aa _ 51 _ _ _ _;refine cP rfl (nL _ _) ?_)
  |refine aR ?_|(guard_target=Index _ _ _;first|refine Index.mk _ (bz (i:=i) (by omega)) ?_)
  |refine iX (k:= ?_)
  |refine nB ?_
  |apply ay.no
  |apply cj.go
  |refine nO ?_)
theorem OJ(x y:aB):eqv x y=((x.use==y.use)&&((x.back==y.back)&&(eqv x.path y.path&&(eqv x.au y.au&&eqv x.c9 y.c9)))):=by
 cases x;cases y
 refine Bool.eq_iff_iff.2 ?_
 simp
theorem Dt(x y:aB):aE Tryz.prog 154 [.a 5 (bU x), .a 5 (bU y)] (B (eqv x y)):=by
 rw[OJ]
 refine cF Tryz.func154 (h:= ?_)
 repeat'((conv=>whnf);first
  |(apply bo.mk;first|((simp_all[fh,aN,aM];done);done)|skip)
  |((first|apply bA|apply bB|apply bC|apply bD|apply bE|apply bF)<;>intro h<;>(try simp only[List.length_map] at h)<;>(try omega)<;>(try contradiction))|(guard_target=aa _ 98 _ _ _ _;refine cP rfl (DP _ _) ?_)|(guard_target=aa _ 179 _ _ _ _;refine cP rfl (A3 _ _) ?_)
  |refine nO ?_)
theorem vW(x y:aB):aE Tryz.prog 101 [.c (.rp 5 (bU x)), .c (.rp 5 (bU y))] (B (eqv x y)):=by
 rw[OJ]
 refine cF Tryz.func101 (h:= ?_)
 repeat'((conv=>whnf);first
  |(apply bo.mk;first|((simp_all[fh,aN,aM];done);done)|skip)
  |((first|apply bA|apply bB|apply bC|apply bD|apply bE|apply bF)<;>intro h<;>(try simp only[List.length_map] at h)<;>(try omega)<;>(try contradiction))|(guard_target=aa _ 94 _ _ _ _;refine cP rfl (xy _ _) ?_)|(guard_target=aa _ 129 _ _ _ _;refine cP rfl (vR _ _) ?_)
  |refine nB ?_
  |apply cj.go
  |refine nO ?_)
theorem EF(a b:List aB):aE Tryz.prog 153 [.c (.ro 5 (a.map bU)), .c (.ro 5 (b.map bU)), .clo 154 []] (B (eqv a b)):=by
 refine cF Tryz.func153 (h:= ?_)
 repeat'((conv=>whnf);first
  |(apply bo.mk;first|(exact dU (jW (by omega));done)|(exact dU (mH (i:=i) (by omega) (by omega) (fh h));done)|(exact fE (jS ha.2.1 (by omega) ha.2.2);done)|skip)|(guard_target=~ aP 4 _ _ _ _ _ _;refine lp (Nat) [1,2,15,16] (fun i=>[(17,I i)]) (fun i=>i≤a.length∧a.length=b.length∧a.take i=b.take i) (fun i=>a.length-i) 0 (by exact⟨Nat.zero_le _,by omega,rfl⟩) (fun i ha=> ?_))
  |refine nx (i+1:Nat) (by exact⟨by show i+1≤_;omega,ha.2.1,mI (by omega) (by omega) ha.2.2 (kY h)⟩)
  |(apply Fact.mk;intro hL;try simp only[List.length_map,maxLen] at hL)
  |((first|apply bA|apply bB|apply bC|apply bD|apply bE|apply bF)<;>intro h<;>(try simp only[List.length_map] at h)<;>(try omega)<;>(try contradiction))|(guard_target=aa _ 154 _ _ _ _;refine cP rfl (Dt _ _) ?_)
  |refine aR ?_|(guard_target=Index _ _ _;first|refine Index.mk _ (bz (i:=i) (by omega)) ?_)
  |refine iX (k:= ?_)
  |apply ay.no
  |refine nO ?_)
theorem vf(a b:List aB):aE Tryz.prog 52 [.c (.ro 5 (a.map bU)), .c (.ro 5 (b.map bU))] (B (eqv a b)):=by
 refine cF Tryz.func52 (h:= ?_)
 repeat'((conv=>whnf);first
  |(apply bo.mk;first|(exact dU (jW (by omega));done)|(exact dU (mH (i:=i) (by omega) (by omega) (fh h));done)|(exact fE (jS ha.2.1 (by omega) ha.2.2);done)|skip)|(guard_target=~ aP 4 _ _ _ _ _ _;refine lp (Nat) [0,1] (fun i=>[(5,I i)]) (fun i=>i≤a.length∧a.length=b.length∧a.take i=b.take i) (fun i=>a.length-i) 0 (by exact⟨Nat.zero_le _,by omega,rfl⟩) (fun i ha=> ?_))
  |refine nx (i+1:Nat) (by exact⟨by show i+1≤_;omega,ha.2.1,mI (by omega) (by omega) ha.2.2 (kY h)⟩)
  |(apply Fact.mk;intro hL;try simp only[List.length_map,maxLen] at hL)
  |((first|apply bA|apply bB|apply bC|apply bD|apply bE|apply bF)<;>intro h<;>(try simp only[List.length_map] at h)<;>(try omega)<;>(try contradiction))|(guard_target=aa _ 101 _ _ _ _;refine cP rfl (vW _ _) ?_)
  |refine aR ?_|(guard_target=Index _ _ _;first|refine Index.mk _ (bz (i:=i) (by omega)) ?_)
  |refine iX (k:= ?_)
  |refine nB ?_
  |apply ay.no
  |apply cj.go
  |refine nO ?_)
theorem Po(x y:bw):eqv x y=(eqv x.left y.left&&(eqv x.right y.right&&((x.j9==y.j9)&&((x.ref==y.ref)&&eqv x.steps y.steps)))):=by
 cases x;cases y
 refine Bool.eq_iff_iff.2 ?_
 simp
theorem qn(x y:ae):aE Tryz.prog 152 [.a 3 (aI x), .a 3 (aI y)] (B (eqv x y)):=by
 have:=ox x y
 rwa[a9,a9] at this
theorem AZ(x y:bw):aE Tryz.prog 128 [.a 9 (aH x), .a 9 (aH y)] (B (eqv x y)):=by
 rw[Po]
 refine cF Tryz.func128 (h:= ?_)
 repeat'((conv=>whnf);first
  |(apply bo.mk;first|((simp_all[fh,aN,aM];done);done)|skip)
  |((first|apply bA|apply bB|apply bC|apply bD|apply bE|apply bF)<;>intro h<;>(try simp only[List.length_map] at h)<;>(try omega)<;>(try contradiction))|(guard_target=aa _ 153 _ _ _ _;refine cP rfl (EF _ _) ?_)|(guard_target=aa _ 152 _ _ _ _;(first|refine aa.pure _ _ rfl (qn x.left y.left) rfl _ rfl ?_|refine aa.pure _ _ rfl (qn x.right y.right) rfl _ rfl ?_))
  |refine nO ?_)
theorem G5(a b:List bw):aE Tryz.prog 127 [.c (.ro 9 (a.map aH)), .c (.ro 9 (b.map aH)), .clo 128 []] (B (eqv a b)):=by
 refine cF Tryz.func127 (h:= ?_)
 repeat'((conv=>whnf);first
  |(apply bo.mk;first|(exact dU (jW (by omega));done)|(exact dU (mH (i:=i) (by omega) (by omega) (fh h));done)|(exact fE (jS ha.2.1 (by omega) ha.2.2);done)|skip)|(guard_target=~ aP 4 _ _ _ _ _ _;refine lp (Nat) [1,2,15,16] (fun i=>[(17,I i)]) (fun i=>i≤a.length∧a.length=b.length∧a.take i=b.take i) (fun i=>a.length-i) 0 (by exact⟨Nat.zero_le _,by omega,rfl⟩) (fun i ha=> ?_))
  |refine nx (i+1:Nat) (by exact⟨by show i+1≤_;omega,ha.2.1,mI (by omega) (by omega) ha.2.2 (kY h)⟩)
  |(apply Fact.mk;intro hL;try simp only[List.length_map,maxLen] at hL)
  |((first|apply bA|apply bB|apply bC|apply bD|apply bE|apply bF)<;>intro h<;>(try simp only[List.length_map] at h)<;>(try omega)<;>(try contradiction))|(guard_target=aa _ 128 _ _ _ _;refine cP rfl (AZ _ _) ?_)
  |refine aR ?_|(guard_target=Index _ _ _;first|refine Index.mk _ (bz (i:=i) (by omega)) ?_)
  |refine iX (k:= ?_)
  |apply ay.no
  |refine nO ?_)
theorem PV(x y:cE):eqv x y=((x.sig.au==y.sig.au&&x.sig.aq==y.sig.aq)&&eqv x.aj y.aj):=by
 obtain⟨⟨a,b⟩,c⟩:=x
 obtain⟨⟨a',b'⟩,c'⟩:=y
 refine Bool.eq_iff_iff.2 ?_
 simp
theorem z5(x y:cE):aE Tryz.prog 99 [.a 3 (cL x), .a 3 (cL y)] (B (eqv x y)):=by
 rw[PV]
 refine cF Tryz.func99 (h:= ?_)
 repeat'((conv=>whnf);first
  |(apply bo.mk;first|((simp_all[fh,aN,aM];done);done)|skip)
  |((first|apply bA|apply bB|apply bC|apply bD|apply bE|apply bF)<;>intro h<;>(try simp only[List.length_map] at h)<;>(try omega)<;>(try contradiction))|(guard_target=aa _ 127 _ _ _ _;refine cP rfl (G5 _ _) ?_)
  |refine nO ?_)
end Go.Proofs.YtgbggaddpbghfaaGreat
