/- Contracts of the functions that look for numbers and notes in lists, and whether entries, notes and servers are valid. No conditions. -/
import Derived.Test.YtgbggaddpbghfaaGreatKAB
namespace Go.Proofs.YtgbggaddpbghfaaGreat
open Go Go.KA Go.Proofs
set_option maxHeartbeats 16000000
set_option maxRecDepth 100000
def nK{α:Type}(p:α→Bool):List α→Int
 |[]=> -1
 |x::xs=>if p x=true then 0 else if nK p xs<0 then-1 else nK p xs+1
theorem vR{α:Type}{p:α→Bool}:∀{l:List α} {i:Nat} (h:i<l.length),(l.take i).all (fun x=> !p x)=true→p l[i]=true→nK p l=i
 |x::xs,0,_,_,hp=>by
  simp only[List.getElem_cons_zero] at hp
  simp[nK,hp]
 |x::xs,i+1,h,hn,hp=>by
  simp only[List.take_succ_cons,List.all_cons,Bool.and_eq_true] at hn
  have hx:p x=false:=by simpa using hn.1
  have ih:=vR (l:=xs) (i:=i) (by simpa using h) hn.2 (by simpa using hp)
  simp only[nK,hx,ih]
  rw[if_neg (by simp),if_neg (by omega)]
  omega
theorem qg{α:Type}{p:α→Bool}:∀{l:List α},l.all (fun x=> !p x)=true→nK p l= -1
 |[],_=>rfl
 |x::xs,h=>by
  simp only[List.all_cons,Bool.and_eq_true] at h
  have hx:p x=false:=by simpa using h.1
  simp only[nK,hx,qg h.2]
  rfl
theorem AE{α:Type}(p:α→Bool):∀l:List α,(nK p l= -1∧∀x∈l,p x=false)∨∃(i:Nat) (h:i<l.length),nK p l=i∧p l[i]=true∧∀j (hj:j<i),p (l[j]'(Nat.lt_trans hj h))=false
 |[]=> .inl ⟨rfl,by simp⟩
 |x::xs=>by
  cases hx:p x with
  |true=>exact .inr ⟨0,by simp,by simp[nK,hx],by simpa using hx,fun j hj=>by omega⟩
  |false=>
   rcases AE p xs with⟨h1,h2⟩|⟨i,h,h1,h2,h3⟩
   ·left
    refine⟨by simp[nK,hx,h1],fun y hy=> ?_⟩
    rcases List.mem_cons.1 hy with rfl|hy
    ·exact hx
    ·exact h2 y hy
   ·right
    refine⟨i+1,by simpa using h, ?_,by simpa using h2,fun j hj=> ?_⟩
    ·simp only[nK,hx,h1]
     rw[if_neg (by simp),if_neg (by omega)]
     omega
    ·cases j with
     |zero=>simpa using hx
     |succ j=>simpa using h3 j (by omega)
theorem ob{α:Type}{p:α→Bool}{l:List α}:0≤nK p l↔∃x∈l,p x=true:=by
 rcases AE p l with⟨h1,h2⟩|⟨i,h,h1,h2,h3⟩
 ·rw[h1]
  constructor
  ·intro h;omega
  ·rintro⟨x,hx,hp⟩;rw[h2 x hx] at hp;cases hp
 ·rw[h1]
  exact⟨fun _=>⟨_,List.getElem_mem h,h2⟩,fun _=>by omega⟩
theorem F7{b:Bool}(h:b=false):(!b)=true:=by rw[h];rfl
theorem Ko(l:List Int)(x:Int):aD Tryz.prog 132 [.c (.ro 1 (l.map eI)),I x] (I (nK (fun y=>x==y) l)):=by
 refine cF Tryz.func132 (h:= ?_)
 repeat'((conv=>whnf);first
  |(apply bh.mk;first|(exact congrArg I (vR (p:=fun y=>x==y) (i:=i) (by omega) ha.2 (by simpa using h)).symm;done)|(exact congrArg I (qg (p:=fun y=>x==y) (eU (by omega) ha)).symm;done)|skip)|(guard_target=~ aK 2 _ _ _ _ _ _;refine lp (Nat) [0,1,7] (fun i=>[(8,I i)]) (fun i=>i≤l.length∧(l.take i).all (fun y=> !(x==y))=true) (fun i=>l.length-i) 0 (by exact⟨Nat.zero_le _,rfl⟩) (fun i ha=> ?_))
  |refine nx (i+1:Nat) (by exact eZ (by omega) ha (by simpa using h))
  |(apply Fact.mk;intro hL;try simp only[List.length_map,maxLen] at hL)
  |((first|apply bA|apply bB|apply bC|apply bD|apply bE|apply bF)<;>intro h<;>(try simp only[List.length_map] at h)<;>(try omega)<;>(try contradiction))
  |refine aR ?_|(guard_target=Index _ _ _;first|(refine Index.mk _ (bw (i:=i) (by omega)) ?_)|fail)
  |refine nO ?_)
def Ng(x:Int)(l:List Int):Bool:=decide (x∈l)
theorem M5{x:Int}{l:List Int}:decide (nK (fun y=>x==y) l≥0)=Ng x l:=by
 unfold Ng
 refine decide_eq_decide.2 (ob.trans ?_)
 simp
theorem D4(l:List Int)(x:Int):aD Tryz.prog 107 [.c (.ro 1 (l.map eI)),I x] (B (Ng x l)):=by
 refine cF Tryz.func107 (h:= ?_)
 repeat'((conv=>whnf);first
  |(apply bh.mk;first|(rw[←M5];rfl;done)|skip)|(guard_target=aa _ 132 _ _ _ _;refine cP rfl (Ko l x) ?_))
theorem Bn(l:List Int)(a b x:Int):aD Tryz.prog 107 [.c (.ro 1 (((l.map eI).drop a.toNat).take (b.toNat-a.toNat))),I x] (B (Ng x ((l.drop a.toNat).take (b.toNat-a.toNat)))):=by
 have:=D4 ((l.drop a.toNat).take (b.toNat-a.toNat)) x
 rwa[List.map_take,List.map_drop] at this
theorem qk{α:Type}(l:List α)(i:Nat):(l.drop (0:Int).toNat).take ((i:Int).toNat-(0:Int).toNat)=l.take i:=by simp
theorem xQ{l:List Int}{i:Nat}(h:i<l.length)(hn:(l.take i).Nodup)(hm:¬l[i]∈l.take i):(l.take (i+1)).Nodup:=by
 rw[List.take_add_one,List.getElem?_eq_getElem h]
 refine List.nodup_append.2 ⟨hn,by simp,fun a ha b hb=> ?_⟩
 simp at hb
 subst hb
 rintro rfl
 exact hm ha
theorem C7{l:List Int}{i:Nat}(h:i<l.length)(hm:l[i]∈l.take i):¬l.Nodup:=by
 intro hn
 have hd:l[i]∈l.drop i:=List.mem_iff_getElem.2 ⟨0,by simp only[List.length_drop];omega,by simp⟩
 have e:(l.take i++l.drop i).Nodup:=by rw[List.take_append_drop];exact hn
 exact(List.nodup_append.1 e).2.2 _ hm l[i] hd rfl
theorem vB(l:List Int):aD Tryz.prog 124 [.c (.ro 1 (l.map eI))] (B (decide l.Nodup)):=by
 refine cF Tryz.func124 (h:= ?_)
 repeat'((conv=>whnf);first
  |(apply bh.mk;first|(exact dV (decide_eq_false (C7 (i:=i) (by omega) (by rw[qk] at h;exact h)));done)|(exact fF (decide_eq_true (by have:=ha.2;rwa[List.take_of_length_le (by omega)] at this));done)|skip)|(guard_target=~ aK 2 _ _ _ _ _ _;refine lp (Nat) [0,5,6] (fun i=>[(7,I i)]) (fun i=>i≤l.length∧(l.take i).Nodup) (fun i=>l.length-i) 0 (by exact⟨Nat.zero_le _,by simp⟩) (fun i ha=> ?_))
  |refine nx (i+1:Nat) (by exact⟨by show i+1≤_;omega,xQ (by omega) ha.2 (by rw[qk] at h;exact h)⟩)
  |(apply Fact.mk;intro hL;try simp only[List.length_map,maxLen] at hL)
  |((first|apply bA|apply bB|apply bC|apply bD|apply bE|apply bF)<;>intro h<;>(try simp only[List.length_map] at h)<;>(try omega)<;>(try contradiction))|(guard_target=aa _ 107 _ _ _ _;refine cP rfl (Bn l 0 i _) ?_)
  |refine aR ?_|(guard_target=Index _ _ _;first|(refine Index.mk _ (bw (i:=i) (by omega)) ?_)|fail)
  |refine nO ?_)
def gY(r:Bool)(id:Int)(x:aM):Bool:=(x.bU==r)&&(x.id==id)
def bz(l:List aM)(r:Bool)(id:Int):Int:=nK (gY r id) l
theorem Js(x:aM)(r:Bool)(id:Int):aD Tryz.prog 106 [.a 7 (bg x), .c (.rp 1 [.val (.bool r)]), .c (.rp 1 [J id])] (B (gY r id x)):=by
 refine cF Tryz.func106 (h:= ?_)
 repeat'((conv=>whnf);first
  |(apply bh.mk;first|(simp_all[gY,cO,cM];done)|skip)
  |((first|apply bA|apply bB|apply bC|apply bD|apply bE|apply bF)<;>intro h<;>(try simp only[List.length_map] at h)<;>(try omega)<;>(try contradiction)))
theorem ya(l:List aM)(r:Bool)(id:Int):aD Tryz.prog 105 [.c (.ro 7 (l.map bg)), .clo 106 [.c (.rp 1 [.val (.bool r)]), .c (.rp 1 [J id])]] (I (bz l r id)):=by
 refine cF Tryz.func105 (h:= ?_)
 repeat'((conv=>whnf);first
  |(apply bh.mk;first|(exact congrArg I (vR (i:=i) (by omega) ha.2 h).symm;done)|(exact congrArg I (qg (eU (by omega) ha)).symm;done)|skip)|(guard_target=~ aK 2 _ _ _ _ _ _;refine lp (Nat) [0,1,7] (fun i=>[(8,I i)]) (fun i=>i≤l.length∧(l.take i).all (fun y=> !(gY r id y))=true) (fun i=>l.length-i) 0 (by exact⟨Nat.zero_le _,rfl⟩) (fun i ha=> ?_))
  |refine nx (i+1:Nat) (by exact eZ (by omega) ha (F7 h))
  |(apply Fact.mk;intro hL;try simp only[List.length_map,maxLen] at hL)
  |((first|apply bA|apply bB|apply bC|apply bD|apply bE|apply bF)<;>intro h<;>(try simp only[List.length_map] at h)<;>(try omega)<;>(try contradiction))|(guard_target=aa _ 106 _ _ _ _;refine cP rfl (Js _ r id) ?_)
  |refine aR ?_|(guard_target=Index _ _ _;first|(refine Index.mk _ (bw (i:=i) (by omega)) ?_)|fail)
  |refine nO ?_)
theorem se(l:List aM)(r:Bool)(id:Int):aD Tryz.prog 59 [.c (.ro 7 (l.map bg)),B r,I id] (I (bz l r id)):=by
 refine cF Tryz.func59 (h:= ?_)
 repeat'((conv=>whnf);first
  |(apply bh.mk;first|(rfl;done)|skip)|(guard_target=aa _ 105 _ _ _ _;refine cP rfl (ya l r id) ?_))
theorem gQ(l:List aM)(r:Bool)(id:Int):aD Tryz.prog 60 [.c (.ro 7 (l.map bg)),B r,I id] (I (bz l r id)):=by
 refine cF Tryz.func60 (h:= ?_)
 repeat'((conv=>whnf);first
  |(apply bh.mk;first|(exact congrArg I (vR (i:=i) (by omega) ha.2 (by simp_all[gY])).symm;done)|(exact congrArg I (qg (eU (by omega) ha)).symm;done)|skip)|(guard_target=~ aK 2 _ _ _ _ _ _;refine lp (Nat) [0,1,2] (fun i=>[(7,I i)]) (fun i=>i≤l.length∧(l.take i).all (fun y=> !(gY r id y))=true) (fun i=>l.length-i) 0 (by exact⟨Nat.zero_le _,rfl⟩) (fun i ha=> ?_))
  |refine nx (i+1:Nat) (by exact eZ (by omega) ha (by simp_all[gY]))
  |(apply Fact.mk;intro hL;try simp only[List.length_map,maxLen] at hL)
  |((first|apply bA|apply bB|apply bC|apply bD|apply bE|apply bF)<;>intro h<;>(try simp only[List.length_map] at h)<;>(try omega)<;>(try contradiction))
  |refine aR ?_|(guard_target=Index _ _ _;first|(refine Index.mk _ (bw (i:=i) (by omega)) ?_)|fail)
  |refine nO ?_)
end Go.Proofs.YtgbggaddpbghfaaGreat
namespace Go.Proofs.YtgbggaddpbghfaaGreat
open Go Go.KA Go.Proofs
set_option maxHeartbeats 16000000
set_option maxRecDepth 100000
theorem LN(l:List aM)(a b:Int)(r:Bool)(id:Int):aD Tryz.prog 59 [.c (.ro 7 (((l.map bg).drop a.toNat).take (b.toNat-a.toNat))),B r,I id] (I (bz ((l.drop a.toNat).take (b.toNat-a.toNat)) r id)):=by
 have:=se ((l.drop a.toNat).take (b.toNat-a.toNat)) r id
 rwa[List.map_take,List.map_drop] at this
theorem Ds(l:List aM)(a b:Int)(r:Bool)(id:Int):aD Tryz.prog 60 [.c (.ro 7 (((l.map bg).drop a.toNat).take (b.toNat-a.toNat))),B r,I id] (I (bz ((l.drop a.toNat).take (b.toNat-a.toNat)) r id)):=by
 have:=gQ ((l.drop a.toNat).take (b.toNat-a.toNat)) r id
 rwa[List.map_take,List.map_drop] at this
def LD(l:List aM)(id:Int):Bool:=decide (0≤bz l false id)
def gG(l:List aM)(ids:List Int):Bool:=ids.all (LD l)
theorem Hk{l:List aM}{id:Int}(h:bz l false id<0):LD l id=false:=decide_eq_false (by omega)
theorem Dx{l:List aM}{id:Int}(h:¬bz l false id<0):LD l id=true:=decide_eq_true (by omega)
theorem oW(l:List aM)(ids:List Int):aD Tryz.prog 95 [.c (.ro 7 (l.map bg)), .c (.ro 1 (ids.map eI))] (B (gG l ids)):=by
 refine cF Tryz.func95 (h:= ?_)
 repeat'((conv=>whnf);first
  |(apply bh.mk;first|(exact dV (eo (i:=i) (by omega) (Hk h));done)|(exact fF (eU (by omega) ha);done)|skip)|(guard_target=~ aK 2 _ _ _ _ _ _;refine lp (Nat) [0,7,8] (fun i=>[(9,I i)]) (fun i=>i≤ids.length∧(ids.take i).all (LD l)=true) (fun i=>ids.length-i) 0 (by exact⟨Nat.zero_le _,rfl⟩) (fun i ha=> ?_))
  |refine nx (i+1:Nat) (by exact eZ (by omega) ha (Dx h))
  |(apply Fact.mk;intro hL;try simp only[List.length_map,maxLen] at hL)
  |((first|apply bA|apply bB|apply bC|apply bD|apply bE|apply bF)<;>intro h<;>(try simp only[List.length_map] at h)<;>(try omega)<;>(try contradiction))|(guard_target=aa _ 59 _ _ _ _;refine cP rfl (se l false _) ?_)
  |refine aR ?_|(guard_target=Index _ _ _;first|(refine Index.mk _ (bw (i:=i) (by omega)) ?_)|fail)
  |refine nO ?_)
theorem ug(l:List aM)(ids:List Int):aD Tryz.prog 115 [.c (.ro 7 (l.map bg)), .c (.ro 1 (ids.map eI))] (B (gG l ids)):=by
 refine cF Tryz.func115 (h:= ?_)
 repeat'((conv=>whnf);first
  |(apply bh.mk;first|(exact dV (eo (i:=i) (by omega) (Hk h));done)|(exact fF (eU (by omega) ha);done)|skip)|(guard_target=~ aK 2 _ _ _ _ _ _;refine lp (Nat) [0,1] (fun i=>[(5,I i)]) (fun i=>i≤ids.length∧(ids.take i).all (LD l)=true) (fun i=>ids.length-i) 0 (by exact⟨Nat.zero_le _,rfl⟩) (fun i ha=> ?_))
  |refine nx (i+1:Nat) (by exact eZ (by omega) ha (Dx h))
  |(apply Fact.mk;intro hL;try simp only[List.length_map,maxLen] at hL)
  |((first|apply bA|apply bB|apply bC|apply bD|apply bE|apply bF)<;>intro h<;>(try simp only[List.length_map] at h)<;>(try omega)<;>(try contradiction))|(guard_target=aa _ 60 _ _ _ _;refine cP rfl (gQ l false _) ?_)
  |refine aR ?_|(guard_target=Index _ _ _;first|(refine Index.mk _ (bw (i:=i) (by omega)) ?_)|fail)
  |refine nO ?_)
theorem z6(l:List aM)(a b:Int)(ids:List Int):aD Tryz.prog 95 [.c (.ro 7 (((l.map bg).drop a.toNat).take (b.toNat-a.toNat))), .c (.ro 1 (ids.map eI))] (B (gG ((l.drop a.toNat).take (b.toNat-a.toNat)) ids)):=by
 have:=oW ((l.drop a.toNat).take (b.toNat-a.toNat)) ids
 rwa[List.map_take,List.map_drop] at this
theorem EL(l:List aM)(a b:Int)(ids:List Int):aD Tryz.prog 115 [.c (.ro 7 (((l.map bg).drop a.toNat).take (b.toNat-a.toNat))), .c (.ro 1 (ids.map eI))] (B (gG ((l.drop a.toNat).take (b.toNat-a.toNat)) ids)):=by
 have:=ug ((l.drop a.toNat).take (b.toNat-a.toNat)) ids
 rwa[List.map_take,List.map_drop] at this
def w3(p:cx):Bool:=(p.sig.au==0&&p.sig.ai==0)&&((p.ao.length:Int)==0)
def dz(t a:Int)(bj:List Int)(p:cx):Bool:=
 decide ((bj.length:Int)≤4)&&(decide bj.Nodup&&(bj.all (dJ 0 99)&&(dy p&&((p.sig.au==t&&p.sig.ai==a)&&(decide ((bj.length:Int)<p.ao.length)&&decide ((rU p:Int)≤20000))))))
theorem td(p:cx):aD Tryz.prog 100 [.a 3 (cK p)] (B (w3 p)):=by
 refine cF Tryz.func100 (h:= ?_)
 repeat'((conv=>whnf);first
  |(apply bh.mk;first|(simp_all[w3,cO,cM];done)|skip)
  |(apply Fact.mk;intro hL;try simp only[List.length_map,maxLen] at hL)
  |((first|apply bA|apply bB|apply bC|apply bD|apply bE|apply bF)<;>intro h<;>(try simp only[List.length_map] at h)<;>(try omega)<;>(try contradiction)))
theorem vh(p:cx):aD Tryz.prog 92 [.c (.rp 3 (cK p))] (B (w3 p)):=by
 refine cF Tryz.func92 (h:= ?_)
 repeat'((conv=>whnf);first
  |(apply bh.mk;first|(simp_all[w3,cO,cM];done)|skip)
  |(apply Fact.mk;intro hL;try simp only[List.length_map,maxLen] at hL)
  |((first|apply bA|apply bB|apply bC|apply bD|apply bE|apply bF)<;>intro h<;>(try simp only[List.length_map] at h)<;>(try omega)<;>(try contradiction)))
theorem xf(t a:Int)(bj:List Int)(p:cx)(hl:b7 p≤1048576):aD Tryz.prog 97 [.a 2 [J t,J a], .c (.ro 1 (bj.map eI)), .a 3 (cK p)] (B (dz t a bj p)):=by
 have hr:aD Tryz.prog 63 [.c (.ro 1 (bj.map eI)),I 100] (B (bj.all (dJ 0 99))):=xa bj 100 (by omega)
 refine cF Tryz.func97 (h:= ?_)
 repeat'((conv=>whnf);first
  |(apply bh.mk;first|(simp_all[dz,cO,cM];done)|(simp_all[dz,cO,cM];omega;done)|(simp_all[-List.all_eq_true, -List.all_eq_false,dz,cO,cM];done)|skip)
  |(apply Fact.mk;intro hL;try simp only[List.length_map,maxLen] at hL)
  |((first|apply bA|apply bB|apply bC|apply bD|apply bE|apply bF)<;>intro h<;>(try simp only[List.length_map] at h)<;>(try omega)<;>(try contradiction))|(guard_target=aa _ 124 _ _ _ _;refine cP rfl (vB _) ?_)|(guard_target=aa _ 63 _ _ _ _;refine cP rfl (hr) ?_)|(guard_target=aa _ 125 _ _ _ _;refine cP rfl (yn p) ?_)|(guard_target=aa _ 126 _ _ _ _;refine cP rfl (Aa p hl) ?_))
theorem KY(p:cx):(AO p.ao 20000<0↔¬(rU p:Int)≤20000):=by
 obtain⟨k,h⟩:=NG p.ao
 have:=h.iff 20000
 simp only[rU]
 omega
theorem u9(t a:Int)(bj:List Int)(p:cx)(hl:b7 p≤1048576):aD Tryz.prog 91 [.a 2 [J t,J a], .c (.ro 1 (bj.map eI)), .c (.rp 3 (cK p))] (B (dz t a bj p)):=by
 have hz:=KY p
 refine cF Tryz.func91 (h:= ?_)
 repeat'((conv=>whnf);first
  |(apply bh.mk;first|(simp_all[dz,cO,cM];done)|(simp_all[dz,cO,cM];omega;done)|((refine dV ?_;have h9:=eo (p:=dJ 0 99) (i:=i) (by omega) h;simp_all[-List.all_eq_true, -List.all_eq_false,dz];done);done)|((refine dV ?_;have h9:¬bj.Nodup:=C7 (i:=i) (by omega) (List.mem_iff_getElem.2 ⟨k,by rw[List.length_take];omega,by rw[List.getElem_take];exact h⟩);unfold dz;rw[decide_eq_false h9];simp);done)|((refine fF ?_;have h7:=ha.2.1;have h8:=ha.2.2;rw[List.take_of_length_le (by omega)] at h7 h8;unfold dz;rw[h7,decide_eq_true h8,decide_eq_true (show(bj.length:Int)≤4 by omega),‹dy p=true›,decide_eq_true (show(bj.length:Int)<p.ao.length by omega),decide_eq_true (show(rU p:Int)≤20000 by omega)];simp_all);done)|skip)|(guard_target=~ aK 4 _ _ _ _ _ _;refine lp (Nat) [1] (fun i=>[(7,I i)]) (fun i=>i≤bj.length∧(bj.take i).all (dJ 0 99)=true∧(bj.take i).Nodup) (fun i=>bj.length-i) 0 (by exact⟨Nat.zero_le _,rfl,by simp⟩) (fun i ha=> ?_))|(guard_target=~ aK 9 _ _ _ _ _ _;refine lp (Nat) [1,7] (fun k=>[(8,I k)]) (fun k=>k≤i∧∀j (hj:j<bj.length),j<k→∀hi:i<bj.length,¬bj[j]=bj[i]) (fun k=>i-k) 0 (by exact⟨Nat.zero_le _,fun j _ hj=>by omega⟩) (fun k ha=> ?_))
  |refine nx (k+1:Nat) (by exact⟨by show k+1≤_;omega,fun j hj hjk hi=>by rcases Nat.lt_succ_iff_lt_or_eq.1 hjk with hjk|rfl;exact ha.2 j hj hjk hi;exact h⟩)
  |refine nx (i+1:Nat) (by(have h8:=‹i≤bj.length∧(bj.take i).all (dJ 0 99)=true∧(bj.take i).Nodup›;have hi:i<bj.length:=(by omega);exact⟨hi,kj hi h8.2.1 ‹dJ 0 99 bj[i]=true›,xQ hi h8.2.2 (fun hm=>by obtain⟨j,hj,e⟩:=List.mem_iff_getElem.1 hm;rw[List.length_take] at hj;rw[List.getElem_take] at e;exact ha.2 j (by omega) (by omega) hi e)⟩))
  |(apply Fact.mk;intro hL;try simp only[List.length_map,maxLen] at hL)
  |((first|apply bA|apply bB|apply bC|apply bD|apply bE|apply bF)<;>intro h<;>(try simp only[List.length_map] at h)<;>(try omega)<;>(try contradiction))|(guard_target=aa _ 116 _ _ _ _;refine cP rfl (J4 p hl) ?_)|(guard_target=aa _ 117 _ _ _ _;refine cP rfl (EO p hl 20000 (by omega) (by omega)) ?_)|(guard_target=aa _ 86 _ _ _ _;refine cP rfl (dH _ _ _) ?_)
  |refine aR ?_|(guard_target=Index _ _ _;first|(refine Index.mk _ (bw (i:=i) (by omega)) ?_)|(refine Index.mk _ (bw (i:=k) (by omega)) ?_)|fail)
  |refine nB ?_
  |refine nO ?_)
end Go.Proofs.YtgbggaddpbghfaaGreat
namespace Go.Proofs.YtgbggaddpbghfaaGreat
open Go Go.KA Go.Proofs
set_option maxHeartbeats 16000000
set_option maxRecDepth 100000
def Ha(e:dD):Bool:=(e.id==0)&&(((e.bj.length:Int)==0)&&w3 e.proof)
theorem vA(e:dD):aD Tryz.prog 96 [.a 5 (kz e)] (B (Ha e)):=by
 refine cF Tryz.func96 (h:= ?_)
 repeat'((conv=>whnf);first
  |(apply bh.mk;first|(simp_all[Ha,cO,cM];done)|skip)
  |(apply Fact.mk;intro hL;try simp only[List.length_map,maxLen] at hL)
  |((first|apply bA|apply bB|apply bC|apply bD|apply bE|apply bF)<;>intro h<;>(try simp only[List.length_map] at h)<;>(try omega)<;>(try contradiction))|(guard_target=aa _ 100 _ _ _ _;refine cP rfl (td e.proof) ?_))
def cJ(t a:Int)(n:aM):Bool:=dJ 0 99 n.id&&(if n.bU=true then Ha n.entry else(n.entry.id==n.id)&&dz t a n.entry.bj n.entry.proof)
theorem y5(t a:Int)(n:aM)(hl:bu n≤1048576):aD Tryz.prog 47 [.a 2 [J t,J a], .a 7 (bg n)] (B (cJ t a n)):=by
 have hp:b7 n.entry.proof≤1048576:=by simp only[bu,nu] at hl;omega
 refine cF Tryz.func47 (h:= ?_)
 repeat'((conv=>whnf);first
  |(apply bh.mk;first|(simp_all[cJ,cO,cM];done)|skip)
  |((first|apply bA|apply bB|apply bC|apply bD|apply bE|apply bF)<;>intro h<;>(try simp only[List.length_map] at h)<;>(try omega)<;>(try contradiction))|(guard_target=aa _ 45 _ _ _ _;refine cP rfl (fa _ _ _) ?_)|(guard_target=aa _ 96 _ _ _ _;refine cP rfl (vA n.entry) ?_)|(guard_target=aa _ 97 _ _ _ _;refine cP rfl (xf t a n.entry.bj n.entry.proof hp) ?_))
theorem xJ(t a:Int)(n:aM)(hl:bu n≤1048576):aD Tryz.prog 88 [.a 2 [J t,J a], .c (.rp 7 (bg n))] (B (cJ t a n)):=by
 have hp:b7 n.entry.proof≤1048576:=by simp only[bu,nu] at hl;omega
 refine cF Tryz.func88 (h:= ?_)
 repeat'((conv=>whnf);first
  |(apply bh.mk;first|(simp_all[cJ,cO,cM];done)|(simp_all[cJ,Ha,cO,cM];done)|skip)
  |(apply Fact.mk;intro hL;try simp only[List.length_map,maxLen] at hL)
  |((first|apply bA|apply bB|apply bC|apply bD|apply bE|apply bF)<;>intro h<;>(try simp only[List.length_map] at h)<;>(try omega)<;>(try contradiction))|(guard_target=aa _ 86 _ _ _ _;refine cP rfl (dH _ _ _) ?_)|(guard_target=aa _ 92 _ _ _ _;refine cP rfl (vh n.entry.proof) ?_)|(guard_target=aa _ 91 _ _ _ _;refine cP rfl (u9 t a n.entry.bj n.entry.proof hp) ?_)
  |refine nB ?_)
abbrev n0:aM:=⟨false,0,⟨0,[],⟨⟨0,0⟩,[]⟩⟩⟩
def fK(t a:Int)(l:List aM)(i:Nat):Bool:=cJ t a (l.getD i n0)&&(decide (bz (l.take i) (l.getD i n0).bU (l.getD i n0).id<0)&&gG (l.take i) (l.getD i n0).entry.bj)
def l6(n:Nat)(p:Nat→Bool):Bool:=(List.range n).all p
theorem qd{n:Nat}{p:Nat→Bool}(h:l6 n p=true)(hp:p n=true):l6 (n+1) p=true:=by
 unfold l6 at h⊢
 rw[List.range_succ,List.all_append,h]
 simp[hp]
theorem Bk{n i:Nat}{p:Nat→Bool}(hi:i<n)(hp:p i=false):l6 n p=false:=by
 unfold l6
 rw[List.all_eq_false]
 exact⟨i,by simp[hi],by simp[hp]⟩
theorem Db{n i:Nat}{p:Nat→Bool}(h:l6 n p=true)(hi:i<n):p i=true:=by
 unfold l6 at h
 rw[List.all_eq_true] at h
 exact h i (by simp[hi])
def ed(t a:Int)(l:List aM):Bool:=l6 l.length (fK t a l)
def ck(t a:Int)(s:aO):Bool:=
 decide ((s.notes.length:Int)≤20)&&(dJ 0 s.notes.length s.saved&&((s.up||s.saved==s.notes.length)&&ed t a s.notes))
theorem zb{t a:Int}{s:aO}{i:Nat}(hi:i<s.notes.length)(h:fK t a s.notes i=false):ck t a s=false:=by
 unfold ck ed
 rw[Bk hi h]
 simp
theorem y1{t a:Int}{l:List aM}{i:Nat}(h:¬(cJ t a (l.getD i n0)=true∧bz (l.take i) (l.getD i n0).bU (l.getD i n0).id<0∧gG (l.take i) (l.getD i n0).entry.bj=true)):fK t a l i=false:=by
 cases hb:fK t a l i with
 |false=>rfl
 |true=>
  unfold fK at hb
  simp only[Bool.and_eq_true,decide_eq_true_eq] at hb
  exact absurd hb h
theorem wq{t a:Int}{l:List aM}{i:Nat}(h1:cJ t a (l.getD i n0)=true)(h2:¬bz (l.take i) (l.getD i n0).bU (l.getD i n0).id≥0)(h3:gG (l.take i) (l.getD i n0).entry.bj=true):fK t a l i=true:=by
 unfold fK
 rw[h1,h3,decide_eq_true (by omega)]
 rfl
theorem Ej(t a:Int)(s:aO)(hl:c7 s≤1048576):aD Tryz.prog 46 [.a 2 [J t,J a], .a 3 (cE s)] (B (ck t a s)):=by
 have hn:∀i,i<s.notes.length→bu (s.notes.getD i n0)≤1048576:=fun i h=>by
  rw[getD_eq h]
  have:=cS bu (List.getElem_mem h)
  simp only[c7] at hl
  omega
 refine cF Tryz.func46 (h:= ?_)
 repeat'((conv=>whnf);first
  |(apply bh.mk;first|(simp_all[ck,cO,cM];done)|(simp_all[ck,cO,cM];omega;done)|(((try simp only[qk] at*);refine dV (zb (i:=i) (by omega) (y1 ?_));rintro⟨g1,g2,g3⟩;first|omega|(rw[g1] at h;cases h)|(rw[g3] at h;cases h));done)|((refine fF ?_;have e:i=s.notes.length:=(by omega);rw[e] at ha;have h9:ed t a s.notes=true:=ha.2;clear ha;simp_all[ck]);done)|skip)|(guard_target=~ aK 5 _ _ _ _ _ _;refine lp (Nat) [2,3,32,33] (fun i=>[(34,I i)]) (fun i=>i≤s.notes.length∧l6 i (fK t a s.notes)=true) (fun i=>s.notes.length-i) 0 (by exact⟨Nat.zero_le _,rfl⟩) (fun i ha=> ?_))
  |refine nx (i+1:Nat) (by((try simp only[qk] at*);exact⟨by show i+1≤_;omega,qd ha.2 (wq ‹_› ‹_› h)⟩))
  |(apply Fact.mk;intro hL;try simp only[List.length_map,maxLen] at hL)
  |((first|apply bA|apply bB|apply bC|apply bD|apply bE|apply bF)<;>intro h<;>(try simp only[List.length_map] at h)<;>(try omega)<;>(try contradiction))|(guard_target=aa _ 45 _ _ _ _;refine cP rfl (fa _ _ _) ?_)|(guard_target=aa _ 47 _ _ _ _;refine cP rfl (y5 t a _ (hn i (by omega))) ?_)|(guard_target=aa _ 59 _ _ _ _;refine cP rfl (LN s.notes 0 i _ _) ?_)|(guard_target=aa _ 95 _ _ _ _;refine cP rfl (z6 s.notes 0 i _) ?_)
  |refine aR ?_|(guard_target=Index _ _ _;first|(refine Index.mk _ (aF (d:=n0) (i:=i) (by omega)) ?_)|fail)
  |refine nB ?_
  |refine nO ?_)
theorem Al(t a:Int)(s:aO)(hl:c7 s≤1048576):aD Tryz.prog 87 [.a 2 [J t,J a], .c (.rp 3 (cE s))] (B (ck t a s)):=by
 have hn:∀i,i<s.notes.length→bu (s.notes.getD i n0)≤1048576:=fun i h=>by
  rw[getD_eq h]
  have:=cS bu (List.getElem_mem h)
  simp only[c7] at hl
  omega
 refine cF Tryz.func87 (h:= ?_)
 repeat'((conv=>whnf);first
  |(apply bh.mk;first|(simp_all[ck,cO,cM];done)|(simp_all[ck,cO,cM];omega;done)|(((try simp only[qk] at*);refine dV (zb (i:=i) (by omega) (y1 ?_));rintro⟨g1,g2,g3⟩;first|omega|(rw[g1] at h;cases h)|(rw[g3] at h;cases h));done)|((refine fF ?_;have e:i=s.notes.length:=(by omega);rw[e] at ha;have h9:ed t a s.notes=true:=ha.2;clear ha;simp_all[ck]);done)|skip)|(guard_target=~ aK 5 _ _ _ _ _ _;refine lp (Nat) [1,2] (fun i=>[(6,I i)]) (fun i=>i≤s.notes.length∧l6 i (fK t a s.notes)=true) (fun i=>s.notes.length-i) 0 (by exact⟨Nat.zero_le _,rfl⟩) (fun i ha=> ?_))
  |refine nx (i+1:Nat) (by((try simp only[qk] at*);exact⟨by show i+1≤_;omega,qd ha.2 (wq ‹_› ‹_› h)⟩))
  |(apply Fact.mk;intro hL;try simp only[List.length_map,maxLen] at hL)
  |((first|apply bA|apply bB|apply bC|apply bD|apply bE|apply bF)<;>intro h<;>(try simp only[List.length_map] at h)<;>(try omega)<;>(try contradiction))|(guard_target=aa _ 86 _ _ _ _;refine cP rfl (dH _ _ _) ?_)|(guard_target=aa _ 88 _ _ _ _;refine cP rfl (xJ t a _ (hn i (by omega))) ?_)|(guard_target=aa _ 60 _ _ _ _;refine cP rfl (Ds s.notes 0 i _ _) ?_)|(guard_target=aa _ 115 _ _ _ _;refine cP rfl (EL s.notes 0 i _) ?_)
  |refine aR ?_|(guard_target=Index _ _ _;first|(refine Index.mk _ (aF (d:=n0) (i:=i) (by omega)) ?_)|fail)
  |refine nB ?_
  |refine nO ?_)
end Go.Proofs.YtgbggaddpbghfaaGreat
namespace Go.Proofs.YtgbggaddpbghfaaGreat
open Go Go.KA Go.Proofs
set_option maxHeartbeats 16000000
set_option maxRecDepth 100000
section
variable{α:Type}{a b:List α}{i:Nat}
theorem ke(h:¬a.length=b.length):eqv a b=false:=fx fun e=>h (by rw[e])
theorem mS(hi:i<a.length)(hj:i<b.length)(h:eqv a[i] b[i]=false):eqv a b=false:=fx fun e=>by
 subst e
 simp at h
theorem mJ(hi:i<a.length)(hj:i<b.length)(ht:a.take i=b.take i)(h:eqv a[i] b[i]=true):a.take (i+1)=b.take (i+1):=by
 rw[List.take_add_one,List.take_add_one,ht,List.getElem?_eq_getElem hi,List.getElem?_eq_getElem hj,eqv_true.1 h]
theorem j9(hl:a.length=b.length)(hi:¬i<a.length)(ht:a.take i=b.take i):eqv a b=true:=by
 rw[List.take_of_length_le (by omega),List.take_of_length_le (by omega)] at ht
 exact eqv_true.2 ht
end
theorem xE(a b:List Int):aD Tryz.prog 94 [.c (.ro 1 (a.map eI)), .c (.ro 1 (b.map eI))] (B (eqv a b)):=by
 refine cF Tryz.func94 (h:= ?_)
 repeat'((conv=>whnf);first
  |(apply bh.mk;first|(exact dV (ke (by omega));done)|(exact dV (mS (i:=i) (by omega) (by omega) (fx h));done)|(exact fF (j9 ha.2.1 (by omega) ha.2.2);done)|skip)|(guard_target=~ aK 4 _ _ _ _ _ _;refine lp (Nat) [0,1] (fun i=>[(5,I i)]) (fun i=>i≤a.length∧a.length=b.length∧a.take i=b.take i) (fun i=>a.length-i) 0 (by exact⟨Nat.zero_le _,by omega,rfl⟩) (fun i ha=> ?_))
  |refine nx (i+1:Nat) (by exact⟨by show i+1≤_;omega,ha.2.1,mJ (by omega) (by omega) ha.2.2 (lU h)⟩)
  |(apply Fact.mk;intro hL;try simp only[List.length_map,maxLen] at hL)
  |((first|apply bA|apply bB|apply bC|apply bD|apply bE|apply bF)<;>intro h<;>(try simp only[List.length_map] at h)<;>(try omega)<;>(try contradiction))
  |refine aR ?_|(guard_target=Index _ _ _;first|(refine Index.mk _ (bw (i:=i) (by omega)) ?_)|fail)
  |refine nB ?_
  |refine nO ?_)
theorem Eb(a b:List Int):aD Tryz.prog 98 [.c (.ro 1 (a.map eI)), .c (.ro 1 (b.map eI))] (B (eqv a b)):=by
 refine cF Tryz.func98 (h:= ?_)
 repeat'((conv=>whnf);first
  |(apply bh.mk;first|(exact dV (ke (by omega));done)|(exact dV (mS (i:=i) (by omega) (by omega) (fx h));done)|(exact fF (j9 ha.2.1 (by omega) ha.2.2);done)|skip)|(guard_target=~ aK 4 _ _ _ _ _ _;refine lp (Nat) [0,1,12] (fun i=>[(13,I i)]) (fun i=>i≤a.length∧a.length=b.length∧a.take i=b.take i) (fun i=>a.length-i) 0 (by exact⟨Nat.zero_le _,by omega,rfl⟩) (fun i ha=> ?_))
  |refine nx (i+1:Nat) (by exact⟨by show i+1≤_;omega,ha.2.1,mJ (by omega) (by omega) ha.2.2 (lU h)⟩)
  |(apply Fact.mk;intro hL;try simp only[List.length_map,maxLen] at hL)
  |((first|apply bA|apply bB|apply bC|apply bD|apply bE|apply bF)<;>intro h<;>(try simp only[List.length_map] at h)<;>(try omega)<;>(try contradiction))
  |refine aR ?_|(guard_target=Index _ _ _;first|(refine Index.mk _ (bw (i:=i) (by omega)) ?_)|fail)
  |refine nB ?_
  |refine nO ?_)
theorem QA(x y:ae):eqv x y=((x.kind==y.kind)&&((x.num==y.num)&&eqv x.kids y.kids)):=by
 cases x;cases y
 refine Bool.eq_iff_iff.2 ?_
 simp[ae.kind,ae.num,ae.kids]
theorem DQ(x y:ae)(hx:∀u∈x.kids,∀v,aD Tryz.prog 51 [.c (.rp 3 (ag u)), .c (.rp 3 (ag v))] (B (eqv u v))):aD Tryz.prog 51 [.c (.rp 3 (aI x)), .c (.rp 3 (aI y))] (B (eqv x y)):=by
 rw[QA]
 refine cF Tryz.func51 (h:= ?_)
 repeat'((conv=>whnf);first
  |(apply bh.mk;first|((refine dV ?_;rw[ke (by omega),Bool.and_false,Bool.and_false]);done)|((refine dV ?_;rw[mS (i:=i) (by omega) (by omega) (fx h),Bool.and_false,Bool.and_false]);done)|((refine fF ?_;rw[j9 ha.2.1 (by omega) ha.2.2];simp_all;done);done)|((refine dV ?_;simp_all;done);done)|skip)|(guard_target=~ aK 4 _ _ _ _ _ _;refine lp (Nat) [0,1] (fun i=>[(5,I i)]) (fun i=>i≤x.kids.length∧x.kids.length=y.kids.length∧x.kids.take i=y.kids.take i) (fun i=>x.kids.length-i) 0 (by exact⟨Nat.zero_le _,by omega,rfl⟩) (fun i ha=> ?_))
  |refine nx (i+1:Nat) (by exact⟨by show i+1≤_;omega,ha.2.1,mJ (by omega) (by omega) ha.2.2 (lU h)⟩)
  |(apply Fact.mk;intro hL;try simp only[List.length_map,maxLen] at hL)
  |((first|apply bA|apply bB|apply bC|apply bD|apply bE|apply bF)<;>intro h<;>(try simp only[List.length_map] at h)<;>(try omega)<;>(try contradiction))|(guard_target=aa _ 51 _ _ _ _;refine cP rfl (hx _ (List.getElem_mem (by omega)) _) ?_)
  |refine aR ?_|(guard_target=Index _ _ _;first|(refine Index.mk _ (bw (i:=i) (by omega)) ?_)|fail)
  |refine nB ?_
  |refine nO ?_)
theorem nL(x y:ae):aD Tryz.prog 51 [.c (.rp 3 (ag x)), .c (.rp 3 (ag y))] (B (eqv x y)):=by
 rw[a9,a9]
 exact DQ x y fun u _hx v=>nL u v
 termination_by SizeOf.sizeOf x
 decreasing_by
  have:=List.sizeOf_lt_of_mem _hx
  cases x
  simp only[ae.mk.sizeOf_spec]
  show SizeOf.sizeOf u<_
  simp only[ae.kids] at this
  omega
theorem wU(a b:List ae)(hx:∀u∈a,∀v,aD Tryz.prog 152 [.a 3 (ag u), .a 3 (ag v)] (B (eqv u v))):aD Tryz.prog 178 [.c (.ro 3 (a.map ag)), .c (.ro 3 (b.map ag)), .clo 152 []] (B (eqv a b)):=by
 refine cF Tryz.func178 (h:= ?_)
 repeat'((conv=>whnf);first
  |(apply bh.mk;first|(exact dV (ke (by omega));done)|(exact dV (mS (i:=i) (by omega) (by omega) (fx h));done)|(exact fF (j9 ha.2.1 (by omega) ha.2.2);done)|skip)|(guard_target=~ aK 4 _ _ _ _ _ _;refine lp (Nat) [1,2,15,16] (fun i=>[(17,I i)]) (fun i=>i≤a.length∧a.length=b.length∧a.take i=b.take i) (fun i=>a.length-i) 0 (by exact⟨Nat.zero_le _,by omega,rfl⟩) (fun i ha=> ?_))
  |refine nx (i+1:Nat) (by exact⟨by show i+1≤_;omega,ha.2.1,mJ (by omega) (by omega) ha.2.2 (lU h)⟩)
  |(apply Fact.mk;intro hL;try simp only[List.length_map,maxLen] at hL)
  |((first|apply bA|apply bB|apply bC|apply bD|apply bE|apply bF)<;>intro h<;>(try simp only[List.length_map] at h)<;>(try omega)<;>(try contradiction))|(guard_target=aa _ 152 _ _ _ _;refine cP rfl (hx _ (List.getElem_mem (by omega)) _) ?_)
  |refine aR ?_|(guard_target=Index _ _ _;first|(refine Index.mk _ (bw (i:=i) (by omega)) ?_)|fail)
  |refine nO ?_)
theorem oZ(x y:ae):aD Tryz.prog 152 [.a 3 (ag x), .a 3 (ag y)] (B (eqv x y)):=by
 rw[a9,a9,QA]
 have h0:=wU x.kids y.kids fun u _hx v=>oZ u v
 refine cF Tryz.func152 (h:= ?_)
 repeat'((conv=>whnf);first
  |(apply bh.mk;first|((simp_all[fx,cO,cM];done);done)|skip)
  |((first|apply bA|apply bB|apply bC|apply bD|apply bE|apply bF)<;>intro h<;>(try simp only[List.length_map] at h)<;>(try omega)<;>(try contradiction))|(guard_target=aa _ 178 _ _ _ _;refine cP rfl (h0) ?_))
 termination_by SizeOf.sizeOf x
 decreasing_by
  have:=List.sizeOf_lt_of_mem _hx
  cases x
  simp only[ae.mk.sizeOf_spec]
  show SizeOf.sizeOf u<_
  simp only[ae.kids] at this
  omega
theorem Ag(a b:List ae):aD Tryz.prog 179 [.c (.ro 3 (a.map ag)), .c (.ro 3 (b.map ag))] (B (eqv a b)):=by
 have h0:=wU a b fun u _ v=>oZ u v
 refine cF Tryz.func179 (h:= ?_)
 repeat'((conv=>whnf);first
  |(apply bh.mk;first|(rfl;done)|skip)|(guard_target=aa _ 178 _ _ _ _;refine cP rfl (h0) ?_))
theorem wN(a b:List ae):aD Tryz.prog 129 [.c (.ro 3 (a.map ag)), .c (.ro 3 (b.map ag))] (B (eqv a b)):=by
 refine cF Tryz.func129 (h:= ?_)
 repeat'((conv=>whnf);first
  |(apply bh.mk;first|(exact dV (ke (by omega));done)|(exact dV (mS (i:=i) (by omega) (by omega) (fx h));done)|(exact fF (j9 ha.2.1 (by omega) ha.2.2);done)|skip)|(guard_target=~ aK 4 _ _ _ _ _ _;refine lp (Nat) [0,1] (fun i=>[(5,I i)]) (fun i=>i≤a.length∧a.length=b.length∧a.take i=b.take i) (fun i=>a.length-i) 0 (by exact⟨Nat.zero_le _,by omega,rfl⟩) (fun i ha=> ?_))
  |refine nx (i+1:Nat) (by exact⟨by show i+1≤_;omega,ha.2.1,mJ (by omega) (by omega) ha.2.2 (lU h)⟩)
  |(apply Fact.mk;intro hL;try simp only[List.length_map,maxLen] at hL)
  |((first|apply bA|apply bB|apply bC|apply bD|apply bE|apply bF)<;>intro h<;>(try simp only[List.length_map] at h)<;>(try omega)<;>(try contradiction))|(guard_target=aa _ 51 _ _ _ _;refine cP rfl (nL _ _) ?_)
  |refine aR ?_|(guard_target=Index _ _ _;first|(refine Index.mk _ (bw (i:=i) (by omega)) ?_)|fail)
  |refine nB ?_
  |refine nO ?_)
theorem P0(x y:aB):eqv x y=((x.use==y.use)&&((x.back==y.back)&&(eqv x.path y.path&&(eqv x.au y.au&&eqv x.c9 y.c9)))):=by
 cases x;cases y
 refine Bool.eq_iff_iff.2 ?_
 simp
theorem BY(x y:aB):aD Tryz.prog 154 [.a 5 (bP x), .a 5 (bP y)] (B (eqv x y)):=by
 rw[P0]
 refine cF Tryz.func154 (h:= ?_)
 repeat'((conv=>whnf);first
  |(apply bh.mk;first|((simp_all[fx,cO,cM];done);done)|skip)
  |((first|apply bA|apply bB|apply bC|apply bD|apply bE|apply bF)<;>intro h<;>(try simp only[List.length_map] at h)<;>(try omega)<;>(try contradiction))|(guard_target=aa _ 98 _ _ _ _;refine cP rfl (Eb _ _) ?_)|(guard_target=aa _ 179 _ _ _ _;refine cP rfl (Ag _ _) ?_))
theorem wW(x y:aB):aD Tryz.prog 101 [.c (.rp 5 (bP x)), .c (.rp 5 (bP y))] (B (eqv x y)):=by
 rw[P0]
 refine cF Tryz.func101 (h:= ?_)
 repeat'((conv=>whnf);first
  |(apply bh.mk;first|((simp_all[fx,cO,cM];done);done)|skip)
  |((first|apply bA|apply bB|apply bC|apply bD|apply bE|apply bF)<;>intro h<;>(try simp only[List.length_map] at h)<;>(try omega)<;>(try contradiction))|(guard_target=aa _ 94 _ _ _ _;refine cP rfl (xE _ _) ?_)|(guard_target=aa _ 129 _ _ _ _;refine cP rfl (wN _ _) ?_)
  |refine nB ?_)
theorem EI(a b:List aB):aD Tryz.prog 153 [.c (.ro 5 (a.map bP)), .c (.ro 5 (b.map bP)), .clo 154 []] (B (eqv a b)):=by
 refine cF Tryz.func153 (h:= ?_)
 repeat'((conv=>whnf);first
  |(apply bh.mk;first|(exact dV (ke (by omega));done)|(exact dV (mS (i:=i) (by omega) (by omega) (fx h));done)|(exact fF (j9 ha.2.1 (by omega) ha.2.2);done)|skip)|(guard_target=~ aK 4 _ _ _ _ _ _;refine lp (Nat) [1,2,15,16] (fun i=>[(17,I i)]) (fun i=>i≤a.length∧a.length=b.length∧a.take i=b.take i) (fun i=>a.length-i) 0 (by exact⟨Nat.zero_le _,by omega,rfl⟩) (fun i ha=> ?_))
  |refine nx (i+1:Nat) (by exact⟨by show i+1≤_;omega,ha.2.1,mJ (by omega) (by omega) ha.2.2 (lU h)⟩)
  |(apply Fact.mk;intro hL;try simp only[List.length_map,maxLen] at hL)
  |((first|apply bA|apply bB|apply bC|apply bD|apply bE|apply bF)<;>intro h<;>(try simp only[List.length_map] at h)<;>(try omega)<;>(try contradiction))|(guard_target=aa _ 154 _ _ _ _;refine cP rfl (BY _ _) ?_)
  |refine aR ?_|(guard_target=Index _ _ _;first|(refine Index.mk _ (bw (i:=i) (by omega)) ?_)|fail)
  |refine nO ?_)
theorem vD(a b:List aB):aD Tryz.prog 52 [.c (.ro 5 (a.map bP)), .c (.ro 5 (b.map bP))] (B (eqv a b)):=by
 refine cF Tryz.func52 (h:= ?_)
 repeat'((conv=>whnf);first
  |(apply bh.mk;first|(exact dV (ke (by omega));done)|(exact dV (mS (i:=i) (by omega) (by omega) (fx h));done)|(exact fF (j9 ha.2.1 (by omega) ha.2.2);done)|skip)|(guard_target=~ aK 4 _ _ _ _ _ _;refine lp (Nat) [0,1] (fun i=>[(5,I i)]) (fun i=>i≤a.length∧a.length=b.length∧a.take i=b.take i) (fun i=>a.length-i) 0 (by exact⟨Nat.zero_le _,by omega,rfl⟩) (fun i ha=> ?_))
  |refine nx (i+1:Nat) (by exact⟨by show i+1≤_;omega,ha.2.1,mJ (by omega) (by omega) ha.2.2 (lU h)⟩)
  |(apply Fact.mk;intro hL;try simp only[List.length_map,maxLen] at hL)
  |((first|apply bA|apply bB|apply bC|apply bD|apply bE|apply bF)<;>intro h<;>(try simp only[List.length_map] at h)<;>(try omega)<;>(try contradiction))|(guard_target=aa _ 101 _ _ _ _;refine cP rfl (wW _ _) ?_)
  |refine aR ?_|(guard_target=Index _ _ _;first|(refine Index.mk _ (bw (i:=i) (by omega)) ?_)|fail)
  |refine nB ?_
  |refine nO ?_)
theorem P8(x y:bm):eqv x y=(eqv x.left y.left&&(eqv x.right y.right&&((x.kg==y.kg)&&((x.ref==y.ref)&&eqv x.steps y.steps)))):=by
 cases x;cases y
 refine Bool.eq_iff_iff.2 ?_
 simp
theorem qL(x y:ae):aD Tryz.prog 152 [.a 3 (aI x), .a 3 (aI y)] (B (eqv x y)):=by
 have:=oZ x y
 rwa[a9,a9] at this
theorem As(x y:bm):aD Tryz.prog 128 [.a 9 (aH x), .a 9 (aH y)] (B (eqv x y)):=by
 rw[P8]
 refine cF Tryz.func128 (h:= ?_)
 repeat'((conv=>whnf);first
  |(apply bh.mk;first|((simp_all[fx,cO,cM];done);done)|skip)
  |((first|apply bA|apply bB|apply bC|apply bD|apply bE|apply bF)<;>intro h<;>(try simp only[List.length_map] at h)<;>(try omega)<;>(try contradiction))|(guard_target=aa _ 153 _ _ _ _;refine cP rfl (EI _ _) ?_)|(guard_target=aa _ 152 _ _ _ _;(first|refine aa.pure _ _ rfl (qL x.left y.left) rfl _ rfl ?_|refine aa.pure _ _ rfl (qL x.right y.right) rfl _ rfl ?_)))
theorem Hz(a b:List bm):aD Tryz.prog 127 [.c (.ro 9 (a.map aH)), .c (.ro 9 (b.map aH)), .clo 128 []] (B (eqv a b)):=by
 refine cF Tryz.func127 (h:= ?_)
 repeat'((conv=>whnf);first
  |(apply bh.mk;first|(exact dV (ke (by omega));done)|(exact dV (mS (i:=i) (by omega) (by omega) (fx h));done)|(exact fF (j9 ha.2.1 (by omega) ha.2.2);done)|skip)|(guard_target=~ aK 4 _ _ _ _ _ _;refine lp (Nat) [1,2,15,16] (fun i=>[(17,I i)]) (fun i=>i≤a.length∧a.length=b.length∧a.take i=b.take i) (fun i=>a.length-i) 0 (by exact⟨Nat.zero_le _,by omega,rfl⟩) (fun i ha=> ?_))
  |refine nx (i+1:Nat) (by exact⟨by show i+1≤_;omega,ha.2.1,mJ (by omega) (by omega) ha.2.2 (lU h)⟩)
  |(apply Fact.mk;intro hL;try simp only[List.length_map,maxLen] at hL)
  |((first|apply bA|apply bB|apply bC|apply bD|apply bE|apply bF)<;>intro h<;>(try simp only[List.length_map] at h)<;>(try omega)<;>(try contradiction))|(guard_target=aa _ 128 _ _ _ _;refine cP rfl (As _ _) ?_)
  |refine aR ?_|(guard_target=Index _ _ _;first|(refine Index.mk _ (bw (i:=i) (by omega)) ?_)|fail)
  |refine nO ?_)
theorem QC(x y:cx):eqv x y=((x.sig.au==y.sig.au&&x.sig.ai==y.sig.ai)&&eqv x.ao y.ao):=by
 obtain⟨⟨a,b⟩,c⟩:=x
 obtain⟨⟨a',b'⟩,c'⟩:=y
 refine Bool.eq_iff_iff.2 ?_
 simp
theorem Ae(x y:cx):aD Tryz.prog 99 [.a 3 (cK x), .a 3 (cK y)] (B (eqv x y)):=by
 rw[QC]
 refine cF Tryz.func99 (h:= ?_)
 repeat'((conv=>whnf);first
  |(apply bh.mk;first|((simp_all[fx,cO,cM];done);done)|skip)
  |((first|apply bA|apply bB|apply bC|apply bD|apply bE|apply bF)<;>intro h<;>(try simp only[List.length_map] at h)<;>(try omega)<;>(try contradiction))|(guard_target=aa _ 127 _ _ _ _;refine cP rfl (Hz _ _) ?_))
end Go.Proofs.YtgbggaddpbghfaaGreat
