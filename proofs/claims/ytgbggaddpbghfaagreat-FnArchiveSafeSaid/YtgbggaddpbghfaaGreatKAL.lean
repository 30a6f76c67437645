/- Contract of the reference's node at a path. Conditions: bounds of size. -/
import Derived.Test.YtgbggaddpbghfaaGreatKAK
namespace Go.Proofs.YtgbggaddpbghfaaGreat
open Go Go.KA Go.Proofs Go.Proofs.Tryz
set_option maxHeartbeats 16000000
set_option maxRecDepth 100000
theorem xR{x:aA}{p:List Int}{i:Nat}{b:Bool}(h:i<p.length)(hr:ee 0 ((x.kids.length:Int)-1) p[i]=true):pK x (p.drop i) b=pK (x.kids.getD (p[i]).toNat dm) (p.drop (i+1)) (b||decide (x.kind=5)):=by
 have h1:=bQ hr;rw[List.drop_eq_getElem_cons h,pK,if_pos ⟨h1.1,by simpa using h1.2⟩]
theorem OW{x:aA}{p:List Int}{i:Nat}{b:Bool}(h:i<p.length)(hr:ee 0 ((x.kids.length:Int)-1) p[i]=false):pK x (p.drop i) b=(x,b,false):=by
 rw[List.drop_eq_getElem_cons h,pK,if_neg];intro h2;rw[eL h2.1 (by simpa using h2.2)]at hr;cases hr
theorem O8{x:aA}{p:List Int}{i:Nat}{b:Bool}(h:¬i<p.length):pK x (p.drop i) b=(x,b,true):=by
 rw[List.drop_of_length_le (by omega)];rfl
theorem zh(x:aA):x.kids.length≤aH x:=by
 have:∀l:List aA,l.length≤bd l:=fun l=>by
  induction l with
  |nil=>exact ah _
  |cons x xs ih=>simp only[bd,List.length_cons];omega
 cases x;simp only[aH,aA.kids];exact this _
theorem EP(x:aA)(i:Nat):aH (x.kids.getD i dm)≤aH x:=by
 have:=y7 x.kids i;cases x;simp only[aH,aA.kids]at this⊢;exact this
theorem Q3(e:aA)(p:List Int)(hb:aH e≤1048576):aS prog 197 [.c (.rp 3 (aY e)), .c (.ro 1 (p.map eI))] (.tup [.c (.rp 3 (aY (pK e p false).1)),B (pK e p false).2.1,B (pK e p false).2.2]):=by
 obtain⟨R,hR⟩:∃R,pK e p false=R:=⟨_,rfl⟩
 rw[hR];have cr:=fun x lo hi=>ed x lo hi
 refine cF func197 (h:=?_)
 repeat'((conv=>whnf);first
  |(apply bP.mk;first|((rw[<-hA,OW (by omega) (by simpa using‹ee 0 _ _=false›)];rfl);done)|((rw[<-hA,O8 (by omega)];rfl);done)|skip)|(show aZ 3 _ _ _ _ _ _;refine lp (aA × SV × Bool × Nat) [1] (fun⟨x,S,b,i⟩=>[(0, .c (.rp 3 (aY x))),(7,S),(8,I (i:Nat))]) (fun⟨x,S,b,i⟩=>(S= .c (.cb b)\/S=B b)/\i≤p.length/\pK x (p.drop i) b=R/\aH x≤1048576) (fun⟨x,S,b,i⟩=>p.length-i) (e, .c (.cb false),false,0) (by exact⟨.inl rfl,ah _,hR,hb⟩) (fun A ha=>?_);obtain⟨x,S,b,i⟩:=A;have ha:(S= .c (.cb b)\/S=B b)/\i≤p.length/\pK x (p.drop i) b=R/\aH x≤1048576:=ha;(obtain⟨hS,hi,hA,hB⟩:=ha);(have W3:=zh x);(have NQ:=EP x);(rcases hS with rfl|rfl<;>cases b))
  |refine nx ((x.kids.getD (p[i]'(by omega)).toNat dm, .c (.cb true),true,i+1):aA × SV × Bool × Nat) (by exact⟨.inl rfl,by show i+1≤_;omega,by show pK _ (p.drop (i+1)) true=R;rw[<-hA];exact(xR (b:=true) (by omega) (by simpa using‹ee 0 _ _=true›)).symm,Nat.le_trans (NQ _) hB⟩)
  |refine nx ((x.kids.getD (p[i]'(by omega)).toNat dm,B (x.kind==5),x.kind==5,i+1):aA × SV × Bool × Nat) (by exact⟨.inr rfl,by show i+1≤_;omega,by show pK _ (p.drop (i+1)) (x.kind==5)=R;rw[<-hA];exact(xR (b:=false) (by omega) (by simpa using‹ee 0 _ _=true›)).symm,Nat.le_trans (NQ _) hB⟩)
  |(apply Fact.mk;intro hL;try simp only[aa,maxLen]at hL)
  |((apply bX;constructor)<;>intro h<;>(try simp only[aa]at h)<;>(try first|omega|contradiction))|(show ay _ 86 _ _ _ _;refine cP rfl (ed (p[i]'(by omega)) 0 (((x.kids.map aD).length:Nat)-1)) ?_)|(show Arith _ _ _;refine Arith.fit (bu (by simp only[aa];omega) (by simp only[aa];omega)) ?_)
  |refine aR ?_|(show Index _ _ _;first|(refine Index.mk _ (bZ (i:=i) (by omega)) ?_)|(refine Index.mk _ (mn (l:=x.kids) (i:=(p[i]'(by omega)).toNat) (by have h9:=bQ ‹ee 0 _ _=true›;(try simp only[aa]at h9);omega)) ?_)|fail)
  |refine nB ?_|(show bh _ _;refine bh.mk (by first|((have h9:=bQ ‹ee 0 _ _=true›;(try simp only[aa]at h9);omega))|fail) ?_)
  |refine nO ?_)
 all_goals first|rfl|trivial
def dc:List Int->aA->List aA
 |[],e=>e.kids
 |i::p,e=>dc p (e.kids.getD i.toNat dm)
def B8(ks:List aA):List Int->aA->aA
 |[],e=> .mk e.kind e.num ks
 |i::p,e=> .mk e.kind e.num (e.kids.set i.toNat (B8 ks p (e.kids.getD i.toNat dm)))
theorem xx(i:Int):∀(p:List Int) (e:aA),dc (p++[i]) e=((dc p e).getD i.toNat dm).kids
 |[],e=>rfl
 |j::p,e=>by
  rw[List.cons_append,dc,dc,xx i p]
theorem ED(y e:aA)(i:Int)(p:List Int):iS y e (i::p)= .mk e.kind e.num (e.kids.set i.toNat (iS y (e.kids.getD i.toNat dm) p)):=by
 cases e;rfl
theorem Cy(y:aA)(i:Int):∀(p:List Int) (e:aA),B8 ((dc p e).set i.toNat y) p e=iS y e (p++[i])
 |[],e=>by
  rw[List.nil_append,ED,iS];rfl
 |j::p,e=>by
  rw[List.cons_append,ED,B8,dc,Cy y i p]
theorem Dy{l:List aA}{i:Nat}(h:i<l.length):(l.map aM)[i]? =some (cC (l.getD i dm)):=by
 rw[List.getElem?_map,List.getElem?_eq_getElem h,getD_eq h];exact congrArg some (dQ _)
abbrev nZ(a b c d e f g:aA):List CV:=[J a.kind,J a.num, .ro 3 (a.kids.map aD),J b.kind,J b.num, .ro 3 (b.kids.map aD),J c.kind,J c.num, .ro 3 (c.kids.map aD),J d.kind,J d.num, .ro 3 (d.kids.map aD),J e.kind,J e.num, .ro 3 (e.kids.map aD),J f.kind,J f.num, .ro 3 (f.kids.map aD),J g.kind,J g.num, .ro 3 (g.kids.map aD)]
abbrev UU(x:Fit):List CV:=nZ x.t0 x.t1 x.t2 x.a0 x.a1 x.a2 x.a3
theorem nR(x e:aA)(sz:Nat)(hs:3≤sz)(l:List CV):aS prog 51 [.c (.rp sz (aY x++l)), .c (.rp 3 (aY e))] (B (eqv x e)):=(qq x e).cut (lh.cut (sz:=sz) (k:=3) (cs:=aY x++l) hs (.same .nil))
section
variable(a b c d e f g y:aA)(hb:aH y≤1048576)
include hb
theorem UT:aE prog 228 [.c (.op (nZ a b c d e f g)), .c (.rp 3 (aY y))] [some [.op (nZ (ej a y) b c d e f g)]] (B (eV a y)):=by
 by_cases h0:a.kind=0
 ·have e1:ej a y=y:=if_pos h0;have e2:eV a y=true:=if_pos h0;rw[e1,e2];refine cX func228 (h:=?_)
  repeat'((conv=>whnf);first
   |refine aI.mk ?_ ?_
   |((apply bX;constructor)<;>intro h<;>(try simp only[aa]at h)<;>(try first|omega|contradiction))|(show ay _ 137 _ _ _ _;refine cG [] rfl (tz y hb) ?_))
  all_goals first|rfl|trivial
 ·have e1:ej a y=a:=if_neg h0;have e2:eV a y=eqv a y:=if_neg h0;rw[e1,e2];refine cX func228 (h:=?_)
  repeat'((conv=>whnf);first
   |refine aI.mk ?_ ?_
   |((apply bX;constructor)<;>intro h<;>(try simp only[aa]at h)<;>(try first|omega|contradiction))|(show ay _ 51 _ _ _ _;refine cP rfl (nR a y 21 (by decide) [J b.kind,J b.num, .ro 3 (b.kids.map aD),J c.kind,J c.num, .ro 3 (c.kids.map aD),J d.kind,J d.num, .ro 3 (d.kids.map aD),J e.kind,J e.num, .ro 3 (e.kids.map aD),J f.kind,J f.num, .ro 3 (f.kids.map aD),J g.kind,J g.num, .ro 3 (g.kids.map aD)]) ?_))
  all_goals first|rfl|trivial
theorem Wp:aE prog 228 [.tup [.c (.op (nZ a b c d e f g)), .lp 0 3], .c (.rp 3 (aY y))] [some [.op (nZ a (ej b y) c d e f g)]] (B (eV b y)):=by
 by_cases h0:b.kind=0
 ·have e1:ej b y=y:=if_pos h0;have e2:eV b y=true:=if_pos h0;rw[e1,e2];refine cX func228 (h:=?_)
  repeat'((conv=>whnf);first
   |refine aI.mk ?_ ?_
   |((apply bX;constructor)<;>intro h<;>(try simp only[aa]at h)<;>(try first|omega|contradiction))|(show ay _ 137 _ _ _ _;refine cG [] rfl (tz y hb) ?_))
  all_goals first|rfl|trivial
 ·have e1:ej b y=b:=if_neg h0;have e2:eV b y=eqv b y:=if_neg h0;rw[e1,e2];refine cX func228 (h:=?_)
  repeat'((conv=>whnf);first
   |refine aI.mk ?_ ?_
   |((apply bX;constructor)<;>intro h<;>(try simp only[aa]at h)<;>(try first|omega|contradiction))|(show ay _ 51 _ _ _ _;refine cP rfl (nR b y 18 (by decide) [J c.kind,J c.num, .ro 3 (c.kids.map aD),J d.kind,J d.num, .ro 3 (d.kids.map aD),J e.kind,J e.num, .ro 3 (e.kids.map aD),J f.kind,J f.num, .ro 3 (f.kids.map aD),J g.kind,J g.num, .ro 3 (g.kids.map aD)]) ?_))
  all_goals first|rfl|trivial
theorem Wn:aE prog 228 [.tup [.c (.op (nZ a b c d e f g)), .lp 0 6], .c (.rp 3 (aY y))] [some [.op (nZ a b (ej c y) d e f g)]] (B (eV c y)):=by
 by_cases h0:c.kind=0
 ·have e1:ej c y=y:=if_pos h0;have e2:eV c y=true:=if_pos h0;rw[e1,e2];refine cX func228 (h:=?_)
  repeat'((conv=>whnf);first
   |refine aI.mk ?_ ?_
   |((apply bX;constructor)<;>intro h<;>(try simp only[aa]at h)<;>(try first|omega|contradiction))|(show ay _ 137 _ _ _ _;refine cG [] rfl (tz y hb) ?_))
  all_goals first|rfl|trivial
 ·have e1:ej c y=c:=if_neg h0;have e2:eV c y=eqv c y:=if_neg h0;rw[e1,e2];refine cX func228 (h:=?_)
  repeat'((conv=>whnf);first
   |refine aI.mk ?_ ?_
   |((apply bX;constructor)<;>intro h<;>(try simp only[aa]at h)<;>(try first|omega|contradiction))|(show ay _ 51 _ _ _ _;refine cP rfl (nR c y 15 (by decide) [J d.kind,J d.num, .ro 3 (d.kids.map aD),J e.kind,J e.num, .ro 3 (e.kids.map aD),J f.kind,J f.num, .ro 3 (f.kids.map aD),J g.kind,J g.num, .ro 3 (g.kids.map aD)]) ?_))
  all_goals first|rfl|trivial
theorem WR:aE prog 228 [.tup [.c (.op (nZ a b c d e f g)), .lp 0 9], .c (.rp 3 (aY y))] [some [.op (nZ a b c (ej d y) e f g)]] (B (eV d y)):=by
 by_cases h0:d.kind=0
 ·have e1:ej d y=y:=if_pos h0;have e2:eV d y=true:=if_pos h0;rw[e1,e2];refine cX func228 (h:=?_)
  repeat'((conv=>whnf);first
   |refine aI.mk ?_ ?_
   |((apply bX;constructor)<;>intro h<;>(try simp only[aa]at h)<;>(try first|omega|contradiction))|(show ay _ 137 _ _ _ _;refine cG [] rfl (tz y hb) ?_))
  all_goals first|rfl|trivial
 ·have e1:ej d y=d:=if_neg h0;have e2:eV d y=eqv d y:=if_neg h0;rw[e1,e2];refine cX func228 (h:=?_)
  repeat'((conv=>whnf);first
   |refine aI.mk ?_ ?_
   |((apply bX;constructor)<;>intro h<;>(try simp only[aa]at h)<;>(try first|omega|contradiction))|(show ay _ 51 _ _ _ _;refine cP rfl (nR d y 12 (by decide) [J e.kind,J e.num, .ro 3 (e.kids.map aD),J f.kind,J f.num, .ro 3 (f.kids.map aD),J g.kind,J g.num, .ro 3 (g.kids.map aD)]) ?_))
  all_goals first|rfl|trivial
theorem Vu:aE prog 228 [.tup [.c (.op (nZ a b c d e f g)), .lp 0 12], .c (.rp 3 (aY y))] [some [.op (nZ a b c d (ej e y) f g)]] (B (eV e y)):=by
 by_cases h0:e.kind=0
 ·have e1:ej e y=y:=if_pos h0;have e2:eV e y=true:=if_pos h0;rw[e1,e2];refine cX func228 (h:=?_)
  repeat'((conv=>whnf);first
   |refine aI.mk ?_ ?_
   |((apply bX;constructor)<;>intro h<;>(try simp only[aa]at h)<;>(try first|omega|contradiction))|(show ay _ 137 _ _ _ _;refine cG [] rfl (tz y hb) ?_))
  all_goals first|rfl|trivial
 ·have e1:ej e y=e:=if_neg h0;have e2:eV e y=eqv e y:=if_neg h0;rw[e1,e2];refine cX func228 (h:=?_)
  repeat'((conv=>whnf);first
   |refine aI.mk ?_ ?_
   |((apply bX;constructor)<;>intro h<;>(try simp only[aa]at h)<;>(try first|omega|contradiction))|(show ay _ 51 _ _ _ _;refine cP rfl (nR e y 9 (by decide) [J f.kind,J f.num, .ro 3 (f.kids.map aD),J g.kind,J g.num, .ro 3 (g.kids.map aD)]) ?_))
  all_goals first|rfl|trivial
theorem Vi:aE prog 228 [.tup [.c (.op (nZ a b c d e f g)), .lp 0 15], .c (.rp 3 (aY y))] [some [.op (nZ a b c d e (ej f y) g)]] (B (eV f y)):=by
 by_cases h0:f.kind=0
 ·have e1:ej f y=y:=if_pos h0;have e2:eV f y=true:=if_pos h0;rw[e1,e2];refine cX func228 (h:=?_)
  repeat'((conv=>whnf);first
   |refine aI.mk ?_ ?_
   |((apply bX;constructor)<;>intro h<;>(try simp only[aa]at h)<;>(try first|omega|contradiction))|(show ay _ 137 _ _ _ _;refine cG [] rfl (tz y hb) ?_))
  all_goals first|rfl|trivial
 ·have e1:ej f y=f:=if_neg h0;have e2:eV f y=eqv f y:=if_neg h0;rw[e1,e2];refine cX func228 (h:=?_)
  repeat'((conv=>whnf);first
   |refine aI.mk ?_ ?_
   |((apply bX;constructor)<;>intro h<;>(try simp only[aa]at h)<;>(try first|omega|contradiction))|(show ay _ 51 _ _ _ _;refine cP rfl (nR f y 6 (by decide) [J g.kind,J g.num, .ro 3 (g.kids.map aD)]) ?_))
  all_goals first|rfl|trivial
theorem V4:aE prog 228 [.tup [.c (.op (nZ a b c d e f g)), .lp 0 18], .c (.rp 3 (aY y))] [some [.op (nZ a b c d e f (ej g y))]] (B (eV g y)):=by
 by_cases h0:g.kind=0
 ·have e1:ej g y=y:=if_pos h0;have e2:eV g y=true:=if_pos h0;rw[e1,e2];refine cX func228 (h:=?_)
  repeat'((conv=>whnf);first
   |refine aI.mk ?_ ?_
   |((apply bX;constructor)<;>intro h<;>(try simp only[aa]at h)<;>(try first|omega|contradiction))|(show ay _ 137 _ _ _ _;refine cG [] rfl (tz y hb) ?_))
  all_goals first|rfl|trivial
 ·have e1:ej g y=g:=if_neg h0;have e2:eV g y=eqv g y:=if_neg h0;rw[e1,e2];refine cX func228 (h:=?_)
  repeat'((conv=>whnf);first
   |refine aI.mk ?_ ?_
   |((apply bX;constructor)<;>intro h<;>(try simp only[aa]at h)<;>(try first|omega|contradiction))|(show ay _ 51 _ _ _ _;refine cP rfl (nR g y 3 (by decide) []) ?_))
  all_goals first|rfl|trivial
end
abbrev mR(p y:aA)(x:Fit):Prop:=aE prog 223 [.c (.op (UU x)), .c (.rp 3 (aY p)), .c (.rp 3 (aY y))] [some [.op (UU (gM p y x).2)]] (B (gM p y x).1)
theorem PV{ps es:List aA}{z:Fit}{i:Nat}(h1:i<ps.length)(h2:i<es.length):rL (ps.drop i) (es.drop i) z=if(gM (ps.getD i dm) (es.getD i dm) z).1=true then rL (ps.drop (i+1)) (es.drop (i+1)) (gM (ps.getD i dm) (es.getD i dm) z).2 else(false,(gM (ps.getD i dm) (es.getD i dm) z).2):=by
 rw[List.drop_eq_getElem_cons h1,List.drop_eq_getElem_cons h2,rL,getD_eq h1,getD_eq h2]
theorem Lb(l:List aA)(z:Fit):rL [] l z=(true,z):=by
 rw[rL];intro _ _ _ _ h;cases h
section
variable(ks:List aA)(y:aA)(x:Fit)(hb:aH y≤1048576)
include hb
theorem Q2(n:Int)(hc:dq y=false):mR (.mk 3 n ks) y x:=by
 have e1:gM (.mk 3 n ks) y x=(false,x):=by rw[gM,if_pos rfl,hc];rfl
 have c1:=mM y;rw[hc]at c1;have _:=hb;unfold mR;rw[e1];have e0:aY (.mk 3 n ks)=[J 3,J n, .ro 3 (ks.map aD)]:=rfl;rw[e0];obtain⟨a,b,c,d,e,f,g⟩:=x;refine cX func223 (h:=?_)
 repeat'((conv=>whnf);first
  |refine aI.mk ?_ ?_
  |((apply bX;constructor)<;>intro h<;>(try simp only[aa]at h)<;>(try first|omega|contradiction))|(show ay _ 214 _ _ _ _;refine cP rfl (c1) ?_)
  |refine nB ?_)
 all_goals first|rfl|trivial
theorem WT(hc:dq y=true):mR (.mk 3 0 ks) y x:=by
 obtain⟨a,b,c,d,e,f,g⟩:=x;have e1:gM (.mk 3 0 ks) y ⟨a,b,c,d,e,f,g⟩=(eV a y,⟨ej a y,b,c,d,e,f,g⟩):=by rw[gM];simp[ya,hc]
 have c1:=mM y;rw[hc]at c1;have c2:=UT a b c d e f g y hb;unfold mR;rw[e1];have e0:aY (.mk 3 0 ks)=[J 3,J 0, .ro 3 (ks.map aD)]:=rfl;rw[e0];refine cX func223 (h:=?_)
 repeat'((conv=>whnf);first
  |refine aI.mk ?_ ?_
  |((apply bX;constructor)<;>intro h<;>(try simp only[aa]at h)<;>(try first|omega|contradiction))|(show ay _ 214 _ _ _ _;refine cP rfl (c1) ?_)|(show ay _ 228 _ _ _ _;refine cG [true,false] rfl (c2) ?_)
  |refine nB ?_
  |refine nO ?_)
 all_goals first|rfl|trivial
theorem UR(hc:dq y=true):mR (.mk 3 1 ks) y x:=by
 obtain⟨a,b,c,d,e,f,g⟩:=x;have e1:gM (.mk 3 1 ks) y ⟨a,b,c,d,e,f,g⟩=(eV b y,⟨a,ej b y,c,d,e,f,g⟩):=by rw[gM];simp[ya,hc]
 have c1:=mM y;rw[hc]at c1;have c2:=Wp a b c d e f g y hb;unfold mR;rw[e1];have e0:aY (.mk 3 1 ks)=[J 3,J 1, .ro 3 (ks.map aD)]:=rfl;rw[e0];refine cX func223 (h:=?_)
 repeat'((conv=>whnf);first
  |refine aI.mk ?_ ?_
  |((apply bX;constructor)<;>intro h<;>(try simp only[aa]at h)<;>(try first|omega|contradiction))|(show ay _ 214 _ _ _ _;refine cP rfl (c1) ?_)|(show ay _ 228 _ _ _ _;refine cG [true,false] rfl (c2) ?_)
  |refine nB ?_
  |refine nO ?_)
 all_goals first|rfl|trivial
theorem VG(hc:dq y=true):mR (.mk 3 2 ks) y x:=by
 obtain⟨a,b,c,d,e,f,g⟩:=x;have e1:gM (.mk 3 2 ks) y ⟨a,b,c,d,e,f,g⟩=(eV c y,⟨a,b,ej c y,d,e,f,g⟩):=by rw[gM];simp[ya,hc]
 have c1:=mM y;rw[hc]at c1;have c2:=Wn a b c d e f g y hb;unfold mR;rw[e1];have e0:aY (.mk 3 2 ks)=[J 3,J 2, .ro 3 (ks.map aD)]:=rfl;rw[e0];refine cX func223 (h:=?_)
 repeat'((conv=>whnf);first
  |refine aI.mk ?_ ?_
  |((apply bX;constructor)<;>intro h<;>(try simp only[aa]at h)<;>(try first|omega|contradiction))|(show ay _ 214 _ _ _ _;refine cP rfl (c1) ?_)|(show ay _ 228 _ _ _ _;refine cG [true,false] rfl (c2) ?_)
  |refine nB ?_
  |refine nO ?_)
 all_goals first|rfl|trivial
theorem Ve:mR (.mk 4 0 ks) y x:=by
 obtain⟨a,b,c,d,e,f,g⟩:=x;have e1:gM (.mk 4 0 ks) y ⟨a,b,c,d,e,f,g⟩=(eV d y,⟨a,b,c,ej d y,e,f,g⟩):=by rw[gM];simp[uL]
 have c1:=mM y;have c2:=WR a b c d e f g y hb;unfold mR;rw[e1];have e0:aY (.mk 4 0 ks)=[J 4,J 0, .ro 3 (ks.map aD)]:=rfl;rw[e0];refine cX func223 (h:=?_)
 repeat'((conv=>whnf);first
  |refine aI.mk ?_ ?_
  |((apply bX;constructor)<;>intro h<;>(try simp only[aa]at h)<;>(try first|omega|contradiction))|(show ay _ 228 _ _ _ _;refine cG [true,false] rfl (c2) ?_)
  |refine nB ?_
  |refine nO ?_)
 all_goals first|rfl|trivial
theorem Ww:mR (.mk 4 1 ks) y x:=by
 obtain⟨a,b,c,d,e,f,g⟩:=x;have e1:gM (.mk 4 1 ks) y ⟨a,b,c,d,e,f,g⟩=(eV e y,⟨a,b,c,d,ej e y,f,g⟩):=by rw[gM];simp[uL]
 have c1:=mM y;have c2:=Vu a b c d e f g y hb;unfold mR;rw[e1];have e0:aY (.mk 4 1 ks)=[J 4,J 1, .ro 3 (ks.map aD)]:=rfl;rw[e0];refine cX func223 (h:=?_)
 repeat'((conv=>whnf);first
  |refine aI.mk ?_ ?_
  |((apply bX;constructor)<;>intro h<;>(try simp only[aa]at h)<;>(try first|omega|contradiction))|(show ay _ 228 _ _ _ _;refine cG [true,false] rfl (c2) ?_)
  |refine nB ?_
  |refine nO ?_)
 all_goals first|rfl|trivial
theorem V2:mR (.mk 4 2 ks) y x:=by
 obtain⟨a,b,c,d,e,f,g⟩:=x;have e1:gM (.mk 4 2 ks) y ⟨a,b,c,d,e,f,g⟩=(eV f y,⟨a,b,c,d,e,ej f y,g⟩):=by rw[gM];simp[uL]
 have c1:=mM y;have c2:=Vi a b c d e f g y hb;unfold mR;rw[e1];have e0:aY (.mk 4 2 ks)=[J 4,J 2, .ro 3 (ks.map aD)]:=rfl;rw[e0];refine cX func223 (h:=?_)
 repeat'((conv=>whnf);first
  |refine aI.mk ?_ ?_
  |((apply bX;constructor)<;>intro h<;>(try simp only[aa]at h)<;>(try first|omega|contradiction))|(show ay _ 228 _ _ _ _;refine cG [true,false] rfl (c2) ?_)
  |refine nB ?_
  |refine nO ?_)
 all_goals first|rfl|trivial
theorem UZ:mR (.mk 4 3 ks) y x:=by
 obtain⟨a,b,c,d,e,f,g⟩:=x;have e1:gM (.mk 4 3 ks) y ⟨a,b,c,d,e,f,g⟩=(eV g y,⟨a,b,c,d,e,f,ej g y⟩):=by rw[gM];simp[uL]
 have c1:=mM y;have c2:=V4 a b c d e f g y hb;unfold mR;rw[e1];have e0:aY (.mk 4 3 ks)=[J 4,J 3, .ro 3 (ks.map aD)]:=rfl;rw[e0];refine cX func223 (h:=?_)
 repeat'((conv=>whnf);first
  |refine aI.mk ?_ ?_
  |((apply bX;constructor)<;>intro h<;>(try simp only[aa]at h)<;>(try first|omega|contradiction))|(show ay _ 228 _ _ _ _;refine cG [true,false] rfl (c2) ?_)
  |refine nB ?_
  |refine nO ?_)
 all_goals first|rfl|trivial
theorem TN(k n:Int)(h3:¬k=3)(h4:¬k=4)(hk:¬(k=y.kind/\ks.length=y.kids.length)):mR (.mk k n ks) y x:=by
 have e1:gM (.mk k n ks) y x=(false,x):=by rw[gM,if_neg h3,if_neg h4,if_neg hk]
 have _:=hb;unfold mR;rw[e1];have e0:aY (.mk k n ks)=[J k,J n, .ro 3 (ks.map aD)]:=rfl;rw[e0];obtain⟨a,b,c,d,e,f,g⟩:=x;by_cases h1:k=y.kind
 ·have h2:¬((ks.length:Nat):Int)=(y.kids.length:Nat):=fun h=>hk ⟨h1,by omega⟩
  refine cX func223 (h:=?_)
  repeat'((conv=>whnf);first
   |refine aI.mk ?_ ?_
   |((apply bX;constructor)<;>intro h<;>(try simp only[aa]at h)<;>(try first|omega|contradiction))
   |refine nB ?_)
  all_goals first|rfl|trivial
 ·refine cX func223 (h:=?_)
  repeat'((conv=>whnf);first
   |refine aI.mk ?_ ?_
   |((apply bX;constructor)<;>intro h<;>(try simp only[aa]at h)<;>(try first|omega|contradiction))
   |refine nB ?_)
  all_goals first|rfl|trivial
theorem S8(k n:Int)(h3:¬k=3)(h4:¬k=4)(hk:k=y.kind)(hl:ks.length=y.kids.length)(ih:∀i,i<ks.length-> ∀x:Fit,mR (ks.getD i dm) (y.kids.getD i dm) x):mR (.mk k n ks) y x:=by
 obtain⟨R,hR⟩:∃R,rL ks y.kids x=R:=⟨_,rfl⟩
 have e1:gM (.mk k n ks) y x=R:=by rw[gM,if_neg h3,if_neg h4,if_pos ⟨hk,hl⟩,hR]
 have W3:=zh y;unfold mR;rw[e1];have e0:aY (.mk k n ks)=[J k,J n, .ro 3 (ks.map aD)]:=rfl;rw[e0];have h2:((ks.length:Nat):Int)=(y.kids.length:Nat):=by omega
 refine cX func223 (h:=?_)
 repeat'((conv=>whnf);first
  |(show aI _ _;(have h9:¬((i:Nat):Int)<(y.kids.length:Nat):=h);(obtain rfl:R=(true,z):=by rw[<-ha.2,List.drop_of_length_le (by omega),Lb]);exact aI.mk rfl ⟨rfl,trivial⟩)|(show aI _ _;(obtain rfl:R=(false,(gM (ks.getD i dm) (y.kids.getD i dm) z).2):=by rw[<-ha.2,PV (i:=i) (by omega) (by omega),if_neg (by simpa using h)]);exact aI.mk rfl ⟨rfl,trivial⟩)|(show aZ 8 _ _ _ _ _ _;refine n7 (Fit × Nat) [0,1,2] (fun⟨z,i⟩=>[(7,I (i:Nat))]) (fun⟨z,i⟩=>[(0, .cc 21 (UU z))]) (fun⟨z,i⟩=>i≤y.kids.length/\rL (ks.drop i) (y.kids.drop i) z=R) (fun⟨z,i⟩=>y.kids.length-i) (x,0) (by exact⟨ah _,hR⟩) (fun A ha=>?_);obtain⟨z,i⟩:=A;have ha:i≤y.kids.length/\rL (ks.drop i) (y.kids.drop i) z=R:=ha)
  |refine tD (((gM (ks.getD i dm) (y.kids.getD i dm) z).2,i+1):Fit × Nat) (by exact⟨by show i+1≤_;omega,by rw[<-ha.2,PV (i:=i) (by omega) (by omega),if_pos h]⟩)
  |(apply Fact.mk;intro hL;try simp only[aa,maxLen]at hL)
  |((apply bX;constructor)<;>intro h<;>(try simp only[aa]at h)<;>(try first|omega|contradiction))|(show ay _ 223 _ _ _ _;refine cG [true,false,false] rfl (ih i (by omega) z) ?_)
  |refine aR ?_|(show Index _ _ _;first|(refine Index.mk _ (mn (l:=ks) (i:=i) (by omega)) ?_)|(refine Index.mk _ (mn (l:=y.kids) (i:=i) (by omega)) ?_)|fail)
  |refine nB ?_
  |refine nO ?_)
 all_goals first|rfl|trivial
end
theorem Dg:∀(p:aA),Tree 3 4 p-> ∀(y:aA) (x:Fit),aH y≤1048576->mR p y x:=by
 intro p h;have M5:∀(k n:Int) (ks:List aA),¬k=3-> ¬k=4->(∀i,i<ks.length-> ∀(y:aA) (x:Fit),aH y≤1048576->mR (ks.getD i dm) y x)-> ∀(y:aA) (x:Fit),aH y≤1048576->mR (.mk k n ks) y x:=by
  intro k n ks h3 h4 ih y x hb;by_cases hk:k=y.kind/\ks.length=y.kids.length
  ·exact S8 ks y x hb k n h3 h4 hk.1 hk.2 fun i hi x=>ih i hi _ x (Nat.le_trans (EP y i) hb)
  ·exact TN ks y x hb k n h3 h4 hk
 induction h with
 |zero=>exact M5 1 0 [] (by decide) (by decide) fun i hi=>by simp at hi
 |one=>exact M5 2 0 [] (by decide) (by decide) fun i hi=>by simp at hi
 | @test n h0 h1=>
   intro y x hb;cases hc:dq y with
   |false=>exact Q2 [] y x hb n hc
   |true=>
    obtain rfl|rfl|rfl:n=0\/n=1\/n=2:=by omega
    ·exact WT [] y x hb hc
    ·exact UR [] y x hb hc
    ·exact VG [] y x hb hc
 | @act n h0 h1=>
   intro y x hb;obtain rfl|rfl|rfl|rfl:n=0\/n=1\/n=2\/n=3:=by omega
   ·exact Ve [] y x hb
   ·exact Ww [] y x hb
   ·exact V2 [] y x hb
   ·exact UZ [] y x hb
 |not hc h ih=>
  refine M5 5 0 _ (by decide) (by decide) fun i hi=>?_
  obtain rfl:i=0:=by simpa using hi
  exact ih
 |sum hx hy vr ih2=>
  refine M5 6 0 _ (by decide) (by decide) fun i hi=>?_
  obtain rfl|rfl:i=0\/i=1:=by simp at hi;omega
  ·exact vr
  ·exact ih2
 |dot hx hy vr ih2=>
  refine M5 7 0 _ (by decide) (by decide) fun i hi=>?_
  obtain rfl|rfl:i=0\/i=1:=by simp at hi;omega
  ·exact vr
  ·exact ih2
 |star hx ih=>
  refine M5 8 0 _ (by decide) (by decide) fun i hi=>?_
  obtain rfl:i=0:=by simpa using hi
  exact ih
theorem Dq{k m:Int}{l:List aA}{i:Nat}(h:i<l.length):Bw k m (l.drop i)=(kr k m (l.getD i dm)||Bw k m (l.drop (i+1))):=by
 rw[List.drop_eq_getElem_cons h,Bw,getD_eq h]
theorem Sf(k m:Int)(ks:List aA):aS prog 224 [.c (.rp 3 (aY (.mk k m ks))),I k,I m] (B true):=by
 have e0:aY (.mk k m ks)=[J k,J m, .ro 3 (ks.map aD)]:=rfl;rw[e0];refine cF func224 (h:=?_)
 repeat'((conv=>whnf);first
  |apply bP.mk
  |((apply bX;constructor)<;>intro h<;>(try simp only[aa]at h)<;>(try first|omega|contradiction)))
 all_goals first|rfl|trivial
theorem R9(k m kd n:Int)(ks:List aA)(h:¬(kd=k/\n=m))(ih:∀i,i<ks.length->aS prog 224 [.c (.rp 3 (aY (ks.getD i dm))),I k,I m] (B (kr k m (ks.getD i dm)))):aS prog 224 [.c (.rp 3 (aY (.mk kd n ks))),I k,I m] (B (Bw k m ks)):=by
 obtain⟨R,hR⟩:∃R,Bw k m ks=R:=⟨_,rfl⟩
 rw[hR];have e0:aY (.mk kd n ks)=[J kd,J n, .ro 3 (ks.map aD)]:=rfl;rw[e0];by_cases h1:kd=k
 ·have h2:¬n=m:=fun e=>h ⟨h1,e⟩
  refine cF func224 (h:=?_)
  repeat'((conv=>whnf);first
   |(apply bP.mk;first|((rw[<-ha.2,List.drop_of_length_le (by omega)];rfl);done)|((rw[<-ha.2,Dq (i:=i) (by omega),h];rfl);done)|skip)|(show aZ 4 _ _ _ _ _ _;refine lp (Nat) [0,1,2] (fun i=>[(7,I (i:Nat))]) (fun i=>i≤ks.length/\Bw k m (ks.drop i)=R) (fun i=>ks.length-i) 0 (by exact⟨ah _,hR⟩) (fun i ha=>?_))
   |refine nx (i+1:Nat) (by exact⟨by show i+1≤_;omega,by rw[<-ha.2,Dq (i:=i) (by omega),h];rfl⟩)
   |(apply Fact.mk;intro hL;try simp only[aa,maxLen]at hL)
   |((apply bX;constructor)<;>intro h<;>(try simp only[aa]at h)<;>(try first|omega|contradiction))|(show ay _ 224 _ _ _ _;refine cP rfl (ih i (by omega)) ?_)
   |refine aR ?_|(show Index _ _ _;first|(refine Index.mk _ (mn (l:=ks) (i:=i) (by omega)) ?_)|fail)
   |refine nO ?_)
  all_goals first|rfl|trivial
 ·refine cF func224 (h:=?_)
  repeat'((conv=>whnf);first
   |(apply bP.mk;first|((rw[<-ha.2,List.drop_of_length_le (by omega)];rfl);done)|((rw[<-ha.2,Dq (i:=i) (by omega),h];rfl);done)|skip)|(show aZ 4 _ _ _ _ _ _;refine lp (Nat) [0,1,2] (fun i=>[(7,I (i:Nat))]) (fun i=>i≤ks.length/\Bw k m (ks.drop i)=R) (fun i=>ks.length-i) 0 (by exact⟨ah _,hR⟩) (fun i ha=>?_))
   |refine nx (i+1:Nat) (by exact⟨by show i+1≤_;omega,by rw[<-ha.2,Dq (i:=i) (by omega),h];rfl⟩)
   |(apply Fact.mk;intro hL;try simp only[aa,maxLen]at hL)
   |((apply bX;constructor)<;>intro h<;>(try simp only[aa]at h)<;>(try first|omega|contradiction))|(show ay _ 224 _ _ _ _;refine cP rfl (ih i (by omega)) ?_)
   |refine aR ?_|(show Index _ _ _;first|(refine Index.mk _ (mn (l:=ks) (i:=i) (by omega)) ?_)|fail)
   |refine nO ?_)
  all_goals first|rfl|trivial
theorem lb(k m:Int)(e:aA):aS prog 224 [.c (.rp 3 (aY e)),I k,I m] (B (kr k m e)):=by
 obtain⟨kd,n,ks⟩:=e;by_cases h:kd=k/\n=m
 ·obtain⟨rfl,rfl⟩:=h;have e:kr kd n (.mk kd n ks)=true:=by rw[kr];simp
  rw[e];exact Sf _ _ _
 ·have e:kr k m (.mk kd n ks)=Bw k m ks:=by rw[kr];simp[h]
  rw[e];exact R9 k m kd n ks h fun i hi=>lb k m (ks.getD i dm)
termination_by SizeOf.sizeOf e
decreasing_by
 rw[getD_eq hi];have:=List.sizeOf_lt_of_mem (ag hi);simp only[aA.mk.sizeOf_spec];omega
theorem nQ{x:aA}(h:x.kind=0):jP x=Oc:=if_pos h
theorem qk{x:aA}(h:¬x.kind=0):jP x=x:=if_neg h
end Go.Proofs.YtgbggaddpbghfaaGreat
namespace Go.KA
open Go Go.RowKit
theorem AL.wo{w:World}{ok ok':Nat->Prop}{ss:List SV}{vs:List Value}{f:List Nat}(h:AL w ok ss vs f)(cH:∀b,ok b->ok' b):AL w ok' ss vs f:=by
 induction h with
 |nil=>exact .nil
 |cons h _ ih=>exact .cons (h.wo cH) ih
theorem aE.OS{P:Program}{f:Nat}{cs:List CV}{args:List SV}{outs:List (Option (List CV))}{r:SV}(h:aE P f (.c (.op (cs.map mV))::args) outs r):aE P f (.c (.op cs)::args) outs r:=by
 refine⟨h.1,fun w ok vs fs h1 h2 h3 h4=>?_⟩;obtain⟨f1,hs,hd⟩:∃f1,f1.Sublist fs/\AL w (fun b=>ok b\/(b∈fs/\b∉f1)) (.c (.op (cs.map mV))::args) vs f1:=by
  cases h2 with
  | @cons _ v g _ vs k h0 ht=>
    have hx:Den w ok [.op cs] [v] g:=by
        cases h0 with
        |v hv=>cases hv (fun _=>none)with|c hc=>cases hc with|c hd=>exact hd
        |o hd=>exact hd
    cases hx with
    | @op _ _ _ ty _ b g' arr hb bw ht2=>
      cases ht2;simp only[List.append_nil]at h3 h4⊢;refine⟨b::k,?_,?_⟩
      ·exact(List.sublist_append_right g' k).cons_cons b
      ·have hn:(b::(g'++k)).Nodup:=by simpa using h3
       rw[List.nodup_cons]at hn;have hn2:=List.nodup_append.1 hn.2;have e1:Den w (fun c=>ok c\/(c∈b::(g'++k)/\c∉b::k)) (cs.map mV) arr.toList []:=lz bw (fun _ h=> .inl h) fun c hc=> .inr ⟨by simp[hc],fun hm=>by
          rcases List.mem_cons.1 hm with rfl|hm
          ·exact hn.1 (by simp[hc])
          ·exact hn2.2.2 c hc c hm rfl⟩
       exact .cons (f:=[b]) (.o (by simpa using Den.op hb e1 .nil)) (ht.wo fun _ h=> .inl h)
 have h5:=h.2 w (fun b=>ok b\/(b∈fs/\b∉f1)) vs f1 (fun b hb=>hb.elim (h1 b) fun hb=>(h4 b hb.1).1) hd (h3.sublist hs)
  (fun b hb=>⟨(h4 b (hs.subset hb)).1,fun hk=>hk.elim (h4 b (hs.subset hb)).2 fun hk=>hk.2 hb⟩)
 refine h5.mono ?_;rintro e w' ⟨v,fr,fo,rfl,Fb,hn,hb,ho,XT⟩;have e:zc (fun b=>ok b\/(b∈fs/\b∉f1)) f1 (fr++fo) w w'=zc ok fs (fr++fo) w w':=by
  funext b
  have:((ok b\/(b∈fs/\b∉f1))\/b∈f1\/w.heap.size≤b)↔(ok b\/b∈fs\/w.heap.size≤b):=by
   have:= @List.Sublist.subset _ _ _ hs b;by_cases h:b∈f1
   ·have:=this h;simp[h,this]
   ·simp[h,or_assoc]
  unfold zc;rw[this]
 rw[e]at ho XT;refine⟨v,fr,fo,rfl,⟨Fb.os,Fb.tape,Fb.output,Fb.size,fun b hb Mb=>Fb.block b hb fun hm=>Mb (hs.subset hm)⟩,hn,fun b YI=>⟨?_,(hb b YI).2⟩,ho,XT⟩;exact(hb b YI).1.imp_left fun h=>hs.subset h
end Go.KA
namespace Go.Proofs.YtgbggaddpbghfaaGreat
open Go Go.KA Go.Proofs Go.Proofs.Tryz
set_option maxHeartbeats 16000000
set_option maxRecDepth 100000
structure wU(N:Nat)(x:Fit):Prop where
 t0:aH x.t0≤N
 t1:aH x.t1≤N
 t2:aH x.t2≤N
 a0:aH x.a0≤N
 a1:aH x.a1≤N
 a2:aH x.a2≤N
 a3:aH x.a3≤N
theorem lK{N:Nat}{o e:aA}(h1:aH o≤N)(h2:aH e≤N):aH (ej o e)≤N:=by
 unfold ej;split
 ·exact h2
 ·exact h1
theorem Nl{N:Nat}{x:Fit}{n:Int}{e:aA}(h:wU N x)(he:aH e≤N):wU N (ya x n e).2:=by
 unfold ya;split
 ·exact⟨lK h.t0 he,h.t1,h.t2,h.a0,h.a1,h.a2,h.a3⟩
 ·split
  ·exact⟨h.t0,lK h.t1 he,h.t2,h.a0,h.a1,h.a2,h.a3⟩
  ·exact⟨h.t0,h.t1,lK h.t2 he,h.a0,h.a1,h.a2,h.a3⟩
theorem M4{N:Nat}{x:Fit}{n:Int}{e:aA}(h:wU N x)(he:aH e≤N):wU N (uL x n e).2:=by
 unfold uL;split
 ·exact⟨h.t0,h.t1,h.t2,lK h.a0 he,h.a1,h.a2,h.a3⟩
 ·split
  ·exact⟨h.t0,h.t1,h.t2,h.a0,lK h.a1 he,h.a2,h.a3⟩
  ·split
   ·exact⟨h.t0,h.t1,h.t2,h.a0,h.a1,lK h.a2 he,h.a3⟩
   ·exact⟨h.t0,h.t1,h.t2,h.a0,h.a1,h.a2,lK h.a3 he⟩
theorem TO{l:List aA}{x:aA}{N:Nat}(h:x∈l)(hN:bd l≤N):aH x≤N:=by
 obtain⟨i,hi,rfl⟩:=List.getElem_of_mem h;have:=y7 l i;rw[getD_eq hi]at this;omega
mutual
theorem A4{N:Nat}:∀(p y:aA) (x:Fit),wU N x->aH y≤N->wU N (gM p y x).2
 | .mk k n ks,y,x,h,hy=>by
   rw[gM];split
   ·split
    ·exact Nl h hy
    ·exact h
   ·split
    ·exact M4 h hy
    ·split
     ·refine HR ks y.kids x h fun z hz=>TO hz ?_
      cases y;simpa only[aH,aA.kids]using hy
     ·exact h
theorem HR{N:Nat}:∀(ps ys:List aA) (x:Fit),wU N x->(∀y∈ys,aH y≤N)->wU N (rL ps ys x).2
 |p::ps,y::ys,x,h,hy=>by
  rw[rL];have h1:=A4 p y x h (hy y (by simp));split
  ·exact HR ps ys _ h1 fun z hz=>hy z (by simp[hz])
  ·exact h1
 |[],l,x,h,_=>by rw[Lb];exact h
 |p::ps,[],x,h,_=>by
  rw[rL]
  ·exact h
  ·intro _ _ _ _ _ h;cases h
end
theorem Fs(N:Nat):wU N rY:=by
 constructor<;>simp[rY,dm,aH,bd]
theorem max_le{a b c:Int}(h1:a≤c)(h2:b≤c):yD a b≤c:=by unfold yD;split<;>omega
theorem le_max{a b:Int}:a≤yD a b:=by unfold yD;split<;>omega
theorem gN{t a:Int}{e:aA}(h:Tree t a e):∀m:Int,(m≤t->dM 3 e m≤t)/\(m≤a->dM 4 e m≤a)/\(m≤dM 3 e m)/\(m≤dM 4 e m):=by
 induction h with
 |zero=>intro m;simp[dM,fS]
 |one=>intro m;simp[dM,fS]
 |test h0 h1=>intro m;simp only[dM,fS];exact⟨fun h=>max_le h (by omega),fun h=>h,le_max,Int.le_refl _⟩
 |act h0 h1=>intro m;simp only[dM,fS];exact⟨fun h=>h,fun h=>max_le h (by omega),Int.le_refl _,le_max⟩
 |not hc h ih=>intro m;simpa[dM,fS]using ih m
 |star h ih=>intro m;simpa[dM,fS]using ih m
 | @sum x y hx hy vr ih2=>
   intro m;have a1:=vr m;have a3:=ih2 (dM 3 x m);have a4:=ih2 (dM 4 x m);simp only[dM,fS];simp;exact⟨fun h=>a3.1 (a1.1 h),fun h=>a4.2.1 (a1.2.1 h),Int.le_trans a1.2.2.1 a3.2.2.1,Int.le_trans a1.2.2.2 a4.2.2.2⟩
 | @dot x y hx hy vr ih2=>
   intro m;have a1:=vr m;have a3:=ih2 (dM 3 x m);have a4:=ih2 (dM 4 x m);simp only[dM,fS];simp;exact⟨fun h=>a3.1 (a1.1 h),fun h=>a4.2.1 (a1.2.1 h),Int.le_trans a1.2.2.1 a3.2.2.1,Int.le_trans a1.2.2.2 a4.2.2.2⟩
theorem zf:na 6≤20000:=by decide
theorem GR(g:ku)(hg:0≤g.aK/\g.aK≤3/\0≤g.aF/\g.aF≤4)(s:Src)(hs:Rd s 600000000)(hc:s.code.length≤1000000)(n:Int)(hn:0≤n/\n≤100):
 aE prog 139 [.c (.op (dz s)), .a 2 [J g.aK,J g.aF],I n] [some [.op (dz (bY g 6 false ⟨s,n⟩).2.s)],none,none] (.a 3 (aY (bY g 6 false ⟨s,n⟩).1)):=by
 have e:=zf;have h:=pL g hg 6 6 false ⟨s,n⟩ 600000000 rfl ⟨hs,by omega,hc,by simp only[];omega,by simp only[];omega⟩ (by omega);rw[gn]at h;obtain⟨gt,ga⟩:=g;generalize bY ⟨gt,ga⟩ 6 false ⟨s,n⟩=X at h⊢;obtain⟨⟨k1,n1,Aw⟩,⟨s1,l1⟩⟩:=X;simp only[gg]at h⊢;refine cX func139 (h:=?_)
 repeat'((conv=>whnf);first
  |refine aI.mk ?_ ?_|(show ay _ 170 _ _ _ _;refine ay.gen [true,false,false] _ _ _ rfl h rfl rfl _ rfl ?_))
 all_goals first|rfl|exact⟨rfl,trivial⟩
mutual
theorem B7:∀e:aA,ki (aM e)
 | .mk k n ks=>by
   simp only[aM,ki,jc];exact⟨trivial,trivial,Dc ks,trivial⟩
theorem Dc:∀l:List aA,kJ (ml l)
 |[]=>trivial
 |x::xs=>⟨B7 x,Dc xs⟩
end
theorem vh:∀l:List aA,kJ (l.map aM)
 |[]=>trivial
 |x::xs=>⟨B7 x,vh xs⟩
theorem jw(e:aA):ld (.a 3 (cC e)):=by
 intro x hx;simp only[cC,List.mem_cons,List.not_mem_nil,or_false]at hx;rcases hx with rfl|rfl|rfl
 ·trivial
 ·trivial
 ·exact vh _
theorem aE.Wz{P:Program}{f:Nat}{args:List SV}{outs:List (Option (List CV))}{cs dn:List CV}{n:Nat}(h:aE P f args outs (.a n cs))(hc:pI cs dn):aE P f args outs (.a n dn):=by
 refine⟨h.1,fun w ok vs fs h1 h2 h3 h4=>(h.2 w ok vs fs h1 h2 h3 h4).mono ?_⟩;rintro e w' ⟨v,fr,fo,h5,h6,h7,h8,h9,Cz⟩;refine⟨v,fr,fo,h5,h6,h7,h8,?_,Cz⟩;cases h9 with
 |v ha=>
  refine .v ?_;cases ha with
  |v h=>
   refine .v fun ρ=>?_
   cases h ρ with
   |c h=>cases h
   |a a1 a2=>first|exact .a (hc.len▸a1) (hc.den a2)|exact .a hc.len.symm (hc.den a2)|exact .a hc.len.symm (hc.den a1)
  |a hl h=>exact .a (hc.len▸hl) (hc.den h)
theorem CJ(x:aA):yl (.a 3 (cC x)) (.a 3 (aY x)):=by
 have h:=Hj x;rw[gn]at h;cases h with
 |v h=>exact h
theorem eA{P:Program}{f:Nat}{args:List SV}{outs:List (Option (List CV))}{k n:Int}(h:aE P f args outs (.a 3 [J k,J n, .ows 66 3 []])):aE P f args outs (.a 3 (cC (.mk k n []))):=aE.Wz h (.same (.same (.up .nil)))
theorem yV:aE prog 190 [] [] (.a 3 (cC (.mk 2 0 []))):=by
 refine eA ?_;refine cX func190 (h:=?_)
 repeat'((conv=>whnf);first
  |refine aI.mk ?_ ?_)
 all_goals first|rfl|trivial
section
variable{ts us:List aA}(h1:∀x∈ts,aH x≤200)(h2:∀x∈us,aH x≤200)
include h1 h2
theorem Ft(e:aA)(hl:mN e=true)(hn:jj e≤1000)(hx:∀x∈e.kids,∀m:Int,m≤1000-> -1000000+201*(jj x:Nat)≤m->aE prog 191 [.c (.rp 3 (aD x)), .c (.ro 3 (ts.map aD)), .c (.ro 3 (us.map aD)), .c (.op [J m])] [none,none,none,some [.op [J (lM ts us x m).2]]] (.a 3 (cC (lM ts us x m).1))):
 ∀m:Int,m≤1000-> -1000000+201*(jj e:Nat)≤m->aE prog 191 [.c (.rp 3 (aY e)), .c (.ro 3 (ts.map aD)), .c (.ro 3 (us.map aD)), .c (.op [J m])] [none,none,none,some [.op [J (lM ts us e m).2]]] (.a 3 (cC (lM ts us e m).1)):=by
 intro m m1 m0;obtain⟨k,d,ks⟩:=e;rw[mN,ab,decide_eq_true_eq]at hl;rw[lM];simp only[aA.kids]at hx;have e0:aY (.mk k d ks)=[J k,J d, .ro 3 (ks.map aD)]:=rfl;rw[e0];have Sp:jj (.mk k d ks)=bd ks+1:=rfl;by_cases g1:m-1<0
 ·rw[if_pos g1];refine eA ?_;refine cX func191 (h:=?_)
  repeat'((conv=>whnf);first
   |refine aI.mk ?_ ?_
   |((apply bX;constructor)<;>intro h<;>(try simp only[aa]at h)<;>(try first|omega|contradiction))
   |refine aR ?_)
  all_goals first|rfl|exact⟨rfl,trivial⟩|trivial
 rw[if_neg g1];by_cases g3:k=3
 ·subst g3;rw[if_pos rfl];by_cases g5:d≥(ts.length:Nat)
  ·rw[if_pos g5];refine cX func191 (h:=?_)
   repeat'((conv=>whnf);first
        |refine aI.mk ?_ ?_
        |(apply Fact.mk;intro hL;try simp only[aa,maxLen]at hL)
        |((apply bX;constructor)<;>intro h<;>(try simp only[aa]at h)<;>(try first|omega|contradiction))|(show ay _ 190 _ _ _ _;refine cG [] rfl (yV) ?_)
        |refine aR ?_)
   all_goals first|rfl|exact⟨rfl,trivial⟩|trivial
  ·rw[if_neg g5];have hi:d.toNat<ts.length:=by omega
   have hb:aH (ts.getD d.toNat dm)≤200:=by rw[getD_eq hi];exact h1 _ (ag hi)
   have c1:=Ei (ts.getD d.toNat dm) (by simp only[jj];omega);have c2:=fa (ts.getD d.toNat dm) (by omega);rw[gn]at c2;have ix:=mn (l:=ts) (i:=d.toNat) hi;have Vl:jj (ts.getD d.toNat dm)≤201:=by simp only[jj];omega
   generalize jj (ts.getD d.toNat dm)=z at c1 Vl⊢;generalize ts.getD d.toNat dm=x at c1 c2 ix⊢;refine cX func191 (h:=?_)
   repeat'((conv=>whnf);first
        |refine aI.mk ?_ ?_
        |(apply Fact.mk;intro hL;try simp only[aa,maxLen]at hL)
        |((apply bX;constructor)<;>intro h<;>(try simp only[aa]at h)<;>(try first|omega|contradiction))|(show ay _ 193 _ _ _ _;refine cP rfl (c1) ?_)|(show ay _ 137 _ _ _ _;refine cG [] rfl (c2) ?_)
        |refine aR ?_|(show Index _ _ _;first|(refine Index.mk _ (ix) ?_)|fail)
        |refine nB ?_
        |refine nO ?_)
   all_goals first|rfl|exact⟨rfl,trivial⟩|trivial
 rw[if_neg g3];by_cases g4:k=4
 ·subst g4;rw[if_pos rfl];by_cases g5:d≥(us.length:Nat)
  ·rw[if_pos g5];refine cX func191 (h:=?_)
   repeat'((conv=>whnf);first
        |refine aI.mk ?_ ?_
        |(apply Fact.mk;intro hL;try simp only[aa,maxLen]at hL)
        |((apply bX;constructor)<;>intro h<;>(try simp only[aa]at h)<;>(try first|omega|contradiction))|(show ay _ 190 _ _ _ _;refine cG [] rfl (yV) ?_)
        |refine aR ?_)
   all_goals first|rfl|exact⟨rfl,trivial⟩|trivial
  ·rw[if_neg g5];have hi:d.toNat<us.length:=by omega
   have hb:aH (us.getD d.toNat dm)≤200:=by rw[getD_eq hi];exact h2 _ (ag hi)
   have c1:=Ei (us.getD d.toNat dm) (by simp only[jj];omega);have c2:=fa (us.getD d.toNat dm) (by omega);rw[gn]at c2;have ix:=mn (l:=us) (i:=d.toNat) hi;have Vl:jj (us.getD d.toNat dm)≤201:=by simp only[jj];omega
   generalize jj (us.getD d.toNat dm)=z at c1 Vl⊢;generalize us.getD d.toNat dm=x at c1 c2 ix⊢;refine cX func191 (h:=?_)
   repeat'((conv=>whnf);first
        |refine aI.mk ?_ ?_
        |(apply Fact.mk;intro hL;try simp only[aa,maxLen]at hL)
        |((apply bX;constructor)<;>intro h<;>(try simp only[aa]at h)<;>(try first|omega|contradiction))|(show ay _ 193 _ _ _ _;refine cP rfl (c1) ?_)|(show ay _ 137 _ _ _ _;refine cG [] rfl (c2) ?_)
        |refine aR ?_|(show Index _ _ _;first|(refine Index.mk _ (ix) ?_)|fail)
        |refine nB ?_
        |refine nO ?_)
   all_goals first|rfl|exact⟨rfl,trivial⟩|trivial
 rw[if_neg g4];have hlen:ks.length≤1000:=by
  have:∀l:List aA,l.length≤bd l:=fun l=>by
   induction l with
   |nil=>exact ah _
   |cons x xs ih=>simp only[bd,List.length_cons];omega
  have:=this ks;omega
 have Xj:∀i (h:i<ks.length),bd (ks.take i)+jj ks[i]≤bd ks:=fun i h=>by
  have h5:=vL (l:=ks) h;have h6:=AM ks (i+1);omega
 have A3:=fun i=>HG h1 h2 (ks.take i) (m-1)
 have e9:∀l:List aA,cC (.mk k d l)=[J k,J d, .own 66 3 (l.map aM)]:=fun l=>rfl
 rw[e9];have fin:jl ts us (ks.take ks.length) (m-1)=jl ts us ks (m-1):=by rw[List.take_length]
 rw[<-fin];have Co:∀i (h:i<ks.length),jl ts us (ks.take (i+1)) (m-1)=((jl ts us (ks.take i) (m-1)).1++[(lM ts us ks[i] (jl ts us (ks.take i) (m-1)).2).1],(lM ts us ks[i] (jl ts us (ks.take i) (m-1)).2).2):=fun i h=>Ct h _
 have XC:∀i,i≤ks.length->(jl ts us (ks.take i) (m-1)).1.length=i:=fun i h=>by rw[Ip,aq];omega
 have h00:jl ts us (ks.take 0) (m-1)=([],m-1):=by simp[jl]
 generalize hP:(fun i=>jl ts us (ks.take i) (m-1))=P at*;have hP':∀i,jl ts us (ks.take i) (m-1)=P i:=fun i=>by rw[<-hP]
 simp only[hP']at*;refine cX func191 (h:=?_)
 repeat'((conv=>whnf);first
  |(show aI _ _;(obtain rfl:i=ks.length:=(by have:=ha.1;omega));rw[<-ha.2.1,<-ha.2.2.1];exact aI.mk rfl ⟨rfl,trivial⟩)|(show aZ 14 _ _ _ _ _ _;refine n7 (Nat × List (List CV)× Int) [0,1,2,3,8,10] (fun⟨i,rows,q⟩=>[(11,I (i:Nat))]) (fun⟨i,rows,q⟩=>[(0, .cc 1 [J q]),(3, .aU none 66 3 rows)]) (fun⟨i,rows,q⟩=>i≤ks.length/\rows=(P i).1.map aM/\q=(P i).2/\rows.length=i) (fun⟨i,rows,q⟩=>ks.length-i) (0,[],m-1) (by exact⟨ah _,by show[]=(P 0).1.map aM;rw[h00];rfl,by show m-1=(P 0).2;rw[h00],rfl⟩) (fun A ha=>?_);obtain⟨i,rows,q⟩:=A;have ha:i≤ks.length/\rows=(P i).1.map aM/\q=(P i).2/\rows.length=i:=ha;have xA:=A3 i;have Rb:=Xj i)
  |refine tD ((i+1,rows++[cC (lM ts us (ks[i]'(by omega)) q).1],(lM ts us (ks[i]'(by omega)) q).2):Nat × List (List CV)× Int) (by exact⟨by show i+1≤_;omega,by show _=(P (i+1)).1.map aM;rw[Co i (by omega),au,<-ha.2.1,<-ha.2.2.1,List.map_cons,List.map_nil,dQ],by show _=(P (i+1)).2;rw[Co i (by omega),<-ha.2.2.1],by show(rows++_).length=i+1;rw[ai,ha.2.2.2];rfl⟩)
  |(apply Fact.mk;intro hL;try simp only[aa,maxLen]at hL)
  |((apply bX;constructor)<;>intro h<;>(try simp only[aa]at h)<;>(try first|omega|contradiction))|(show ay _ 191 _ _ _ _;refine cG [false,false,false,true] rfl (hx (ks[i]'(by omega)) (ag (by omega)) q (by omega) (by have:=Rb (by omega);omega)) ?_)
  |refine aR ?_|(show Index _ _ _;first|(refine Index.mk _ (bZ (i:=i) (by omega)) ?_)|fail)
  |refine nB ?_|(show bh _ _;refine bh.mk (by first|((simp only[List.length_cons,List.length_nil,maxLen];constructor<;>omega))|fail) ?_)
  |refine nO ?_)
 all_goals first|rfl|exact⟨rfl,trivial⟩|trivial
theorem AI(e:aA)(hl:mN e=true)(hn:jj e≤1000)(m:Int)(m1:m≤1000)(m0: -1000000+201*(jj e:Nat)≤m):aE prog 191 [.c (.rp 3 (aD e)), .c (.ro 3 (ts.map aD)), .c (.ro 3 (us.map aD)), .c (.op [J m])] [none,none,none,some [.op [J (lM ts us e m).2]]] (.a 3 (cC (lM ts us e m).1)):=by
 rw[bK];exact Ft h1 h2 e hl hn (fun x vu m a b=>AI x (zB vu (by rw[Lm,ab]at hl;exact hl.2)) (by have:=yS vu;omega) m a b) m m1 m0
 termination_by SizeOf.sizeOf e
 decreasing_by
  have:=List.sizeOf_lt_of_mem vu;cases e;simp only[aA.mk.sizeOf_spec];show SizeOf.sizeOf x<_;simp only[aA.kids]at this;omega
theorem nG(t a:Int)(hs:cE t a=true)(e:aA)(hl:mN e=true)(hn:jj e≤1000):aE prog 168 [.a 2 [J t,J a], .c (.rp 3 (aY e)), .c (.ro 3 (ts.map aD)), .c (.ro 3 (us.map aD))] [] (.tup [.a 3 (cC (jm t a e ts us).1),B (jm t a e ts us).2]):=by
 have c1:=AI h1 h2 e hl hn 200 (by decide) (by omega);rw[gn]at c1;have hb:=nP h1 h2 e 200;have c2:=nh t a (lM ts us e 200).1 (by simp only[jj]at*;omega);rw[hs,gn]at c2;unfold jm;generalize lM ts us e 200=R at c1 c2⊢;obtain⟨⟨k,n,ks⟩,m⟩:=R;simp only[Bool.true_and]at c1 c2⊢;have e8:aY (.mk k n ks)=[J k,J n, .ro 3 (dD (ks.map aM))]:=by rw[cM fJ];rfl
 rw[e8]at c2;generalize bz t a (.mk k n ks)=g at c2⊢;by_cases RT:0≤m
 ·rw[decide_eq_true RT];cases g with
  |true=>
   refine cX func168 (h:=?_)
   repeat'((conv=>whnf);first
     |refine aI.mk ?_ ?_
     |((apply bX;constructor)<;>intro h<;>(try simp only[aa]at h)<;>(try first|omega|contradiction))|(show ay _ 191 _ _ _ _;refine cG [false,false,false,true] rfl (c1) ?_)|(show ay _ 174 _ _ _ _;refine cP rfl (c2) ?_)
     |refine nB ?_)
   all_goals first|rfl|trivial
  |false=>
   refine cX func168 (h:=?_)
   repeat'((conv=>whnf);first
     |refine aI.mk ?_ ?_
     |((apply bX;constructor)<;>intro h<;>(try simp only[aa]at h)<;>(try first|omega|contradiction))|(show ay _ 191 _ _ _ _;refine cG [false,false,false,true] rfl (c1) ?_)|(show ay _ 174 _ _ _ _;refine cP rfl (c2) ?_)
     |refine nB ?_)
   all_goals first|rfl|trivial
 ·rw[decide_eq_false RT];refine cX func168 (h:=?_)
  repeat'((conv=>whnf);first
   |refine aI.mk ?_ ?_
   |((apply bX;constructor)<;>intro h<;>(try simp only[aa]at h)<;>(try first|omega|contradiction))|(show ay _ 191 _ _ _ _;refine cG [false,false,false,true] rfl (c1) ?_)
   |refine nB ?_)
  all_goals first|rfl|trivial
theorem Da(t a:Int)(hs:cE t a=true)(e:aA)(hl:mN e=true)(hn:jj e≤1000):aE prog 168 [.a 2 [J t,J a], .c (.rp 3 (aY e)), .c (.ro 3 (ts.map aD)), .c (.ro 3 (us.map aD))] [] (.tup [.a 3 (aY (jm t a e ts us).1),B (jm t a e ts us).2]):=
 (nG h1 h2 t a hs e hl hn).soft (.tup (.cons (CJ _) (.cons .same .nil)))
end
end Go.Proofs.YtgbggaddpbghfaaGreat
