/- Contracts of the reference's binding of a pattern's tests and actions. Conditions: a pattern's numbers are below 3 and 4, bounds of size. -/
import Derived.Test.YtgbggaddpbghfaaGreatKAL
namespace Go.Proofs.YtgbggaddpbghfaaGreat
open Go Go.KA Go.Proofs
set_option maxHeartbeats 16000000
set_option maxRecDepth 100000
abbrev ma(a b c d e f g:ae):List CV:=[J a.kind,J a.num, .ro 3 (a.kids.map ag),J b.kind,J b.num, .ro 3 (b.kids.map ag),J c.kind,J c.num, .ro 3 (c.kids.map ag),J d.kind,J d.num, .ro 3 (d.kids.map ag),J e.kind,J e.num, .ro 3 (e.kids.map ag),J f.kind,J f.num, .ro 3 (f.kids.map ag),J g.kind,J g.num, .ro 3 (g.kids.map ag)]
abbrev O1(x:Fit):List CV:=ma x.t0 x.t1 x.t2 x.a0 x.a1 x.a2 x.a3
theorem lq(x e:ae)(sz:Nat)(hs:3≤sz)(l:List CV):aD Tryz.prog 51 [.c (.rp sz (aI x++l)), .c (.rp 3 (aI e))] (B (eqv x e)):=(nC x e).cut (jG.cut (sz:=sz) (k:=3) (cs:=aI x++l) hs (.same .nil))
section
variable(a b c d e f g y:ae)(hb:aj y≤1048576)
include hb
theorem Oh:ah Tryz.prog 228 [.c (.op (ma a b c d e f g)), .c (.rp 3 (aI y))] [some [.op (ma (dL a y) b c d e f g)]] (B (ep a y)):=by
 by_cases h0:a.kind=0
 ·have e1:dL a y=y:=if_pos h0
  have e2:ep a y=true:=if_pos h0
  rw[e1,e2]
  refine cX Tryz.func228 (h:= ?_)
  repeat'((conv=>whnf);first
   |refine aq.mk ?_ ?_
   |((first|apply bA|apply bB|apply bC|apply bD|apply bE|apply bF)<;>intro h<;>(try simp only[List.length_map] at h)<;>(try omega)<;>(try contradiction))|(guard_target=aa _ 137 _ _ _ _;refine cG [] rfl (qZ y hb) ?_))
  all_goals first|rfl|trivial
 ·have e1:dL a y=a:=if_neg h0
  have e2:ep a y=eqv a y:=if_neg h0
  rw[e1,e2]
  refine cX Tryz.func228 (h:= ?_)
  repeat'((conv=>whnf);first
   |refine aq.mk ?_ ?_
   |((first|apply bA|apply bB|apply bC|apply bD|apply bE|apply bF)<;>intro h<;>(try simp only[List.length_map] at h)<;>(try omega)<;>(try contradiction))|(guard_target=aa _ 51 _ _ _ _;refine cP rfl (lq a y 21 (by decide) [J b.kind,J b.num, .ro 3 (b.kids.map ag),J c.kind,J c.num, .ro 3 (c.kids.map ag),J d.kind,J d.num, .ro 3 (d.kids.map ag),J e.kind,J e.num, .ro 3 (e.kids.map ag),J f.kind,J f.num, .ro 3 (f.kids.map ag),J g.kind,J g.num, .ro 3 (g.kids.map ag)]) ?_))
  all_goals first|rfl|trivial
theorem Of:ah Tryz.prog 228 [.tup [.c (.op (ma a b c d e f g)), .lp 0 3], .c (.rp 3 (aI y))] [some [.op (ma a (dL b y) c d e f g)]] (B (ep b y)):=by
 by_cases h0:b.kind=0
 ·have e1:dL b y=y:=if_pos h0
  have e2:ep b y=true:=if_pos h0
  rw[e1,e2]
  refine cX Tryz.func228 (h:= ?_)
  repeat'((conv=>whnf);first
   |refine aq.mk ?_ ?_
   |((first|apply bA|apply bB|apply bC|apply bD|apply bE|apply bF)<;>intro h<;>(try simp only[List.length_map] at h)<;>(try omega)<;>(try contradiction))|(guard_target=aa _ 137 _ _ _ _;refine cG [] rfl (qZ y hb) ?_))
  all_goals first|rfl|trivial
 ·have e1:dL b y=b:=if_neg h0
  have e2:ep b y=eqv b y:=if_neg h0
  rw[e1,e2]
  refine cX Tryz.func228 (h:= ?_)
  repeat'((conv=>whnf);first
   |refine aq.mk ?_ ?_
   |((first|apply bA|apply bB|apply bC|apply bD|apply bE|apply bF)<;>intro h<;>(try simp only[List.length_map] at h)<;>(try omega)<;>(try contradiction))|(guard_target=aa _ 51 _ _ _ _;refine cP rfl (lq b y 18 (by decide) [J c.kind,J c.num, .ro 3 (c.kids.map ag),J d.kind,J d.num, .ro 3 (d.kids.map ag),J e.kind,J e.num, .ro 3 (e.kids.map ag),J f.kind,J f.num, .ro 3 (f.kids.map ag),J g.kind,J g.num, .ro 3 (g.kids.map ag)]) ?_))
  all_goals first|rfl|trivial
theorem O7:ah Tryz.prog 228 [.tup [.c (.op (ma a b c d e f g)), .lp 0 6], .c (.rp 3 (aI y))] [some [.op (ma a b (dL c y) d e f g)]] (B (ep c y)):=by
 by_cases h0:c.kind=0
 ·have e1:dL c y=y:=if_pos h0
  have e2:ep c y=true:=if_pos h0
  rw[e1,e2]
  refine cX Tryz.func228 (h:= ?_)
  repeat'((conv=>whnf);first
   |refine aq.mk ?_ ?_
   |((first|apply bA|apply bB|apply bC|apply bD|apply bE|apply bF)<;>intro h<;>(try simp only[List.length_map] at h)<;>(try omega)<;>(try contradiction))|(guard_target=aa _ 137 _ _ _ _;refine cG [] rfl (qZ y hb) ?_))
  all_goals first|rfl|trivial
 ·have e1:dL c y=c:=if_neg h0
  have e2:ep c y=eqv c y:=if_neg h0
  rw[e1,e2]
  refine cX Tryz.func228 (h:= ?_)
  repeat'((conv=>whnf);first
   |refine aq.mk ?_ ?_
   |((first|apply bA|apply bB|apply bC|apply bD|apply bE|apply bF)<;>intro h<;>(try simp only[List.length_map] at h)<;>(try omega)<;>(try contradiction))|(guard_target=aa _ 51 _ _ _ _;refine cP rfl (lq c y 15 (by decide) [J d.kind,J d.num, .ro 3 (d.kids.map ag),J e.kind,J e.num, .ro 3 (e.kids.map ag),J f.kind,J f.num, .ro 3 (f.kids.map ag),J g.kind,J g.num, .ro 3 (g.kids.map ag)]) ?_))
  all_goals first|rfl|trivial
theorem Ok:ah Tryz.prog 228 [.tup [.c (.op (ma a b c d e f g)), .lp 0 9], .c (.rp 3 (aI y))] [some [.op (ma a b c (dL d y) e f g)]] (B (ep d y)):=by
 by_cases h0:d.kind=0
 ·have e1:dL d y=y:=if_pos h0
  have e2:ep d y=true:=if_pos h0
  rw[e1,e2]
  refine cX Tryz.func228 (h:= ?_)
  repeat'((conv=>whnf);first
   |refine aq.mk ?_ ?_
   |((first|apply bA|apply bB|apply bC|apply bD|apply bE|apply bF)<;>intro h<;>(try simp only[List.length_map] at h)<;>(try omega)<;>(try contradiction))|(guard_target=aa _ 137 _ _ _ _;refine cG [] rfl (qZ y hb) ?_))
  all_goals first|rfl|trivial
 ·have e1:dL d y=d:=if_neg h0
  have e2:ep d y=eqv d y:=if_neg h0
  rw[e1,e2]
  refine cX Tryz.func228 (h:= ?_)
  repeat'((conv=>whnf);first
   |refine aq.mk ?_ ?_
   |((first|apply bA|apply bB|apply bC|apply bD|apply bE|apply bF)<;>intro h<;>(try simp only[List.length_map] at h)<;>(try omega)<;>(try contradiction))|(guard_target=aa _ 51 _ _ _ _;refine cP rfl (lq d y 12 (by decide) [J e.kind,J e.num, .ro 3 (e.kids.map ag),J f.kind,J f.num, .ro 3 (f.kids.map ag),J g.kind,J g.num, .ro 3 (g.kids.map ag)]) ?_))
  all_goals first|rfl|trivial
theorem O0:ah Tryz.prog 228 [.tup [.c (.op (ma a b c d e f g)), .lp 0 12], .c (.rp 3 (aI y))] [some [.op (ma a b c d (dL e y) f g)]] (B (ep e y)):=by
 by_cases h0:e.kind=0
 ·have e1:dL e y=y:=if_pos h0
  have e2:ep e y=true:=if_pos h0
  rw[e1,e2]
  refine cX Tryz.func228 (h:= ?_)
  repeat'((conv=>whnf);first
   |refine aq.mk ?_ ?_
   |((first|apply bA|apply bB|apply bC|apply bD|apply bE|apply bF)<;>intro h<;>(try simp only[List.length_map] at h)<;>(try omega)<;>(try contradiction))|(guard_target=aa _ 137 _ _ _ _;refine cG [] rfl (qZ y hb) ?_))
  all_goals first|rfl|trivial
 ·have e1:dL e y=e:=if_neg h0
  have e2:ep e y=eqv e y:=if_neg h0
  rw[e1,e2]
  refine cX Tryz.func228 (h:= ?_)
  repeat'((conv=>whnf);first
   |refine aq.mk ?_ ?_
   |((first|apply bA|apply bB|apply bC|apply bD|apply bE|apply bF)<;>intro h<;>(try simp only[List.length_map] at h)<;>(try omega)<;>(try contradiction))|(guard_target=aa _ 51 _ _ _ _;refine cP rfl (lq e y 9 (by decide) [J f.kind,J f.num, .ro 3 (f.kids.map ag),J g.kind,J g.num, .ro 3 (g.kids.map ag)]) ?_))
  all_goals first|rfl|trivial
theorem Ot:ah Tryz.prog 228 [.tup [.c (.op (ma a b c d e f g)), .lp 0 15], .c (.rp 3 (aI y))] [some [.op (ma a b c d e (dL f y) g)]] (B (ep f y)):=by
 by_cases h0:f.kind=0
 ·have e1:dL f y=y:=if_pos h0
  have e2:ep f y=true:=if_pos h0
  rw[e1,e2]
  refine cX Tryz.func228 (h:= ?_)
  repeat'((conv=>whnf);first
   |refine aq.mk ?_ ?_
   |((first|apply bA|apply bB|apply bC|apply bD|apply bE|apply bF)<;>intro h<;>(try simp only[List.length_map] at h)<;>(try omega)<;>(try contradiction))|(guard_target=aa _ 137 _ _ _ _;refine cG [] rfl (qZ y hb) ?_))
  all_goals first|rfl|trivial
 ·have e1:dL f y=f:=if_neg h0
  have e2:ep f y=eqv f y:=if_neg h0
  rw[e1,e2]
  refine cX Tryz.func228 (h:= ?_)
  repeat'((conv=>whnf);first
   |refine aq.mk ?_ ?_
   |((first|apply bA|apply bB|apply bC|apply bD|apply bE|apply bF)<;>intro h<;>(try simp only[List.length_map] at h)<;>(try omega)<;>(try contradiction))|(guard_target=aa _ 51 _ _ _ _;refine cP rfl (lq f y 6 (by decide) [J g.kind,J g.num, .ro 3 (g.kids.map ag)]) ?_))
  all_goals first|rfl|trivial
theorem OO:ah Tryz.prog 228 [.tup [.c (.op (ma a b c d e f g)), .lp 0 18], .c (.rp 3 (aI y))] [some [.op (ma a b c d e f (dL g y))]] (B (ep g y)):=by
 by_cases h0:g.kind=0
 ·have e1:dL g y=y:=if_pos h0
  have e2:ep g y=true:=if_pos h0
  rw[e1,e2]
  refine cX Tryz.func228 (h:= ?_)
  repeat'((conv=>whnf);first
   |refine aq.mk ?_ ?_
   |((first|apply bA|apply bB|apply bC|apply bD|apply bE|apply bF)<;>intro h<;>(try simp only[List.length_map] at h)<;>(try omega)<;>(try contradiction))|(guard_target=aa _ 137 _ _ _ _;refine cG [] rfl (qZ y hb) ?_))
  all_goals first|rfl|trivial
 ·have e1:dL g y=g:=if_neg h0
  have e2:ep g y=eqv g y:=if_neg h0
  rw[e1,e2]
  refine cX Tryz.func228 (h:= ?_)
  repeat'((conv=>whnf);first
   |refine aq.mk ?_ ?_
   |((first|apply bA|apply bB|apply bC|apply bD|apply bE|apply bF)<;>intro h<;>(try simp only[List.length_map] at h)<;>(try omega)<;>(try contradiction))|(guard_target=aa _ 51 _ _ _ _;refine cP rfl (lq g y 3 (by decide) []) ?_))
  all_goals first|rfl|trivial
end
end Go.Proofs.YtgbggaddpbghfaaGreat
namespace Go.Proofs.YtgbggaddpbghfaaGreat
open Go Go.KA Go.Proofs
set_option maxHeartbeats 16000000
set_option maxRecDepth 100000
abbrev kL(p y:ae)(x:Fit):Prop:=ah Tryz.prog 223 [.c (.op (O1 x)), .c (.rp 3 (aI p)), .c (.rp 3 (aI y))] [some [.op (O1 (fM p y x).2)]] (B (fM p y x).1)
theorem Jh{ps es:List ae}{z:Fit}{i:Nat}(h1:i<ps.length)(h2:i<es.length):oQ (ps.drop i) (es.drop i) z=if(fM (ps.getD i cL) (es.getD i cL) z).1=true then oQ (ps.drop (i+1)) (es.drop (i+1)) (fM (ps.getD i cL) (es.getD i cL) z).2 else(false,(fM (ps.getD i cL) (es.getD i cL) z).2):=by
 rw[List.drop_eq_getElem_cons h1,List.drop_eq_getElem_cons h2,oQ,getD_eq h1,getD_eq h2]
theorem Hf(l:List ae)(z:Fit):oQ [] l z=(true,z):=by
 rw[oQ]
 intro _ _ _ _ h
 cases h
section
variable(ks:List ae)(y:ae)(x:Fit)(hb:aj y≤1048576)
include hb
theorem K4(n:Int)(hc:cQ y=false):kL (.mk 3 n ks) y x:=by
 have e1:fM (.mk 3 n ks) y x=(false,x):=by rw[fM,if_pos rfl,hc];rfl
 have c1:=kN y
 rw[hc] at c1
 have _:=hb
 unfold kL
 rw[e1]
 have e0:aI (.mk 3 n ks)=[J 3,J n, .ro 3 (ks.map ag)]:=rfl
 rw[e0]
 obtain⟨a,b,c,d,e,f,g⟩:=x
 refine cX Tryz.func223 (h:= ?_)
 repeat'((conv=>whnf);first
  |refine aq.mk ?_ ?_
  |((first|apply bA|apply bB|apply bC|apply bD|apply bE|apply bF)<;>intro h<;>(try simp only[List.length_map] at h)<;>(try omega)<;>(try contradiction))|(guard_target=aa _ 214 _ _ _ _;refine cP rfl (c1) ?_)
  |refine nB ?_)
 all_goals first|rfl|trivial
theorem N9(hc:cQ y=true):kL (.mk 3 0 ks) y x:=by
 obtain⟨a,b,c,d,e,f,g⟩:=x
 have e1:fM (.mk 3 0 ks) y ⟨a,b,c,d,e,f,g⟩=(ep a y,⟨dL a y,b,c,d,e,f,g⟩):=by rw[fM];simp[vd,hc]
 have c1:=kN y
 rw[hc] at c1
 have c2:=Oh a b c d e f g y hb
 unfold kL
 rw[e1]
 have e0:aI (.mk 3 0 ks)=[J 3,J 0, .ro 3 (ks.map ag)]:=rfl
 rw[e0]
 refine cX Tryz.func223 (h:= ?_)
 repeat'((conv=>whnf);first
  |refine aq.mk ?_ ?_
  |((first|apply bA|apply bB|apply bC|apply bD|apply bE|apply bF)<;>intro h<;>(try simp only[List.length_map] at h)<;>(try omega)<;>(try contradiction))|(guard_target=aa _ 214 _ _ _ _;refine cP rfl (c1) ?_)|(guard_target=aa _ 228 _ _ _ _;refine cG [true,false] rfl (c2) ?_)
  |refine nB ?_
  |refine nO ?_)
 all_goals first|rfl|trivial
theorem N1(hc:cQ y=true):kL (.mk 3 1 ks) y x:=by
 obtain⟨a,b,c,d,e,f,g⟩:=x
 have e1:fM (.mk 3 1 ks) y ⟨a,b,c,d,e,f,g⟩=(ep b y,⟨a,dL b y,c,d,e,f,g⟩):=by rw[fM];simp[vd,hc]
 have c1:=kN y
 rw[hc] at c1
 have c2:=Of a b c d e f g y hb
 unfold kL
 rw[e1]
 have e0:aI (.mk 3 1 ks)=[J 3,J 1, .ro 3 (ks.map ag)]:=rfl
 rw[e0]
 refine cX Tryz.func223 (h:= ?_)
 repeat'((conv=>whnf);first
  |refine aq.mk ?_ ?_
  |((first|apply bA|apply bB|apply bC|apply bD|apply bE|apply bF)<;>intro h<;>(try simp only[List.length_map] at h)<;>(try omega)<;>(try contradiction))|(guard_target=aa _ 214 _ _ _ _;refine cP rfl (c1) ?_)|(guard_target=aa _ 228 _ _ _ _;refine cG [true,false] rfl (c2) ?_)
  |refine nB ?_
  |refine nO ?_)
 all_goals first|rfl|trivial
theorem OA(hc:cQ y=true):kL (.mk 3 2 ks) y x:=by
 obtain⟨a,b,c,d,e,f,g⟩:=x
 have e1:fM (.mk 3 2 ks) y ⟨a,b,c,d,e,f,g⟩=(ep c y,⟨a,b,dL c y,d,e,f,g⟩):=by rw[fM];simp[vd,hc]
 have c1:=kN y
 rw[hc] at c1
 have c2:=O7 a b c d e f g y hb
 unfold kL
 rw[e1]
 have e0:aI (.mk 3 2 ks)=[J 3,J 2, .ro 3 (ks.map ag)]:=rfl
 rw[e0]
 refine cX Tryz.func223 (h:= ?_)
 repeat'((conv=>whnf);first
  |refine aq.mk ?_ ?_
  |((first|apply bA|apply bB|apply bC|apply bD|apply bE|apply bF)<;>intro h<;>(try simp only[List.length_map] at h)<;>(try omega)<;>(try contradiction))|(guard_target=aa _ 214 _ _ _ _;refine cP rfl (c1) ?_)|(guard_target=aa _ 228 _ _ _ _;refine cG [true,false] rfl (c2) ?_)
  |refine nB ?_
  |refine nO ?_)
 all_goals first|rfl|trivial
theorem OE:kL (.mk 4 0 ks) y x:=by
 obtain⟨a,b,c,d,e,f,g⟩:=x
 have e1:fM (.mk 4 0 ks) y ⟨a,b,c,d,e,f,g⟩=(ep d y,⟨a,b,c,dL d y,e,f,g⟩):=by rw[fM];simp[tc]
 have c1:=kN y
 have c2:=Ok a b c d e f g y hb
 unfold kL
 rw[e1]
 have e0:aI (.mk 4 0 ks)=[J 4,J 0, .ro 3 (ks.map ag)]:=rfl
 rw[e0]
 refine cX Tryz.func223 (h:= ?_)
 repeat'((conv=>whnf);first
  |refine aq.mk ?_ ?_
  |((first|apply bA|apply bB|apply bC|apply bD|apply bE|apply bF)<;>intro h<;>(try simp only[List.length_map] at h)<;>(try omega)<;>(try contradiction))|(guard_target=aa _ 228 _ _ _ _;refine cG [true,false] rfl (c2) ?_)
  |refine nB ?_
  |refine nO ?_)
 all_goals first|rfl|trivial
theorem Oe:kL (.mk 4 1 ks) y x:=by
 obtain⟨a,b,c,d,e,f,g⟩:=x
 have e1:fM (.mk 4 1 ks) y ⟨a,b,c,d,e,f,g⟩=(ep e y,⟨a,b,c,d,dL e y,f,g⟩):=by rw[fM];simp[tc]
 have c1:=kN y
 have c2:=O0 a b c d e f g y hb
 unfold kL
 rw[e1]
 have e0:aI (.mk 4 1 ks)=[J 4,J 1, .ro 3 (ks.map ag)]:=rfl
 rw[e0]
 refine cX Tryz.func223 (h:= ?_)
 repeat'((conv=>whnf);first
  |refine aq.mk ?_ ?_
  |((first|apply bA|apply bB|apply bC|apply bD|apply bE|apply bF)<;>intro h<;>(try simp only[List.length_map] at h)<;>(try omega)<;>(try contradiction))|(guard_target=aa _ 228 _ _ _ _;refine cG [true,false] rfl (c2) ?_)
  |refine nB ?_
  |refine nO ?_)
 all_goals first|rfl|trivial
theorem OG:kL (.mk 4 2 ks) y x:=by
 obtain⟨a,b,c,d,e,f,g⟩:=x
 have e1:fM (.mk 4 2 ks) y ⟨a,b,c,d,e,f,g⟩=(ep f y,⟨a,b,c,d,e,dL f y,g⟩):=by rw[fM];simp[tc]
 have c1:=kN y
 have c2:=Ot a b c d e f g y hb
 unfold kL
 rw[e1]
 have e0:aI (.mk 4 2 ks)=[J 4,J 2, .ro 3 (ks.map ag)]:=rfl
 rw[e0]
 refine cX Tryz.func223 (h:= ?_)
 repeat'((conv=>whnf);first
  |refine aq.mk ?_ ?_
  |((first|apply bA|apply bB|apply bC|apply bD|apply bE|apply bF)<;>intro h<;>(try simp only[List.length_map] at h)<;>(try omega)<;>(try contradiction))|(guard_target=aa _ 228 _ _ _ _;refine cG [true,false] rfl (c2) ?_)
  |refine nB ?_
  |refine nO ?_)
 all_goals first|rfl|trivial
theorem ON:kL (.mk 4 3 ks) y x:=by
 obtain⟨a,b,c,d,e,f,g⟩:=x
 have e1:fM (.mk 4 3 ks) y ⟨a,b,c,d,e,f,g⟩=(ep g y,⟨a,b,c,d,e,f,dL g y⟩):=by rw[fM];simp[tc]
 have c1:=kN y
 have c2:=OO a b c d e f g y hb
 unfold kL
 rw[e1]
 have e0:aI (.mk 4 3 ks)=[J 4,J 3, .ro 3 (ks.map ag)]:=rfl
 rw[e0]
 refine cX Tryz.func223 (h:= ?_)
 repeat'((conv=>whnf);first
  |refine aq.mk ?_ ?_
  |((first|apply bA|apply bB|apply bC|apply bD|apply bE|apply bF)<;>intro h<;>(try simp only[List.length_map] at h)<;>(try omega)<;>(try contradiction))|(guard_target=aa _ 228 _ _ _ _;refine cG [true,false] rfl (c2) ?_)
  |refine nB ?_
  |refine nO ?_)
 all_goals first|rfl|trivial
theorem Mq(k n:Int)(h3:¬k=3)(h4:¬k=4)(hk:¬(k=y.kind∧ks.length=y.kids.length)):kL (.mk k n ks) y x:=by
 have e1:fM (.mk k n ks) y x=(false,x):=by rw[fM,if_neg h3,if_neg h4,if_neg hk]
 have _:=hb
 unfold kL
 rw[e1]
 have e0:aI (.mk k n ks)=[J k,J n, .ro 3 (ks.map ag)]:=rfl
 rw[e0]
 obtain⟨a,b,c,d,e,f,g⟩:=x
 by_cases h1:k=y.kind
 ·have h2:¬((ks.length:Nat):Int)=(y.kids.length:Nat):=fun h=>hk ⟨h1,by omega⟩
  refine cX Tryz.func223 (h:= ?_)
  repeat'((conv=>whnf);first
   |refine aq.mk ?_ ?_
   |((first|apply bA|apply bB|apply bC|apply bD|apply bE|apply bF)<;>intro h<;>(try simp only[List.length_map] at h)<;>(try omega)<;>(try contradiction))
   |refine nB ?_)
  all_goals first|rfl|trivial
 ·refine cX Tryz.func223 (h:= ?_)
  repeat'((conv=>whnf);first
   |refine aq.mk ?_ ?_
   |((first|apply bA|apply bB|apply bC|apply bD|apply bE|apply bF)<;>intro h<;>(try simp only[List.length_map] at h)<;>(try omega)<;>(try contradiction))
   |refine nB ?_)
  all_goals first|rfl|trivial
theorem Mi(k n:Int)(h3:¬k=3)(h4:¬k=4)(hk:k=y.kind)(hl:ks.length=y.kids.length)(ih:∀i,i<ks.length→∀x:Fit,kL (ks.getD i cL) (y.kids.getD i cL) x):kL (.mk k n ks) y x:=by
 obtain⟨R,hR⟩:∃R,oQ ks y.kids x=R:=⟨_,rfl⟩
 have e1:fM (.mk k n ks) y x=R:=by rw[fM,if_neg h3,if_neg h4,if_pos ⟨hk,hl⟩,hR]
 have hkl:=xG y
 unfold kL
 rw[e1]
 have e0:aI (.mk k n ks)=[J k,J n, .ro 3 (ks.map ag)]:=rfl
 rw[e0]
 have h2:((ks.length:Nat):Int)=(y.kids.length:Nat):=by omega
 refine cX Tryz.func223 (h:= ?_)
 repeat'((conv=>whnf);first
  |(guard_target=aq _ _;(have h9:¬((i:Nat):Int)<(y.kids.length:Nat):=h);(obtain rfl:R=(true,z):=by rw[←ha.2,List.drop_of_length_le (by omega),Hf]);exact aq.mk rfl ⟨rfl,trivial⟩)|(guard_target=aq _ _;(obtain rfl:R=(false,(fM (ks.getD i cL) (y.kids.getD i cL) z).2):=by rw[←ha.2,Jh (i:=i) (by omega) (by omega),if_neg (by simpa using h)]);exact aq.mk rfl ⟨rfl,trivial⟩)|(guard_target=~ aK 8 _ _ _ _ _ _;refine l8 (Fit × Nat) [0,1,2] (fun⟨z,i⟩=>[(7,I (i:Nat))]) (fun⟨z,i⟩=>[(0, .cc 21 (O1 z))]) (fun⟨z,i⟩=>i≤y.kids.length∧oQ (ks.drop i) (y.kids.drop i) z=R) (fun⟨z,i⟩=>y.kids.length-i) (x,0) (by exact⟨Nat.zero_le _,hR⟩) (fun A ha=> ?_);obtain⟨z,i⟩:=A;have ha:i≤y.kids.length∧oQ (ks.drop i) (y.kids.drop i) z=R:=ha)
  |refine rL (((fM (ks.getD i cL) (y.kids.getD i cL) z).2,i+1):Fit × Nat) (by exact⟨by show i+1≤_;omega,by rw[←ha.2,Jh (i:=i) (by omega) (by omega),if_pos h]⟩)
  |(apply Fact.mk;intro hL;try simp only[List.length_map,maxLen] at hL)
  |((first|apply bA|apply bB|apply bC|apply bD|apply bE|apply bF)<;>intro h<;>(try simp only[List.length_map] at h)<;>(try omega)<;>(try contradiction))|(guard_target=aa _ 223 _ _ _ _;refine cG [true,false,false] rfl (ih i (by omega) z) ?_)
  |refine aR ?_|(guard_target=Index _ _ _;first|(refine Index.mk _ (kh (l:=ks) (i:=i) (by omega)) ?_)|(refine Index.mk _ (kh (l:=y.kids) (i:=i) (by omega)) ?_)|fail)
  |refine nB ?_
  |refine nO ?_)
 all_goals first|rfl|trivial
end
theorem z4:∀(p:ae),Tree 3 4 p→∀(y:ae) (x:Fit),aj y≤1048576→kL p y x:=by
 intro p h
 have rec_:∀(k n:Int) (ks:List ae),¬k=3→¬k=4→(∀i,i<ks.length→∀(y:ae) (x:Fit),aj y≤1048576→kL (ks.getD i cL) y x)→∀(y:ae) (x:Fit),aj y≤1048576→kL (.mk k n ks) y x:=by
  intro k n ks h3 h4 ih y x hb
  by_cases hk:k=y.kind∧ks.length=y.kids.length
  ·exact Mi ks y x hb k n h3 h4 hk.1 hk.2 fun i hi x=>ih i hi _ x (Nat.le_trans (An y i) hb)
  ·exact Mq ks y x hb k n h3 h4 hk
 induction h with
 |zero=>exact rec_ 1 0 [] (by decide) (by decide) fun i hi=>by simp at hi
 |one=>exact rec_ 2 0 [] (by decide) (by decide) fun i hi=>by simp at hi
 | @test n h0 h1=>
   intro y x hb
   cases hc:cQ y with
   |false=>exact K4 [] y x hb n hc
   |true=>
    obtain rfl|rfl|rfl:n=0∨n=1∨n=2:=by omega
    ·exact N9 [] y x hb hc
    ·exact N1 [] y x hb hc
    ·exact OA [] y x hb hc
 | @act n h0 h1=>
   intro y x hb
   obtain rfl|rfl|rfl|rfl:n=0∨n=1∨n=2∨n=3:=by omega
   ·exact OE [] y x hb
   ·exact Oe [] y x hb
   ·exact OG [] y x hb
   ·exact ON [] y x hb
 |not hc h ih=>
  refine rec_ 5 0 _ (by decide) (by decide) fun i hi=> ?_
  obtain rfl:i=0:=by simpa using hi
  exact ih
 |sum hx hy ih1 ih2=>
  refine rec_ 6 0 _ (by decide) (by decide) fun i hi=> ?_
  obtain rfl|rfl:i=0∨i=1:=by simp at hi;omega
  ·exact ih1
  ·exact ih2
 |dot hx hy ih1 ih2=>
  refine rec_ 7 0 _ (by decide) (by decide) fun i hi=> ?_
  obtain rfl|rfl:i=0∨i=1:=by simp at hi;omega
  ·exact ih1
  ·exact ih2
 |star hx ih=>
  refine rec_ 8 0 _ (by decide) (by decide) fun i hi=> ?_
  obtain rfl:i=0:=by simpa using hi
  exact ih
end Go.Proofs.YtgbggaddpbghfaaGreat
namespace Go.Proofs.YtgbggaddpbghfaaGreat
open Go Go.KA Go.Proofs
set_option maxHeartbeats 16000000
set_option maxRecDepth 100000
theorem A5{k m:Int}{l:List ae}{i:Nat}(h:i<l.length):yi k m (l.drop i)=(je k m (l.getD i cL)||yi k m (l.drop (i+1))):=by
 rw[List.drop_eq_getElem_cons h,yi,getD_eq h]
theorem M3(k m:Int)(ks:List ae):aD Tryz.prog 224 [.c (.rp 3 (aI (.mk k m ks))),I k,I m] (B true):=by
 have e0:aI (.mk k m ks)=[J k,J m, .ro 3 (ks.map ag)]:=rfl
 rw[e0]
 refine cF Tryz.func224 (h:= ?_)
 repeat'((conv=>whnf);first
  |apply bh.mk
  |((first|apply bA|apply bB|apply bC|apply bD|apply bE|apply bF)<;>intro h<;>(try simp only[List.length_map] at h)<;>(try omega)<;>(try contradiction)))
 all_goals first|rfl|trivial
theorem MO(k m kd n:Int)(ks:List ae)(h:¬(kd=k∧n=m))(ih:∀i,i<ks.length→aD Tryz.prog 224 [.c (.rp 3 (aI (ks.getD i cL))),I k,I m] (B (je k m (ks.getD i cL)))):aD Tryz.prog 224 [.c (.rp 3 (aI (.mk kd n ks))),I k,I m] (B (yi k m ks)):=by
 obtain⟨R,hR⟩:∃R,yi k m ks=R:=⟨_,rfl⟩
 rw[hR]
 have e0:aI (.mk kd n ks)=[J kd,J n, .ro 3 (ks.map ag)]:=rfl
 rw[e0]
 by_cases h1:kd=k
 ·have h2:¬n=m:=fun e=>h ⟨h1,e⟩
  refine cF Tryz.func224 (h:= ?_)
  repeat'((conv=>whnf);first
   |(apply bh.mk;first|((rw[←ha.2,List.drop_of_length_le (by omega)];rfl);done)|((rw[←ha.2,A5 (i:=i) (by omega),h];rfl);done)|skip)|(guard_target=~ aK 4 _ _ _ _ _ _;refine lp (Nat) [0,1,2] (fun i=>[(7,I (i:Nat))]) (fun i=>i≤ks.length∧yi k m (ks.drop i)=R) (fun i=>ks.length-i) 0 (by exact⟨Nat.zero_le _,hR⟩) (fun i ha=> ?_))
   |refine nx (i+1:Nat) (by exact⟨by show i+1≤_;omega,by rw[←ha.2,A5 (i:=i) (by omega),h];rfl⟩)
   |(apply Fact.mk;intro hL;try simp only[List.length_map,maxLen] at hL)
   |((first|apply bA|apply bB|apply bC|apply bD|apply bE|apply bF)<;>intro h<;>(try simp only[List.length_map] at h)<;>(try omega)<;>(try contradiction))|(guard_target=aa _ 224 _ _ _ _;refine cP rfl (ih i (by omega)) ?_)
   |refine aR ?_|(guard_target=Index _ _ _;first|(refine Index.mk _ (kh (l:=ks) (i:=i) (by omega)) ?_)|fail)
   |refine nO ?_)
  all_goals first|rfl|trivial
 ·refine cF Tryz.func224 (h:= ?_)
  repeat'((conv=>whnf);first
   |(apply bh.mk;first|((rw[←ha.2,List.drop_of_length_le (by omega)];rfl);done)|((rw[←ha.2,A5 (i:=i) (by omega),h];rfl);done)|skip)|(guard_target=~ aK 4 _ _ _ _ _ _;refine lp (Nat) [0,1,2] (fun i=>[(7,I (i:Nat))]) (fun i=>i≤ks.length∧yi k m (ks.drop i)=R) (fun i=>ks.length-i) 0 (by exact⟨Nat.zero_le _,hR⟩) (fun i ha=> ?_))
   |refine nx (i+1:Nat) (by exact⟨by show i+1≤_;omega,by rw[←ha.2,A5 (i:=i) (by omega),h];rfl⟩)
   |(apply Fact.mk;intro hL;try simp only[List.length_map,maxLen] at hL)
   |((first|apply bA|apply bB|apply bC|apply bD|apply bE|apply bF)<;>intro h<;>(try simp only[List.length_map] at h)<;>(try omega)<;>(try contradiction))|(guard_target=aa _ 224 _ _ _ _;refine cP rfl (ih i (by omega)) ?_)
   |refine aR ?_|(guard_target=Index _ _ _;first|(refine Index.mk _ (kh (l:=ks) (i:=i) (by omega)) ?_)|fail)
   |refine nO ?_)
  all_goals first|rfl|trivial
theorem jA(k m:Int)(e:ae):aD Tryz.prog 224 [.c (.rp 3 (aI e)),I k,I m] (B (je k m e)):=by
 obtain⟨kd,n,ks⟩:=e
 by_cases h:kd=k∧n=m
 ·obtain⟨rfl,rfl⟩:=h
  have e:je kd n (.mk kd n ks)=true:=by rw[je];simp
  rw[e]
  exact M3 _ _ _
 ·have e:je k m (.mk kd n ks)=yi k m ks:=by rw[je];simp[h]
  rw[e]
  exact MO k m kd n ks h fun i hi=>jA k m (ks.getD i cL)
termination_by SizeOf.sizeOf e
decreasing_by
 rw[getD_eq hi]
 have:=List.sizeOf_lt_of_mem (List.getElem_mem hi)
 simp only[ae.mk.sizeOf_spec]
 omega
theorem lX{x:ae}(h:x.kind=0):iI x=I8:=if_pos h
theorem nQ{x:ae}(h:¬x.kind=0):iI x=x:=if_neg h
end Go.Proofs.YtgbggaddpbghfaaGreat
namespace Go.KA
open Go Go.RowKit
theorem AL.tT{w:World}{ok ok':Nat→Prop}{ss:List SV}{vs:List Value}{f:List Nat}(h:AL w ok ss vs f)(hok:∀b,ok b→ok' b):AL w ok' ss vs f:=by
 induction h with
 |nil=>exact .nil
 |cons h _ ih=>exact .cons (h.tT hok) ih
theorem ah.Le{P:Program}{f:Nat}{cs:List CV}{args:List SV}{outs:List (Option (List CV))}{r:SV}(h:ah P f (.c (.op (cs.map l5))::args) outs r):ah P f (.c (.op cs)::args) outs r:=by
 refine⟨h.1,fun w ok vs fs h1 h2 h3 h4=> ?_⟩
 obtain⟨f1,hs,hd⟩:∃f1,f1.Sublist fs∧AL w (fun b=>ok b∨(b∈fs∧b∉f1)) (.c (.op (cs.map l5))::args) vs f1:=by
  cases h2 with
  | @cons _ v g _ vs k h0 ht=>
    have hx:Den w ok [.op cs] [v] g:=by
        cases h0 with
        |v hv=>cases hv (fun _=>none) with|c hc=>cases hc with|c hd=>exact hd
        |o hd=>exact hd
    cases hx with
    | @op _ _ _ ty _ b g' arr hb hin ht2=>
      cases ht2
      simp only[List.append_nil] at h3 h4⊢
      refine⟨b::k, ?_, ?_⟩
      ·exact(List.sublist_append_right g' k).cons_cons b
      ·have hn:(b::(g'++k)).Nodup:=by simpa using h3
       rw[List.nodup_cons] at hn
       have hn2:=List.nodup_append.1 hn.2
       have e1:Den w (fun c=>ok c∨(c∈b::(g'++k)∧c∉b::k)) (cs.map l5) arr.toList []:=jX hin (fun _ h=> .inl h) fun c hc=> .inr ⟨by simp[hc],fun hm=>by
          rcases List.mem_cons.1 hm with rfl|hm
          ·exact hn.1 (by simp[hc])
          ·exact hn2.2.2 c hc c hm rfl⟩
       exact .cons (f:=[b]) (.o (by simpa using Den.op hb e1 .nil)) (ht.tT fun _ h=> .inl h)
 have h5:=h.2 w (fun b=>ok b∨(b∈fs∧b∉f1)) vs f1 (fun b hb=>hb.elim (h1 b) fun hb=>(h4 b hb.1).1) hd (h3.sublist hs)
  (fun b hb=>⟨(h4 b (hs.subset hb)).1,fun hk=>hk.elim (h4 b (hs.subset hb)).2 fun hk=>hk.2 hb⟩)
 refine h5.mono ?_
 rintro e w' ⟨v,fr,fo,rfl,hgr,hn,hb,ho,hou⟩
 have e:x8 (fun b=>ok b∨(b∈fs∧b∉f1)) f1 (fr++fo) w w'=x8 ok fs (fr++fo) w w':=by
  funext b
  have:((ok b∨(b∈fs∧b∉f1))∨b∈f1∨w.heap.size≤b)↔(ok b∨b∈fs∨w.heap.size≤b):=by
   have:= @List.Sublist.subset _ _ _ hs b
   by_cases h:b∈f1
   ·have:=this h
    simp[h,this]
   ·simp[h,or_assoc]
  unfold x8
  rw[this]
 rw[e] at ho hou
 refine⟨v,fr,fo,rfl,⟨hgr.os,hgr.tape,hgr.output,hgr.size,fun b hb hbn=>hgr.block b hb fun hm=>hbn (hs.subset hm)⟩,hn,fun b hbm=>⟨?_,(hb b hbm).2⟩,ho,hou⟩
 exact(hb b hbm).1.imp_left fun h=>hs.subset h
end Go.KA
namespace Go.Proofs.YtgbggaddpbghfaaGreat
open Go Go.KA Go.Proofs
set_option maxHeartbeats 16000000
set_option maxRecDepth 100000
structure tx(N:Nat)(x:Fit):Prop where
 t0:aj x.t0≤N
 t1:aj x.t1≤N
 t2:aj x.t2≤N
 a0:aj x.a0≤N
 a1:aj x.a1≤N
 a2:aj x.a2≤N
 a3:aj x.a3≤N
theorem jO{N:Nat}{o e:ae}(h1:aj o≤N)(h2:aj e≤N):aj (dL o e)≤N:=by
 unfold dL
 split
 ·exact h2
 ·exact h1
theorem Hs{N:Nat}{x:Fit}{n:Int}{e:ae}(h:tx N x)(he:aj e≤N):tx N (vd x n e).2:=by
 unfold vd
 split
 ·exact⟨jO h.t0 he,h.t1,h.t2,h.a0,h.a1,h.a2,h.a3⟩
 ·split
  ·exact⟨h.t0,jO h.t1 he,h.t2,h.a0,h.a1,h.a2,h.a3⟩
  ·exact⟨h.t0,h.t1,jO h.t2 he,h.a0,h.a1,h.a2,h.a3⟩
theorem I6{N:Nat}{x:Fit}{n:Int}{e:ae}(h:tx N x)(he:aj e≤N):tx N (tc x n e).2:=by
 unfold tc
 split
 ·exact⟨h.t0,h.t1,h.t2,jO h.a0 he,h.a1,h.a2,h.a3⟩
 ·split
  ·exact⟨h.t0,h.t1,h.t2,h.a0,jO h.a1 he,h.a2,h.a3⟩
  ·split
   ·exact⟨h.t0,h.t1,h.t2,h.a0,h.a1,jO h.a2 he,h.a3⟩
   ·exact⟨h.t0,h.t1,h.t2,h.a0,h.a1,h.a2,jO h.a3 he⟩
theorem L8{l:List ae}{x:ae}{N:Nat}(h:x∈l)(hN:aJ l≤N):aj x≤N:=by
 obtain⟨i,hi,rfl⟩:=List.getElem_of_mem h
 have:=xW l i
 rw[getD_eq hi] at this
 omega
mutual
theorem w7{N:Nat}:∀(p y:ae) (x:Fit),tx N x→aj y≤N→tx N (fM p y x).2
 | .mk k n ks,y,x,h,hy=>by
   rw[fM]
   split
   ·split
    ·exact Hs h hy
    ·exact h
   ·split
    ·exact I6 h hy
    ·split
     ·refine CH ks y.kids x h fun z hz=>L8 hz ?_
      cases y
      simpa only[aj,ae.kids] using hy
     ·exact h
theorem CH{N:Nat}:∀(ps ys:List ae) (x:Fit),tx N x→(∀y∈ys,aj y≤N)→tx N (oQ ps ys x).2
 |p::ps,y::ys,x,h,hy=>by
  rw[oQ]
  have h1:=w7 p y x h (hy y (by simp))
  split
  ·exact CH ps ys _ h1 fun z hz=>hy z (by simp[hz])
  ·exact h1
 |[],l,x,h,_=>by rw[Hf];exact h
 |p::ps,[],x,h,_=>by
  rw[oQ]
  ·exact h
  ·intro _ _ _ _ _ h;cases h
end
theorem D9(N:Nat):tx N pq:=by
 constructor<;>simp[pq,cL,aj,aJ]
theorem max_le{a b c:Int}(h1:a≤c)(h2:b≤c):vH a b≤c:=by unfold vH;split<;>omega
theorem le_max{a b:Int}:a≤vH a b:=by unfold vH;split<;>omega
theorem fI{t a:Int}{e:ae}(h:Tree t a e):∀m:Int,(m≤t→dm 3 e m≤t)∧(m≤a→dm 4 e m≤a)∧(m≤dm 3 e m)∧(m≤dm 4 e m):=by
 induction h with
 |zero=>intro m;simp[dm,eY]
 |one=>intro m;simp[dm,eY]
 |test h0 h1=>intro m;simp only[dm,eY];exact⟨fun h=>max_le h (by omega),fun h=>h,le_max,Int.le_refl _⟩
 |act h0 h1=>intro m;simp only[dm,eY];exact⟨fun h=>h,fun h=>max_le h (by omega),Int.le_refl _,le_max⟩
 |not hc h ih=>intro m;simpa[dm,eY] using ih m
 |star h ih=>intro m;simpa[dm,eY] using ih m
 | @sum x y hx hy ih1 ih2=>
   intro m
   have a1:=ih1 m
   have a3:=ih2 (dm 3 x m)
   have a4:=ih2 (dm 4 x m)
   simp only[dm,eY]
   simp
   exact⟨fun h=>a3.1 (a1.1 h),fun h=>a4.2.1 (a1.2.1 h),Int.le_trans a1.2.2.1 a3.2.2.1,Int.le_trans a1.2.2.2 a4.2.2.2⟩
 | @dot x y hx hy ih1 ih2=>
   intro m
   have a1:=ih1 m
   have a3:=ih2 (dm 3 x m)
   have a4:=ih2 (dm 4 x m)
   simp only[dm,eY]
   simp
   exact⟨fun h=>a3.1 (a1.1 h),fun h=>a4.2.1 (a1.2.1 h),Int.le_trans a1.2.2.1 a3.2.2.1,Int.le_trans a1.2.2.2 a4.2.2.2⟩
end Go.Proofs.YtgbggaddpbghfaaGreat
namespace Go.Proofs.YtgbggaddpbghfaaGreat
open Go Go.KA Go.Proofs
set_option maxHeartbeats 16000000
set_option maxRecDepth 100000
theorem wT:lV 6≤20000:=by decide
theorem Dc(g:jd)(hg:0≤g.au∧g.au≤3∧0≤g.ai∧g.ai≤4)(s:Src)(hs:Rd s 600000000)(hc:s.code.length≤1000000)(n:Int)(hn:0≤n∧n≤100):
 ah Tryz.prog 139 [.c (.op (c8 s)), .a 2 [J g.au,J g.ai],I n] [some [.op (c8 (bo g 6 false ⟨s,n⟩).2.s)],none,none] (.a 3 (aI (bo g 6 false ⟨s,n⟩).1)):=by
 have e:=wT
 have h:=nM g hg 6 6 false ⟨s,n⟩ 600000000 rfl ⟨hs,by omega,hc,by simp only[];omega,by simp only[];omega⟩ (by omega)
 rw[fv] at h
 obtain⟨gt,ga⟩:=g
 generalize bo ⟨gt,ga⟩ 6 false ⟨s,n⟩=X at h⊢
 obtain⟨⟨k1,n1,ks1⟩,⟨s1,l1⟩⟩:=X
 simp only[fg] at h⊢
 refine cX Tryz.func139 (h:= ?_)
 repeat'((conv=>whnf);first
  |refine aq.mk ?_ ?_|(guard_target=aa _ 170 _ _ _ _;refine aa.gen [true,false,false] _ _ _ rfl h rfl rfl _ rfl ?_))
 all_goals first|rfl|exact⟨rfl,trivial⟩
end Go.Proofs.YtgbggaddpbghfaaGreat
namespace Go.Proofs.YtgbggaddpbghfaaGreat
open Go Go.KA Go.Proofs
set_option maxHeartbeats 16000000
set_option maxRecDepth 100000
mutual
theorem y2:∀e:ae,ja (ay e)
 | .mk k n ks=>by
   simp only[ay,ja,im]
   exact⟨trivial,trivial,zN ks,trivial⟩
theorem zN:∀l:List ae,js (ku l)
 |[]=>trivial
 |x::xs=>⟨y2 x,zN xs⟩
end
theorem sy:∀l:List ae,js (l.map ay)
 |[]=>trivial
 |x::xs=>⟨y2 x,sy xs⟩
theorem g9(e:ae):jJ (.a 3 (bN e)):=by
 intro x hx
 simp only[bN,List.mem_cons,List.not_mem_nil,or_false] at hx
 rcases hx with rfl|rfl|rfl
 ·trivial
 ·trivial
 ·exact sy _
end Go.Proofs.YtgbggaddpbghfaaGreat
namespace Go.Proofs.YtgbggaddpbghfaaGreat
open Go Go.KA Go.Proofs
set_option maxHeartbeats 16000000
set_option maxRecDepth 100000
theorem ah.Oy{P:Program}{f:Nat}{args:List SV}{outs:List (Option (List CV))}{cs cs':List CV}{n:Nat}(h:ah P f args outs (.a n cs))(hc:og cs cs'):ah P f args outs (.a n cs'):=by
 refine⟨h.1,fun w ok vs fs h1 h2 h3 h4=>(h.2 w ok vs fs h1 h2 h3 h4).mono ?_⟩
 rintro e w' ⟨v,fr,fo,h5,h6,h7,h8,h9,h10⟩
 refine⟨v,fr,fo,h5,h6,h7,h8, ?_,h10⟩
 cases h9 with
 |v ha=>
  refine .v ?_
  cases ha with
  |v h=>
   refine .v fun ρ=> ?_
   cases h ρ with
   |c h=>cases h
   |a a1 a2=>first|exact .a (hc.len▸a1) (hc.den a2)|exact .a hc.len.symm (hc.den a2)|exact .a hc.len.symm (hc.den a1)
  |a hl h=>exact .a (hc.len▸hl) (hc.den h)
theorem zY(x:ae):uP (.a 3 (bN x)) (.a 3 (aI x)):=by
 have h:=Dg x
 rw[fv] at h
 cases h with
 |v h=>exact h
theorem dX{P:Program}{f:Nat}{args:List SV}{outs:List (Option (List CV))}{k n:Int}(h:ah P f args outs (.a 3 [J k,J n, .ows 66 3 []])):ah P f args outs (.a 3 (bN (.mk k n []))):=ah.Oy h (.same (.same (.up .nil)))
theorem vO:ah Tryz.prog 190 [] [] (.a 3 (bN (.mk 2 0 []))):=by
 refine dX ?_
 refine cX Tryz.func190 (h:= ?_)
 repeat'((conv=>whnf);first
  |refine aq.mk ?_ ?_)
 all_goals first|rfl|trivial
section
variable{ts us:List ae}(h1:∀x∈ts,aj x≤200)(h2:∀x∈us,aj x≤200)
include h1 h2
theorem CG(e:ae)(hl:kO e=true)(hn:gZ e≤1000)(hx:∀x∈e.kids,∀m:Int,m≤1000→ -1000000+201*(gZ x:Nat)≤m→ah Tryz.prog 191 [.c (.rp 3 (ag x)), .c (.ro 3 (ts.map ag)), .c (.ro 3 (us.map ag)), .c (.op [J m])] [none,none,none,some [.op [J (jP ts us x m).2]]] (.a 3 (bN (jP ts us x m).1))):
 ∀m:Int,m≤1000→ -1000000+201*(gZ e:Nat)≤m→ah Tryz.prog 191 [.c (.rp 3 (aI e)), .c (.ro 3 (ts.map ag)), .c (.ro 3 (us.map ag)), .c (.op [J m])] [none,none,none,some [.op [J (jP ts us e m).2]]] (.a 3 (bN (jP ts us e m).1)):=by
 intro m m1 m0
 obtain⟨k,d,ks⟩:=e
 rw[kO,Bool.and_eq_true,decide_eq_true_eq] at hl
 rw[jP]
 simp only[ae.kids] at hx
 have e0:aI (.mk k d ks)=[J k,J d, .ro 3 (ks.map ag)]:=rfl
 rw[e0]
 have hnb:gZ (.mk k d ks)=aJ ks+1:=rfl
 by_cases g1:m-1<0
 ·rw[if_pos g1]
  refine dX ?_
  refine cX Tryz.func191 (h:= ?_)
  repeat'((conv=>whnf);first
   |refine aq.mk ?_ ?_
   |((first|apply bA|apply bB|apply bC|apply bD|apply bE|apply bF)<;>intro h<;>(try simp only[List.length_map] at h)<;>(try omega)<;>(try contradiction))
   |refine aR ?_)
  all_goals first|rfl|exact⟨rfl,trivial⟩|trivial
 rw[if_neg g1]
 by_cases g3:k=3
 ·subst g3
  rw[if_pos rfl]
  by_cases g5:d≥(ts.length:Nat)
  ·rw[if_pos g5]
   refine cX Tryz.func191 (h:= ?_)
   repeat'((conv=>whnf);first
        |refine aq.mk ?_ ?_
        |(apply Fact.mk;intro hL;try simp only[List.length_map,maxLen] at hL)
        |((first|apply bA|apply bB|apply bC|apply bD|apply bE|apply bF)<;>intro h<;>(try simp only[List.length_map] at h)<;>(try omega)<;>(try contradiction))|(guard_target=aa _ 190 _ _ _ _;refine cG [] rfl (vO) ?_)
        |refine aR ?_)
   all_goals first|rfl|exact⟨rfl,trivial⟩|trivial
  ·rw[if_neg g5]
   have hi:d.toNat<ts.length:=by omega
   have hb:aj (ts.getD d.toNat cL)≤200:=by rw[getD_eq hi];exact h1 _ (List.getElem_mem hi)
   have c1:=Aq (ts.getD d.toNat cL) (by simp only[gZ];omega)
   have c2:=eu (ts.getD d.toNat cL) (by omega)
   rw[fv] at c2
   have ix:=kh (l:=ts) (i:=d.toNat) hi
   have hnb2:gZ (ts.getD d.toNat cL)≤201:=by simp only[gZ];omega
   generalize gZ (ts.getD d.toNat cL)=z at c1 hnb2⊢
   generalize ts.getD d.toNat cL=x at c1 c2 ix⊢
   refine cX Tryz.func191 (h:= ?_)
   repeat'((conv=>whnf);first
        |refine aq.mk ?_ ?_
        |(apply Fact.mk;intro hL;try simp only[List.length_map,maxLen] at hL)
        |((first|apply bA|apply bB|apply bC|apply bD|apply bE|apply bF)<;>intro h<;>(try simp only[List.length_map] at h)<;>(try omega)<;>(try contradiction))|(guard_target=aa _ 193 _ _ _ _;refine cP rfl (c1) ?_)|(guard_target=aa _ 137 _ _ _ _;refine cG [] rfl (c2) ?_)
        |refine aR ?_|(guard_target=Index _ _ _;first|(refine Index.mk _ (ix) ?_)|fail)
        |refine nB ?_
        |refine nO ?_)
   all_goals first|rfl|exact⟨rfl,trivial⟩|trivial
 rw[if_neg g3]
 by_cases g4:k=4
 ·subst g4
  rw[if_pos rfl]
  by_cases g5:d≥(us.length:Nat)
  ·rw[if_pos g5]
   refine cX Tryz.func191 (h:= ?_)
   repeat'((conv=>whnf);first
        |refine aq.mk ?_ ?_
        |(apply Fact.mk;intro hL;try simp only[List.length_map,maxLen] at hL)
        |((first|apply bA|apply bB|apply bC|apply bD|apply bE|apply bF)<;>intro h<;>(try simp only[List.length_map] at h)<;>(try omega)<;>(try contradiction))|(guard_target=aa _ 190 _ _ _ _;refine cG [] rfl (vO) ?_)
        |refine aR ?_)
   all_goals first|rfl|exact⟨rfl,trivial⟩|trivial
  ·rw[if_neg g5]
   have hi:d.toNat<us.length:=by omega
   have hb:aj (us.getD d.toNat cL)≤200:=by rw[getD_eq hi];exact h2 _ (List.getElem_mem hi)
   have c1:=Aq (us.getD d.toNat cL) (by simp only[gZ];omega)
   have c2:=eu (us.getD d.toNat cL) (by omega)
   rw[fv] at c2
   have ix:=kh (l:=us) (i:=d.toNat) hi
   have hnb2:gZ (us.getD d.toNat cL)≤201:=by simp only[gZ];omega
   generalize gZ (us.getD d.toNat cL)=z at c1 hnb2⊢
   generalize us.getD d.toNat cL=x at c1 c2 ix⊢
   refine cX Tryz.func191 (h:= ?_)
   repeat'((conv=>whnf);first
        |refine aq.mk ?_ ?_
        |(apply Fact.mk;intro hL;try simp only[List.length_map,maxLen] at hL)
        |((first|apply bA|apply bB|apply bC|apply bD|apply bE|apply bF)<;>intro h<;>(try simp only[List.length_map] at h)<;>(try omega)<;>(try contradiction))|(guard_target=aa _ 193 _ _ _ _;refine cP rfl (c1) ?_)|(guard_target=aa _ 137 _ _ _ _;refine cG [] rfl (c2) ?_)
        |refine aR ?_|(guard_target=Index _ _ _;first|(refine Index.mk _ (ix) ?_)|fail)
        |refine nB ?_
        |refine nO ?_)
   all_goals first|rfl|exact⟨rfl,trivial⟩|trivial
 rw[if_neg g4]
 have hlen:ks.length≤1000:=by
  have:∀l:List ae,l.length≤aJ l:=fun l=>by
   induction l with
   |nil=>exact Nat.zero_le _
   |cons x xs ih=>simp only[aJ,List.length_cons];omega
  have:=this ks
  omega
 have hbd:∀i (h:i<ks.length),aJ (ks.take i)+gZ ks[i]≤aJ ks:=fun i h=>by
  have h5:=ti (l:=ks) h
  have h6:=xw ks (i+1)
  omega
 have hpb:=fun i=>C6 h1 h2 (ks.take i) (m-1)
 have e9:∀l:List ae,bN (.mk k d l)=[J k,J d, .own 66 3 (l.map ay)]:=fun l=>rfl
 rw[e9]
 have fin:il ts us (ks.take ks.length) (m-1)=il ts us ks (m-1):=by rw[List.take_length]
 rw[←fin]
 have hnext:∀i (h:i<ks.length),il ts us (ks.take (i+1)) (m-1)=((il ts us (ks.take i) (m-1)).1++[(jP ts us ks[i] (il ts us (ks.take i) (m-1)).2).1],(jP ts us ks[i] (il ts us (ks.take i) (m-1)).2).2):=fun i h=>zD h _
 have hlen2:∀i,i≤ks.length→(il ts us (ks.take i) (m-1)).1.length=i:=fun i h=>by rw[Dd,List.length_take];omega
 have h00:il ts us (ks.take 0) (m-1)=([],m-1):=by simp[il]
 generalize hP:(fun i=>il ts us (ks.take i) (m-1))=P at*
 have hP':∀i,il ts us (ks.take i) (m-1)=P i:=fun i=>by rw[←hP]
 simp only[hP'] at*
 refine cX Tryz.func191 (h:= ?_)
 repeat'((conv=>whnf);first
  |(guard_target=aq _ _;(obtain rfl:i=ks.length:=(by have:=ha.1;omega));rw[←ha.2.1,←ha.2.2.1];exact aq.mk rfl ⟨rfl,trivial⟩)|(guard_target=~ aK 14 _ _ _ _ _ _;refine l8 (Nat × List (List CV)× Int) [0,1,2,3,8,10] (fun⟨i,rows,q⟩=>[(11,I (i:Nat))]) (fun⟨i,rows,q⟩=>[(0, .cc 1 [J q]),(3, .aG none 66 3 rows)]) (fun⟨i,rows,q⟩=>i≤ks.length∧rows=(P i).1.map ay∧q=(P i).2∧rows.length=i) (fun⟨i,rows,q⟩=>ks.length-i) (0,[],m-1) (by exact⟨Nat.zero_le _,by show[]=(P 0).1.map ay;rw[h00];rfl,by show m-1=(P 0).2;rw[h00],rfl⟩) (fun A ha=> ?_);obtain⟨i,rows,q⟩:=A;have ha:i≤ks.length∧rows=(P i).1.map ay∧q=(P i).2∧rows.length=i:=ha;have hpi:=hpb i;have hbi:=hbd i)
  |refine rL ((i+1,rows++[bN (jP ts us (ks[i]'(by omega)) q).1],(jP ts us (ks[i]'(by omega)) q).2):Nat × List (List CV)× Int) (by exact⟨by show i+1≤_;omega,by show _=(P (i+1)).1.map ay;rw[hnext i (by omega),List.map_append,←ha.2.1,←ha.2.2.1,List.map_cons,List.map_nil,dt],by show _=(P (i+1)).2;rw[hnext i (by omega),←ha.2.2.1],by show(rows++_).length=i+1;rw[List.length_append,ha.2.2.2];rfl⟩)
  |(apply Fact.mk;intro hL;try simp only[List.length_map,maxLen] at hL)
  |((first|apply bA|apply bB|apply bC|apply bD|apply bE|apply bF)<;>intro h<;>(try simp only[List.length_map] at h)<;>(try omega)<;>(try contradiction))|(guard_target=aa _ 191 _ _ _ _;refine cG [false,false,false,true] rfl (hx (ks[i]'(by omega)) (List.getElem_mem (by omega)) q (by omega) (by have:=hbi (by omega);omega)) ?_)
  |refine aR ?_|(guard_target=Index _ _ _;first|(refine Index.mk _ (bw (i:=i) (by omega)) ?_)|fail)
  |refine nB ?_|(guard_target=aV _ _;refine aV.mk (by first|((simp only[List.length_cons,List.length_nil,maxLen];constructor<;>omega))|fail) ?_)
  |refine nO ?_)
 all_goals first|rfl|exact⟨rfl,trivial⟩|trivial
theorem xr(e:ae)(hl:kO e=true)(hn:gZ e≤1000)(m:Int)(m1:m≤1000)(m0: -1000000+201*(gZ e:Nat)≤m):ah Tryz.prog 191 [.c (.rp 3 (ag e)), .c (.ro 3 (ts.map ag)), .c (.ro 3 (us.map ag)), .c (.op [J m])] [none,none,none,some [.op [J (jP ts us e m).2]]] (.a 3 (bN (jP ts us e m).1)):=by
 rw[a9]
 exact CG h1 h2 e hl hn (fun x _hx m a b=>xr x (xp _hx (by rw[GR,Bool.and_eq_true] at hl;exact hl.2)) (by have:=vK _hx;omega) m a b) m m1 m0
 termination_by SizeOf.sizeOf e
 decreasing_by
  have:=List.sizeOf_lt_of_mem _hx
  cases e
  simp only[ae.mk.sizeOf_spec]
  show SizeOf.sizeOf x<_
  simp only[ae.kids] at this
  omega
theorem lM(t a:Int)(hs:bO t a=true)(e:ae)(hl:kO e=true)(hn:gZ e≤1000):ah Tryz.prog 168 [.a 2 [J t,J a], .c (.rp 3 (aI e)), .c (.ro 3 (ts.map ag)), .c (.ro 3 (us.map ag))] [] (.tup [.a 3 (bN (ie t a e ts us).1),B (ie t a e ts us).2]):=by
 have c1:=xr h1 h2 e hl hn 200 (by decide) (by omega)
 rw[fv] at c1
 have hb:=lY h1 h2 e 200
 have c2:=lJ t a (jP ts us e 200).1 (by simp only[gZ] at*;omega)
 rw[hs,fv] at c2
 unfold ie
 generalize jP ts us e 200=R at c1 c2⊢
 obtain⟨⟨k,n,ks⟩,m⟩:=R
 simp only[Bool.true_and] at c1 c2⊢
 have e8:aI (.mk k n ks)=[J k,J n, .ro 3 (cW (ks.map ay))]:=by rw[bQ eM];rfl
 rw[e8] at c2
 generalize aY t a (.mk k n ks)=g at c2⊢
 by_cases hm9:0≤m
 ·rw[decide_eq_true hm9]
  cases g with
  |true=>
   refine cX Tryz.func168 (h:= ?_)
   repeat'((conv=>whnf);first
     |refine aq.mk ?_ ?_
     |((first|apply bA|apply bB|apply bC|apply bD|apply bE|apply bF)<;>intro h<;>(try simp only[List.length_map] at h)<;>(try omega)<;>(try contradiction))|(guard_target=aa _ 191 _ _ _ _;refine cG [false,false,false,true] rfl (c1) ?_)|(guard_target=aa _ 174 _ _ _ _;refine cP rfl (c2) ?_)
     |refine nB ?_)
   all_goals first|rfl|trivial
  |false=>
   refine cX Tryz.func168 (h:= ?_)
   repeat'((conv=>whnf);first
     |refine aq.mk ?_ ?_
     |((first|apply bA|apply bB|apply bC|apply bD|apply bE|apply bF)<;>intro h<;>(try simp only[List.length_map] at h)<;>(try omega)<;>(try contradiction))|(guard_target=aa _ 191 _ _ _ _;refine cG [false,false,false,true] rfl (c1) ?_)|(guard_target=aa _ 174 _ _ _ _;refine cP rfl (c2) ?_)
     |refine nB ?_)
   all_goals first|rfl|trivial
 ·rw[decide_eq_false hm9]
  refine cX Tryz.func168 (h:= ?_)
  repeat'((conv=>whnf);first
   |refine aq.mk ?_ ?_
   |((first|apply bA|apply bB|apply bC|apply bD|apply bE|apply bF)<;>intro h<;>(try simp only[List.length_map] at h)<;>(try omega)<;>(try contradiction))|(guard_target=aa _ 191 _ _ _ _;refine cG [false,false,false,true] rfl (c1) ?_)
   |refine nB ?_)
  all_goals first|rfl|trivial
theorem zT(t a:Int)(hs:bO t a=true)(e:ae)(hl:kO e=true)(hn:gZ e≤1000):ah Tryz.prog 168 [.a 2 [J t,J a], .c (.rp 3 (aI e)), .c (.ro 3 (ts.map ag)), .c (.ro 3 (us.map ag))] [] (.tup [.a 3 (aI (ie t a e ts us).1),B (ie t a e ts us).2]):=
 (lM h1 h2 t a hs e hl hn).soft (.tup (.cons (zY _) (.cons .same .nil)))
end
end Go.Proofs.YtgbggaddpbghfaaGreat
