/- The walk through the reference's trying one side of an equation at a node: what is found owns its memory. Over contracts of what it calls. -/
import Derived.Test.YtgbggaddpbghfaaGreatKAM
namespace Go.Proofs.YtgbggaddpbghfaaGreat
open Go Go.KA Go.Proofs Go.Proofs.Tryz
set_option maxHeartbeats 16000000
set_option maxRecDepth 100000
abbrev Oi(t a:Int)(ax:List b7)(e:aA)(out:List (List CV))(bc:CV):List CV:=[J t,J a, .ro 6 (ax.map bm), .rp 3 (aY e), .own 156 5 out,bc]
theorem mo{n:Nat}{cs:List CV}{c:CV}(h:ld (.a n cs))(hc:jc c:=by trivial):ld (.tup [.a n cs, .c c]):=by
 intro s hs;simp only[List.mem_cons,List.not_mem_nil,or_false]at hs;rcases hs with rfl|rfl
 ·exact h
 ·exact hc
theorem H8:ld (.a 3 [.any, .any, .any]):=by
 intro s hs;simp only[List.mem_cons,List.not_mem_nil,or_false,or_self]at hs;subst hs;trivial
section
variable{t a:Int}{ax:List b7}{e node L R p0 p1 p2 q0 q1 q2 q3 S:aA}{path:List Int}{u:Nat}{out sS:List (List CV)}{bad fb sb:Bool}{bc:CV}{o3 o4:Nat->Bool}{m3 m4 n3 n4 code:Int}{ts us:List (List CV)}
 (si:(ax.map bm)[((u:Nat):Int).toNat]? =some [J L.kind,J L.num, .ro 3 (L.kids.map aD),J R.kind,J R.num, .ro 3 (R.kids.map aD)])
 (cw:aE prog 133 [.c (.ro 1 (path.map eI))] [] (.c (.ows 2 1 (path.map eI))))
 (ol:out.length≤300)
include si cw ol
theorem Kv
 (cf:aE prog 223 [.c (.op R7),(.c (.rp 6 [J L.kind,J L.num, .ro 3 (L.kids.map aD),J R.kind,J R.num, .ro 3 (R.kids.map aD)])), .c (.rp 3 (aY node))] [some [.op (nZ p0 p1 p2 q0 q1 q2 q3)]] (B fb))
 (ct:aE prog 208 [(.c (.rp 3 [J R.kind,J R.num, .ro 3 (R.kids.map aD)])), .c (.op [J 0]), .c (.op [J 0])] [none,some [.op [J m3]],some [.op [J m4]]] (.tup []))
 (c3:∀j:Nat,aS prog 224 [(.c (.rp 3 [J R.kind,J R.num, .ro 3 (R.kids.map aD)])),I 3,I (j:Nat)] (B (o3 j)))
 (c4:∀j:Nat,aS prog 224 [(.c (.rp 3 [J R.kind,J R.num, .ro 3 (R.kids.map aD)])),I 4,I (j:Nat)] (B (o4 j)))
 (cu:aE prog 208 [(.c (.rp 6 [J L.kind,J L.num, .ro 3 (L.kids.map aD),J R.kind,J R.num, .ro 3 (R.kids.map aD)])), .c (.op [J m3]), .c (.op [J m4])] [none,some [.op [J n3]],some [.op [J n4]]] (.tup []))
 (cl:aE prog 225 [.c (.rp 21 (nZ p0 p1 p2 q0 q1 q2 q3)),I n3,I n4] [] (.tup [.c (.own 66 3 ts), .c (.own 66 3 us)]))
 (pl:ld (.tup [.c (.own 66 3 ts), .c (.own 66 3 us)]))
 (cs:aE prog 168 [.a 2 [J t,J a],(.c (.rp 3 [J R.kind,J R.num, .ro 3 (R.kids.map aD)])), .c (.ro 3 (dD ts)), .c (.ro 3 (dD us))] [] (.tup [.a 3 (cC S),B sb]))
 (cr:aE prog 198 [.a 2 [J t,J a], .c (.rp 3 (aY e)), .c (.ro 1 (path.map eI)), .c (.rp 3 [J S.kind,J S.num, .ro 3 (dD (S.kids.map aM))])] [] (.tup [.a 3 [.any, .any, .any],I code]))
 (e1:fb=false->sS=out/\bc= .val (.bool bad))
 (e2:fb=true-> ∀j,j<3->kz [p0,p1,p2] o3 j=true->sS=out/\bc= .val (.bool bad))
 (e3:fb=true-> ∀j,j<4->kz [q0,q1,q2,q3] o4 j=true->sS=out/\bc= .val (.bool bad))
 (e4:fb=true->(∀j,j<3->kz [p0,p1,p2] o3 j=false)->(∀j,j<4->kz [q0,q1,q2,q3] o4 j=false)->sb=false->sS=out/\bc= .val (.bool bad))
 (e5:fb=true->(∀j,j<3->kz [p0,p1,p2] o3 j=false)->(∀j,j<4->kz [q0,q1,q2,q3] o4 j=false)->sb=true-> ¬code=0->sS=out/\bc= .val (.bool bad))
 (e6:fb=true->(∀j,j<3->kz [p0,p1,p2] o3 j=false)->(∀j,j<4->kz [q0,q1,q2,q3] o4 j=false)->sb=true->code=0->((out.length:Nat):Int)≥300->sS=out/\bc= .val (.bool true))
 (e7:fb=true->(∀j,j<3->kz [p0,p1,p2] o3 j=false)->(∀j,j<4->kz [q0,q1,q2,q3] o4 j=false)->sb=true->code=0-> ¬((out.length:Nat):Int)≥300->sS=out++[[J u, .val (.bool false), .ows 2 1 (path.map eI), .own 66 3 ts, .own 66 3 us]]/\bc= .val (.bool bad)):
 aE prog 219 [.c (.op (Oi t a ax e out (.val (.bool bad)))), .c (.ro 1 (path.map eI)), .c (.rp 3 (aY node)),I (u:Nat),B false] [some [.op (Oi t a ax e sS bc)]] (.tup []):=by
 refine cX func219 (h:=?_)
 repeat'((conv=>whnf);first
  |(show aI _ _;(have g0:=‹fb=false›);(obtain⟨rfl,rfl⟩:=e1 g0);exact aI.mk rfl ⟨rfl,trivial⟩)|(show aI _ _;(have g0:=‹fb=true›);(have g1:=‹p0.kind=0›);(have g2:=‹o3 0=true›);(obtain⟨rfl,rfl⟩:=e2 g0 0 (by decide) (oa (l:=[p0,p1,p2]) g1 g2));exact aI.mk rfl ⟨rfl,trivial⟩)|(show aI _ _;(have g0:=‹fb=true›);(have g1:=‹p1.kind=0›);(have g2:=‹o3 1=true›);(obtain⟨rfl,rfl⟩:=e2 g0 1 (by decide) (oa (l:=[p0,p1,p2]) g1 g2));exact aI.mk rfl ⟨rfl,trivial⟩)|(show aI _ _;(have g0:=‹fb=true›);(have g1:=‹p2.kind=0›);(have g2:=‹o3 2=true›);(obtain⟨rfl,rfl⟩:=e2 g0 2 (by decide) (oa (l:=[p0,p1,p2]) g1 g2));exact aI.mk rfl ⟨rfl,trivial⟩)|(show aI _ _;(have g0:=‹fb=true›);(have g1:=‹q0.kind=0›);(have g2:=‹o4 0=true›);(obtain⟨rfl,rfl⟩:=e3 g0 0 (by decide) (oa (l:=[q0,q1,q2,q3]) g1 g2));exact aI.mk rfl ⟨rfl,trivial⟩)|(show aI _ _;(have g0:=‹fb=true›);(have g1:=‹q1.kind=0›);(have g2:=‹o4 1=true›);(obtain⟨rfl,rfl⟩:=e3 g0 1 (by decide) (oa (l:=[q0,q1,q2,q3]) g1 g2));exact aI.mk rfl ⟨rfl,trivial⟩)|(show aI _ _;(have g0:=‹fb=true›);(have g1:=‹q2.kind=0›);(have g2:=‹o4 2=true›);(obtain⟨rfl,rfl⟩:=e3 g0 2 (by decide) (oa (l:=[q0,q1,q2,q3]) g1 g2));exact aI.mk rfl ⟨rfl,trivial⟩)|(show aI _ _;(have g0:=‹fb=true›);(have g1:=‹q3.kind=0›);(have g2:=‹o4 3=true›);(obtain⟨rfl,rfl⟩:=e3 g0 3 (by decide) (oa (l:=[q0,q1,q2,q3]) g1 g2));exact aI.mk rfl ⟨rfl,trivial⟩)|(show aI _ _;(have g0:=‹fb=true›);(have g1:=‹sb=false›);(have Jh:∀j,j<3->kz [p0,p1,p2] o3 j=false:=fun j hj=>hA.2 j (by omega));(have IT:∀j,j<4->kz [q0,q1,q2,q3] o4 j=false:=fun j hj=>hB.2 j (by omega));(obtain⟨rfl,rfl⟩:=e4 g0 Jh IT g1);exact aI.mk rfl ⟨rfl,trivial⟩)|(show aI _ _;(have g0:=‹fb=true›);(have g1:=‹sb=true›);(have g2:=‹¬code=0›);(have Jh:∀j,j<3->kz [p0,p1,p2] o3 j=false:=fun j hj=>hA.2 j (by omega));(have IT:∀j,j<4->kz [q0,q1,q2,q3] o4 j=false:=fun j hj=>hB.2 j (by omega));(obtain⟨rfl,rfl⟩:=e5 g0 Jh IT g1 g2);exact aI.mk rfl ⟨rfl,trivial⟩)|(show aI _ _;(have g0:=‹fb=true›);(have g1:=‹sb=true›);(have g2:=‹code=0›);(have g3:=‹((out.length:Nat):Int)≥300›);(have Jh:∀j,j<3->kz [p0,p1,p2] o3 j=false:=fun j hj=>hA.2 j (by omega));(have IT:∀j,j<4->kz [q0,q1,q2,q3] o4 j=false:=fun j hj=>hB.2 j (by omega));(obtain⟨rfl,rfl⟩:=e6 g0 Jh IT g1 g2 g3);exact aI.mk rfl ⟨rfl,trivial⟩)|(show aI _ _;(have g0:=‹fb=true›);(have g1:=‹sb=true›);(have g2:=‹code=0›);(have g3:=‹¬((out.length:Nat):Int)≥300›);(have Jh:∀j,j<3->kz [p0,p1,p2] o3 j=false:=fun j hj=>hA.2 j (by omega));(have IT:∀j,j<4->kz [q0,q1,q2,q3] o4 j=false:=fun j hj=>hB.2 j (by omega));(obtain⟨rfl,rfl⟩:=e7 g0 Jh IT g1 g2 g3);exact aI.mk rfl ⟨rfl,trivial⟩)|(show aZ 12 _ _ _ _ _ _;refine lp (Nat) [0,1,3,4,11,12,13,14,15] (fun i=>[(16,I (i:Nat))]) (fun i=>i≤3/\ ∀j,j<i->kz [p0,p1,p2] o3 j=false) (fun i=>3-i) 0 (by exact⟨by decide,fun j hj=>by omega⟩) (fun i ha=>?_);(have hA:=ha);(rcases i with _|_|_|i))|(show aZ 16 _ _ _ _ _ _;refine lp (Nat) [0,1,3,4,11,12,13,14,15] (fun i=>[(17,I (i:Nat))]) (fun i=>i≤4/\ ∀j,j<i->kz [q0,q1,q2,q3] o4 j=false) (fun i=>4-i) 0 (by exact⟨by decide,fun j hj=>by omega⟩) (fun i ha=>?_);(have hB:=ha);(rcases i with _|_|_|_|i))
  |refine nx (1:Nat) (by exact⟨by decide,dP (i:=0) hA.2 (om (l:=[p0,p1,p2]) ‹¬p0.kind=0›)⟩)
  |refine nx (1:Nat) (by exact⟨by decide,dP (i:=0) hA.2 (kQ (j:=0) ‹o3 0=false›)⟩)
  |refine nx (2:Nat) (by exact⟨by decide,dP (i:=1) hA.2 (om (l:=[p0,p1,p2]) ‹¬p1.kind=0›)⟩)
  |refine nx (2:Nat) (by exact⟨by decide,dP (i:=1) hA.2 (kQ (j:=1) ‹o3 1=false›)⟩)
  |refine nx (3:Nat) (by exact⟨by decide,dP (i:=2) hA.2 (om (l:=[p0,p1,p2]) ‹¬p2.kind=0›)⟩)
  |refine nx (3:Nat) (by exact⟨by decide,dP (i:=2) hA.2 (kQ (j:=2) ‹o3 2=false›)⟩)
  |refine nx (1:Nat) (by exact⟨by decide,dP (i:=0) hB.2 (om (l:=[q0,q1,q2,q3]) ‹¬q0.kind=0›)⟩)
  |refine nx (1:Nat) (by exact⟨by decide,dP (i:=0) hB.2 (kQ (j:=0) ‹o4 0=false›)⟩)
  |refine nx (2:Nat) (by exact⟨by decide,dP (i:=1) hB.2 (om (l:=[q0,q1,q2,q3]) ‹¬q1.kind=0›)⟩)
  |refine nx (2:Nat) (by exact⟨by decide,dP (i:=1) hB.2 (kQ (j:=1) ‹o4 1=false›)⟩)
  |refine nx (3:Nat) (by exact⟨by decide,dP (i:=2) hB.2 (om (l:=[q0,q1,q2,q3]) ‹¬q2.kind=0›)⟩)
  |refine nx (3:Nat) (by exact⟨by decide,dP (i:=2) hB.2 (kQ (j:=2) ‹o4 2=false›)⟩)
  |refine nx (4:Nat) (by exact⟨by decide,dP (i:=3) hB.2 (om (l:=[q0,q1,q2,q3]) ‹¬q3.kind=0›)⟩)
  |refine nx (4:Nat) (by exact⟨by decide,dP (i:=3) hB.2 (kQ (j:=3) ‹o4 3=false›)⟩)
  |(apply Fact.mk;intro hL;try simp only[maxLen]at hL)
  |((apply bX;constructor)<;>intro h<;>(try simp only[]at h)<;>(try first|omega|contradiction))|(show ay _ 223 _ _ _ _;refine cG [true,false,false] rfl (cf) ?_)|(show ay _ 208 _ _ _ _;refine cG [false,true,true] rfl (ct) ?_)|(show ay _ 208 _ _ _ _;refine cG [false,true,true] rfl (cu) ?_)|(show ay _ 224 _ _ _ _;refine cP rfl (c3 0) ?_)|(show ay _ 224 _ _ _ _;refine cP rfl (c3 1) ?_)|(show ay _ 224 _ _ _ _;refine cP rfl (c3 2) ?_)|(show ay _ 224 _ _ _ _;refine cP rfl (c4 0) ?_)|(show ay _ 224 _ _ _ _;refine cP rfl (c4 1) ?_)|(show ay _ 224 _ _ _ _;refine cP rfl (c4 2) ?_)|(show ay _ 224 _ _ _ _;refine cP rfl (c4 3) ?_)|(show ay _ 133 _ _ _ _;refine cG [] rfl (cw) ?_)|(show ay _ 225 _ _ _ _;refine ay.own _ _ rfl cl pl _ rfl ?_)|(show ay _ 168 _ _ _ _;refine ay.own _ _ rfl cs (mo (jw _)) _ rfl ?_)|(show ay _ 198 _ _ _ _;refine ay.own _ _ rfl cr (mo H8) _ rfl ?_)
  |refine aR ?_|(show Index _ _ _;first|(refine Index.mk _ (si) ?_)|fail)
  |refine nB ?_|(show bh _ _;refine bh.mk (by first|((simp only[List.length_cons,List.length_nil,maxLen];constructor<;>omega))|fail) ?_)
  |refine nO ?_)
 all_goals first|rfl|trivial
theorem NV
 (cf:aE prog 223 [.c (.op R7),(.c (.rp 3 [J R.kind,J R.num, .ro 3 (R.kids.map aD)])), .c (.rp 3 (aY node))] [some [.op (nZ p0 p1 p2 q0 q1 q2 q3)]] (B fb))
 (ct:aE prog 208 [(.c (.rp 6 [J L.kind,J L.num, .ro 3 (L.kids.map aD),J R.kind,J R.num, .ro 3 (R.kids.map aD)])), .c (.op [J 0]), .c (.op [J 0])] [none,some [.op [J m3]],some [.op [J m4]]] (.tup []))
 (c3:∀j:Nat,aS prog 224 [(.c (.rp 6 [J L.kind,J L.num, .ro 3 (L.kids.map aD),J R.kind,J R.num, .ro 3 (R.kids.map aD)])),I 3,I (j:Nat)] (B (o3 j)))
 (c4:∀j:Nat,aS prog 224 [(.c (.rp 6 [J L.kind,J L.num, .ro 3 (L.kids.map aD),J R.kind,J R.num, .ro 3 (R.kids.map aD)])),I 4,I (j:Nat)] (B (o4 j)))
 (cu:aE prog 208 [(.c (.rp 3 [J R.kind,J R.num, .ro 3 (R.kids.map aD)])), .c (.op [J m3]), .c (.op [J m4])] [none,some [.op [J n3]],some [.op [J n4]]] (.tup []))
 (cl:aE prog 225 [.c (.rp 21 (nZ p0 p1 p2 q0 q1 q2 q3)),I n3,I n4] [] (.tup [.c (.own 66 3 ts), .c (.own 66 3 us)]))
 (pl:ld (.tup [.c (.own 66 3 ts), .c (.own 66 3 us)]))
 (cs:aE prog 168 [.a 2 [J t,J a],(.c (.rp 6 [J L.kind,J L.num, .ro 3 (L.kids.map aD),J R.kind,J R.num, .ro 3 (R.kids.map aD)])), .c (.ro 3 (dD ts)), .c (.ro 3 (dD us))] [] (.tup [.a 3 (cC S),B sb]))
 (cr:aE prog 198 [.a 2 [J t,J a], .c (.rp 3 (aY e)), .c (.ro 1 (path.map eI)), .c (.rp 3 [J S.kind,J S.num, .ro 3 (dD (S.kids.map aM))])] [] (.tup [.a 3 [.any, .any, .any],I code]))
 (e1:fb=false->sS=out/\bc= .val (.bool bad))
 (e2:fb=true-> ∀j,j<3->kz [p0,p1,p2] o3 j=true->sS=out/\bc= .val (.bool bad))
 (e3:fb=true-> ∀j,j<4->kz [q0,q1,q2,q3] o4 j=true->sS=out/\bc= .val (.bool bad))
 (e4:fb=true->(∀j,j<3->kz [p0,p1,p2] o3 j=false)->(∀j,j<4->kz [q0,q1,q2,q3] o4 j=false)->sb=false->sS=out/\bc= .val (.bool bad))
 (e5:fb=true->(∀j,j<3->kz [p0,p1,p2] o3 j=false)->(∀j,j<4->kz [q0,q1,q2,q3] o4 j=false)->sb=true-> ¬code=0->sS=out/\bc= .val (.bool bad))
 (e6:fb=true->(∀j,j<3->kz [p0,p1,p2] o3 j=false)->(∀j,j<4->kz [q0,q1,q2,q3] o4 j=false)->sb=true->code=0->((out.length:Nat):Int)≥300->sS=out/\bc= .val (.bool true))
 (e7:fb=true->(∀j,j<3->kz [p0,p1,p2] o3 j=false)->(∀j,j<4->kz [q0,q1,q2,q3] o4 j=false)->sb=true->code=0-> ¬((out.length:Nat):Int)≥300->sS=out++[[J u, .val (.bool true), .ows 2 1 (path.map eI), .own 66 3 ts, .own 66 3 us]]/\bc= .val (.bool bad)):
 aE prog 219 [.c (.op (Oi t a ax e out (.val (.bool bad)))), .c (.ro 1 (path.map eI)), .c (.rp 3 (aY node)),I (u:Nat),B true] [some [.op (Oi t a ax e sS bc)]] (.tup []):=by
 refine cX func219 (h:=?_)
 repeat'((conv=>whnf);first
  |(show aI _ _;(have g0:=‹fb=false›);(obtain⟨rfl,rfl⟩:=e1 g0);exact aI.mk rfl ⟨rfl,trivial⟩)|(show aI _ _;(have g0:=‹fb=true›);(have g1:=‹p0.kind=0›);(have g2:=‹o3 0=true›);(obtain⟨rfl,rfl⟩:=e2 g0 0 (by decide) (oa (l:=[p0,p1,p2]) g1 g2));exact aI.mk rfl ⟨rfl,trivial⟩)|(show aI _ _;(have g0:=‹fb=true›);(have g1:=‹p1.kind=0›);(have g2:=‹o3 1=true›);(obtain⟨rfl,rfl⟩:=e2 g0 1 (by decide) (oa (l:=[p0,p1,p2]) g1 g2));exact aI.mk rfl ⟨rfl,trivial⟩)|(show aI _ _;(have g0:=‹fb=true›);(have g1:=‹p2.kind=0›);(have g2:=‹o3 2=true›);(obtain⟨rfl,rfl⟩:=e2 g0 2 (by decide) (oa (l:=[p0,p1,p2]) g1 g2));exact aI.mk rfl ⟨rfl,trivial⟩)|(show aI _ _;(have g0:=‹fb=true›);(have g1:=‹q0.kind=0›);(have g2:=‹o4 0=true›);(obtain⟨rfl,rfl⟩:=e3 g0 0 (by decide) (oa (l:=[q0,q1,q2,q3]) g1 g2));exact aI.mk rfl ⟨rfl,trivial⟩)|(show aI _ _;(have g0:=‹fb=true›);(have g1:=‹q1.kind=0›);(have g2:=‹o4 1=true›);(obtain⟨rfl,rfl⟩:=e3 g0 1 (by decide) (oa (l:=[q0,q1,q2,q3]) g1 g2));exact aI.mk rfl ⟨rfl,trivial⟩)|(show aI _ _;(have g0:=‹fb=true›);(have g1:=‹q2.kind=0›);(have g2:=‹o4 2=true›);(obtain⟨rfl,rfl⟩:=e3 g0 2 (by decide) (oa (l:=[q0,q1,q2,q3]) g1 g2));exact aI.mk rfl ⟨rfl,trivial⟩)|(show aI _ _;(have g0:=‹fb=true›);(have g1:=‹q3.kind=0›);(have g2:=‹o4 3=true›);(obtain⟨rfl,rfl⟩:=e3 g0 3 (by decide) (oa (l:=[q0,q1,q2,q3]) g1 g2));exact aI.mk rfl ⟨rfl,trivial⟩)|(show aI _ _;(have g0:=‹fb=true›);(have g1:=‹sb=false›);(have Jh:∀j,j<3->kz [p0,p1,p2] o3 j=false:=fun j hj=>hA.2 j (by omega));(have IT:∀j,j<4->kz [q0,q1,q2,q3] o4 j=false:=fun j hj=>hB.2 j (by omega));(obtain⟨rfl,rfl⟩:=e4 g0 Jh IT g1);exact aI.mk rfl ⟨rfl,trivial⟩)|(show aI _ _;(have g0:=‹fb=true›);(have g1:=‹sb=true›);(have g2:=‹¬code=0›);(have Jh:∀j,j<3->kz [p0,p1,p2] o3 j=false:=fun j hj=>hA.2 j (by omega));(have IT:∀j,j<4->kz [q0,q1,q2,q3] o4 j=false:=fun j hj=>hB.2 j (by omega));(obtain⟨rfl,rfl⟩:=e5 g0 Jh IT g1 g2);exact aI.mk rfl ⟨rfl,trivial⟩)|(show aI _ _;(have g0:=‹fb=true›);(have g1:=‹sb=true›);(have g2:=‹code=0›);(have g3:=‹((out.length:Nat):Int)≥300›);(have Jh:∀j,j<3->kz [p0,p1,p2] o3 j=false:=fun j hj=>hA.2 j (by omega));(have IT:∀j,j<4->kz [q0,q1,q2,q3] o4 j=false:=fun j hj=>hB.2 j (by omega));(obtain⟨rfl,rfl⟩:=e6 g0 Jh IT g1 g2 g3);exact aI.mk rfl ⟨rfl,trivial⟩)|(show aI _ _;(have g0:=‹fb=true›);(have g1:=‹sb=true›);(have g2:=‹code=0›);(have g3:=‹¬((out.length:Nat):Int)≥300›);(have Jh:∀j,j<3->kz [p0,p1,p2] o3 j=false:=fun j hj=>hA.2 j (by omega));(have IT:∀j,j<4->kz [q0,q1,q2,q3] o4 j=false:=fun j hj=>hB.2 j (by omega));(obtain⟨rfl,rfl⟩:=e7 g0 Jh IT g1 g2 g3);exact aI.mk rfl ⟨rfl,trivial⟩)|(show aZ 12 _ _ _ _ _ _;refine lp (Nat) [0,1,3,4,11,12,13,14,15] (fun i=>[(16,I (i:Nat))]) (fun i=>i≤3/\ ∀j,j<i->kz [p0,p1,p2] o3 j=false) (fun i=>3-i) 0 (by exact⟨by decide,fun j hj=>by omega⟩) (fun i ha=>?_);(have hA:=ha);(rcases i with _|_|_|i))|(show aZ 16 _ _ _ _ _ _;refine lp (Nat) [0,1,3,4,11,12,13,14,15] (fun i=>[(17,I (i:Nat))]) (fun i=>i≤4/\ ∀j,j<i->kz [q0,q1,q2,q3] o4 j=false) (fun i=>4-i) 0 (by exact⟨by decide,fun j hj=>by omega⟩) (fun i ha=>?_);(have hB:=ha);(rcases i with _|_|_|_|i))
  |refine nx (1:Nat) (by exact⟨by decide,dP (i:=0) hA.2 (om (l:=[p0,p1,p2]) ‹¬p0.kind=0›)⟩)
  |refine nx (1:Nat) (by exact⟨by decide,dP (i:=0) hA.2 (kQ (j:=0) ‹o3 0=false›)⟩)
  |refine nx (2:Nat) (by exact⟨by decide,dP (i:=1) hA.2 (om (l:=[p0,p1,p2]) ‹¬p1.kind=0›)⟩)
  |refine nx (2:Nat) (by exact⟨by decide,dP (i:=1) hA.2 (kQ (j:=1) ‹o3 1=false›)⟩)
  |refine nx (3:Nat) (by exact⟨by decide,dP (i:=2) hA.2 (om (l:=[p0,p1,p2]) ‹¬p2.kind=0›)⟩)
  |refine nx (3:Nat) (by exact⟨by decide,dP (i:=2) hA.2 (kQ (j:=2) ‹o3 2=false›)⟩)
  |refine nx (1:Nat) (by exact⟨by decide,dP (i:=0) hB.2 (om (l:=[q0,q1,q2,q3]) ‹¬q0.kind=0›)⟩)
  |refine nx (1:Nat) (by exact⟨by decide,dP (i:=0) hB.2 (kQ (j:=0) ‹o4 0=false›)⟩)
  |refine nx (2:Nat) (by exact⟨by decide,dP (i:=1) hB.2 (om (l:=[q0,q1,q2,q3]) ‹¬q1.kind=0›)⟩)
  |refine nx (2:Nat) (by exact⟨by decide,dP (i:=1) hB.2 (kQ (j:=1) ‹o4 1=false›)⟩)
  |refine nx (3:Nat) (by exact⟨by decide,dP (i:=2) hB.2 (om (l:=[q0,q1,q2,q3]) ‹¬q2.kind=0›)⟩)
  |refine nx (3:Nat) (by exact⟨by decide,dP (i:=2) hB.2 (kQ (j:=2) ‹o4 2=false›)⟩)
  |refine nx (4:Nat) (by exact⟨by decide,dP (i:=3) hB.2 (om (l:=[q0,q1,q2,q3]) ‹¬q3.kind=0›)⟩)
  |refine nx (4:Nat) (by exact⟨by decide,dP (i:=3) hB.2 (kQ (j:=3) ‹o4 3=false›)⟩)
  |(apply Fact.mk;intro hL;try simp only[maxLen]at hL)
  |((apply bX;constructor)<;>intro h<;>(try simp only[]at h)<;>(try first|omega|contradiction))|(show ay _ 223 _ _ _ _;refine cG [true,false,false] rfl (cf) ?_)|(show ay _ 208 _ _ _ _;refine cG [false,true,true] rfl (ct) ?_)|(show ay _ 208 _ _ _ _;refine cG [false,true,true] rfl (cu) ?_)|(show ay _ 224 _ _ _ _;refine cP rfl (c3 0) ?_)|(show ay _ 224 _ _ _ _;refine cP rfl (c3 1) ?_)|(show ay _ 224 _ _ _ _;refine cP rfl (c3 2) ?_)|(show ay _ 224 _ _ _ _;refine cP rfl (c4 0) ?_)|(show ay _ 224 _ _ _ _;refine cP rfl (c4 1) ?_)|(show ay _ 224 _ _ _ _;refine cP rfl (c4 2) ?_)|(show ay _ 224 _ _ _ _;refine cP rfl (c4 3) ?_)|(show ay _ 133 _ _ _ _;refine cG [] rfl (cw) ?_)|(show ay _ 225 _ _ _ _;refine ay.own _ _ rfl cl pl _ rfl ?_)|(show ay _ 168 _ _ _ _;refine ay.own _ _ rfl cs (mo (jw _)) _ rfl ?_)|(show ay _ 198 _ _ _ _;refine ay.own _ _ rfl cr (mo H8) _ rfl ?_)
  |refine aR ?_|(show Index _ _ _;first|(refine Index.mk _ (si) ?_)|fail)
  |refine nB ?_|(show bh _ _;refine bh.mk (by first|((simp only[List.length_cons,List.length_nil,maxLen];constructor<;>omega))|fail) ?_)
  |refine nO ?_)
 all_goals first|rfl|trivial
end
end Go.Proofs.YtgbggaddpbghfaaGreat
namespace Go.KA
open Go Go.RowKit
theorem lh.refl:∀ss:List SV,lh ss ss
 |[]=> .nil
 |_::ss=> .same (lh.refl ss)
end Go.KA
namespace Go.Proofs.YtgbggaddpbghfaaGreat
open Go Go.KA Go.Proofs Go.Proofs.Tryz
set_option maxHeartbeats 16000000
set_option maxRecDepth 100000
theorem Ph{N:Nat}{x:aA}(h:aH x≤N):aH (jP x)≤N:=by
 unfold jP;split
 ·simp[aH,bd]
 ·exact h
theorem v8{N:Nat}{l:List aA}(h:∀x∈l,aH x≤N)(n:Int):∀x∈fR l n,aH x≤N:=by
 intro x hx;unfold fR at hx;obtain⟨y,hy,rfl⟩:=List.mem_map.1 hx;exact Ph (h y (List.mem_of_mem_take hy))
theorem wU.aK{N:Nat}{F:Fit}(h:wU N F):∀x∈[F.t0,F.t1,F.t2],aH x≤N:=by
 intro x hx;simp only[List.mem_cons,List.not_mem_nil,or_false]at hx;rcases hx with rfl|rfl|rfl
 ·exact h.t0
 ·exact h.t1
 ·exact h.t2
theorem wU.dy{N:Nat}{F:Fit}(h:wU N F):∀x∈[F.a0,F.a1,F.a2,F.a3],aH x≤N:=by
 intro x hx;simp only[List.mem_cons,List.not_mem_nil,or_false]at hx;rcases hx with rfl|rfl|rfl|rfl
 ·exact h.a0
 ·exact h.a1
 ·exact h.a2
 ·exact h.a3
theorem Eo(p0 p1 p2 q0 q1 q2 q3 to:aA):Aq ⟨p0,p1,p2,q0,q1,q2,q3⟩ to=(kz [p0,p1,p2] (fun j=>kr 3 (j:Nat) to) 0||kz [p0,p1,p2] (fun j=>kr 3 (j:Nat) to) 1||kz [p0,p1,p2] (fun j=>kr 3 (j:Nat) to) 2||
 kz [q0,q1,q2,q3] (fun j=>kr 4 (j:Nat) to) 0||kz [q0,q1,q2,q3] (fun j=>kr 4 (j:Nat) to) 1||kz [q0,q1,q2,q3] (fun j=>kr 4 (j:Nat) to) 2||kz [q0,q1,q2,q3] (fun j=>kr 4 (j:Nat) to) 3):=rfl
section
variable{p0 p1 p2 q0 q1 q2 q3 to:aA}
theorem Rk{j:Nat}(hj:j<3)(h:kz [p0,p1,p2] (fun j=>kr 3 (j:Nat) to) j=true):Aq ⟨p0,p1,p2,q0,q1,q2,q3⟩ to=true:=by
 rw[Eo];obtain rfl|rfl|rfl:j=0\/j=1\/j=2:=by omega
 all_goals simp only[h,Bool.or_true,Bool.true_or]
theorem O7{j:Nat}(hj:j<4)(h:kz [q0,q1,q2,q3] (fun j=>kr 4 (j:Nat) to) j=true):Aq ⟨p0,p1,p2,q0,q1,q2,q3⟩ to=true:=by
 rw[Eo];obtain rfl|rfl|rfl|rfl:j=0\/j=1\/j=2\/j=3:=by omega
 all_goals simp only[h,Bool.or_true,Bool.true_or]
theorem oH(h1:∀j,j<3->kz [p0,p1,p2] (fun j=>kr 3 (j:Nat) to) j=false)(h2:∀j,j<4->kz [q0,q1,q2,q3] (fun j=>kr 4 (j:Nat) to) j=false):¬Aq ⟨p0,p1,p2,q0,q1,q2,q3⟩ to=true:=by
 rw[Eo,h1 0 (by decide),h1 1 (by decide),h1 2 (by decide),h2 0 (by decide),h2 1 (by decide),h2 2 (by decide),h2 3 (by decide)]
 decide
end
end Go.Proofs.YtgbggaddpbghfaaGreat
namespace Go.KA
open Go Go.RowKit
end Go.KA
namespace Go.Proofs.YtgbggaddpbghfaaGreat
open Go Go.KA Go.Proofs Go.Proofs.Tryz
set_option maxHeartbeats 16000000
set_option maxRecDepth 100000
theorem zH{w:World}{ok:Nat->Prop}{x:aA}{vs:List Value}{g:List Nat}(h:Den w ok (aY x) vs g):g=[]/\Den w ok [.any, .any, .any] vs []:=by
 cases h with|val h1 h=>cases h with|val h2 h=>cases h with|ro _ _ _ _ _ _ h=>cases h;exact⟨rfl, .any h1 (.any h2 (.any rfl .nil))⟩
theorem _root_.Go.KA.aE.XZ{P:Program}{f:Nat}{args:List SV}{outs:List (Option (List CV))}{Z:aA}{ss:List SV}(h:aE P f args outs (.tup (.a 3 (aY Z)::ss))):aE P f args outs (.tup (.a 3 [.any, .any, .any]::ss)):=by
 refine⟨h.1,fun w ok vs fs h1 h2 h3 h4=>(h.2 w ok vs fs h1 h2 h3 h4).mono ?_⟩;rintro e w' ⟨v,fr,fo,h5,h6,h7,h8,h9,Cz⟩;refine⟨v,fr,fo,h5,h6,h7,h8,?_,Cz⟩;cases h9 with
 |v h=>
  cases h with
  |v h=>
   cases h fun _=>none with
   |c h=>cases h
 |tup h=>
  cases h with
  |cons ha ht=>
   refine .tup (.cons ?_ ht);cases ha with
   |v h=>
    refine .v fun ρ=>?_
    cases h ρ with
    |c h=>cases h
    |a a1 a2=>first|exact .a rfl (zH a2).2|exact .a rfl (zH a1).2
   |a hl h=>
    obtain⟨rfl,h2⟩:=zH h;exact .a rfl h2
theorem pl2(l m:List aA):ld (.tup [.c (.own 66 3 (l.map aM)), .c (.own 66 3 (m.map aM))]):=by
 intro s hs;simp only[List.mem_cons,List.not_mem_nil,or_false]at hs;rcases hs with rfl|rfl
 ·exact vh l
 ·exact vh m
abbrev vy(t a:Int)(ax:List b7)(e:aA)(s:qI):List CV:=Oi t a ax e (s.out.map bx) (.val (.bool s.bad))
section
variable{t a:Int}(hs:cE t a=true)(ax:List b7){e node L R:aA}(path:List Int){u:Nat}(s:qI)
 (hu:(ax.map bm)[((u:Nat):Int).toNat]? =some [J L.kind,J L.num, .ro 3 (L.kids.map aD),J R.kind,J R.num, .ro 3 (R.kids.map aD)])
 (hL:Tree 3 4 L)(hR:Tree 3 4 R)(bL:aH L≤200)(bR:aH R≤200)(be:aH e≤200)(bn:aH node≤200)(bp:path.length≤1000000)(bs:s.out.length≤300)
include hs hu hL hR bL bR be bn bp bs
theorem Kz:aE prog 219 [.c (.op (vy t a ax e s)), .c (.ro 1 (path.map eI)), .c (.rp 3 (aY node)),I (u:Nat),B false] [some [.op (vy t a ax e (vl s (yI t a e u false L R path node)))]] (.tup []):=by
 have _:=bL;have l1:=m8 (by decide) (by decide) hL;have l2:=m8 (by decide) (by decide) hR;have ZA:=aE.OS (cs:=R7) (Dg L hL node rY (by omega));have hB:=A4 L node rY (Fs 200) bn;obtain⟨F,hF⟩:∃F,gM L node rY=F:=⟨_,rfl⟩
 rw[hF]at ZA hB;obtain⟨fb,p0,p1,p2,q0,q1,q2,q3⟩:=F;have t1:=gN hR 0;have m30:=t1.2.2.1;have m40:=t1.2.2.2;have m31:=t1.1 (by decide);have m41:=t1.2.1 (by decide);have Yv:=lI R l2 0 0 (by decide) (by decide) (by decide) (by decide);have SX:=lI L l1 (dM 3 R 0) (dM 4 R 0) m30 (by omega) m40 (by omega);rw[gn]at Yv SX;have n31:=(gN hL (dM 3 R 0)).1 m31;have n41:=(gN hL (dM 4 R 0)).2.1 m41;have n30:=(gN hL (dM 3 R 0)).2.2.1;have n40:=(gN hL (dM 4 R 0)).2.2.2;obtain⟨n3,YM⟩:∃n,dM 3 L (dM 3 R 0)=n:=⟨_,rfl⟩
 obtain⟨n4,Yq⟩:∃n,dM 4 L (dM 4 R 0)=n:=⟨_,rfl⟩
 rw[YM]at SX n31 n30;rw[Yq]at SX n41 n40;obtain⟨k3,rfl⟩:∃k:Nat,n3=(k:Int):=⟨n3.toNat,by omega⟩
 obtain⟨k4,rfl⟩:∃k:Nat,n4=(k:Int):=⟨n4.toNat,by omega⟩
 have cl0:=CE p0 p1 p2 q0 q1 q2 q3 (by have:=hB.t0;simp only[]at this;omega) (by have:=hB.t1;simp only[]at this;omega) (by have:=hB.t2;simp only[]at this;omega) (by have:=hB.a0;simp only[]at this;omega) (by have:=hB.a1;simp only[]at this;omega) (by have:=hB.a2;simp only[]at this;omega) (by have:=hB.a3;simp only[]at this;omega) k3 k4 (by omega) (by omega);have b1:∀x∈fR [p0,p1,p2] (k3:Int),aH x≤200:=v8 hB.aK _
 have b2:∀x∈fR [q0,q1,q2,q3] (k4:Int),aH x≤200:=v8 hB.dy _
 have uq:=nG b1 b2 t a hs R l2 (by simp only[jj];omega);rw[<-cM fJ (fR [p0,p1,p2] (k3:Int)),<-cM fJ (fR [q0,q1,q2,q3] (k4:Int))]at uq;have hS:aH (jm t a R (fR [p0,p1,p2] (k3:Int)) (fR [q0,q1,q2,q3] (k4:Int))).1≤500000:=by
  have:=(nP b1 b2 R 200).1;simp only[jj]at this;unfold jm;simp only[];omega
 obtain⟨X,hX⟩:∃X,jm t a R (fR [p0,p1,p2] (k3:Int)) (fR [q0,q1,q2,q3] (k4:Int))=X:=⟨_,rfl⟩
 rw[hX]at uq hS;obtain⟨S,sb⟩:=X;have Yg:=(tr t a hs e S path (by omega) hS).XZ;have e8:aY S=[J S.kind,J S.num, .ro 3 (dD (S.kids.map aM))]:=by rw[cM fJ]
 rw[e8]at Yg;have hT:yI t a e u false L R path node=if fb=false then none else if Aq ⟨p0,p1,p2,q0,q1,q2,q3⟩ R=true then none else if sb=false then none else if(o6 t a e path S).2=0 then some ⟨u,false,path,fR [p0,p1,p2] (k3:Int),fR [q0,q1,q2,q3] (k4:Int)⟩else none:=by
  unfold yI;rw[hF,YM,Yq];simp only[Fit.aK,Fit.dy,hX]
 rw[hT];have nf:∀{b:Bool},b=true-> ¬b=false:=fun h=>by rw[h];decide
 have cl:aE prog 225 [.c (.rp 21 (nZ p0 p1 p2 q0 q1 q2 q3)),I (k3:Nat),I (k4:Nat)] [] (.tup [.c (.own 66 3 ((fR [p0,p1,p2] (k3:Int)).map aM)), .c (.own 66 3 ((fR [q0,q1,q2,q3] (k4:Int)).map aM))]):=cl0;have cw:aE prog 133 [.c (.ro 1 (path.map eI))] [] (.c (.ows 2 1 (path.map eI))):=km path (by omega);refine Kv (t:=t) (a:=a) (ax:=ax) (e:=e) (node:=node) (L:=L) (R:=R) (o3:=fun j=>kr 3 (j:Nat) R) (o4:=fun j=>kr 4 (j:Nat) R) hu cw (by rw[aa];exact bs) ((ZA).cut (.same (lh.cut (sz:=6) (k:=3) (cs:=[J L.kind,J L.num, .ro 3 (L.kids.map aD),J R.kind,J R.num, .ro 3 (R.kids.map aD)]) (by decide) (lh.refl _)))) (Yv) (fun j=>lb 3 (j:Nat) R) (fun j=>lb 4 (j:Nat) R) ((SX).cut (lh.cut (sz:=6) (k:=3) (cs:=[J L.kind,J L.num, .ro 3 (L.kids.map aD),J R.kind,J R.num, .ro 3 (R.kids.map aD)]) (by decide) (lh.refl _))) cl (pl2 _ _) (uq) Yg ?_ ?_ ?_ ?_ ?_ ?_ ?_
 ·intro h;rw[if_pos h];exact⟨rfl,rfl⟩
 ·intro h j hj hk;rw[if_neg (nf h),if_pos (Rk hj hk)];exact⟨rfl,rfl⟩
 ·intro h j hj hk;rw[if_neg (nf h),if_pos (O7 hj hk)];exact⟨rfl,rfl⟩
 ·intro h k1 k2 hb;rw[if_neg (nf h),if_neg (oH k1 k2),if_pos hb];exact⟨rfl,rfl⟩
 ·intro h k1 k2 hb hc;rw[if_neg (nf h),if_neg (oH k1 k2),if_neg (nf hb),if_neg hc];exact⟨rfl,rfl⟩
 ·intro h k1 k2 hb hc hn;rw[aa]at hn;rw[if_neg (nf h),if_neg (oH k1 k2),if_neg (nf hb),if_pos hc,vl,if_pos (by omega)];exact⟨rfl,rfl⟩
 ·intro h k1 k2 hb hc hn;rw[aa]at hn;rw[if_neg (nf h),if_neg (oH k1 k2),if_neg (nf hb),if_pos hc,vl,if_neg (by omega)];exact⟨by rw[au];rfl,rfl⟩
theorem Nm:aE prog 219 [.c (.op (vy t a ax e s)), .c (.ro 1 (path.map eI)), .c (.rp 3 (aY node)),I (u:Nat),B true] [some [.op (vy t a ax e (vl s (yI t a e u true R L path node)))]] (.tup []):=by
 have _:=bR;have l1:=m8 (by decide) (by decide) hR;have l2:=m8 (by decide) (by decide) hL;have ZA:=aE.OS (cs:=R7) (Dg R hR node rY (by omega));have hB:=A4 R node rY (Fs 200) bn;obtain⟨F,hF⟩:∃F,gM R node rY=F:=⟨_,rfl⟩
 rw[hF]at ZA hB;obtain⟨fb,p0,p1,p2,q0,q1,q2,q3⟩:=F;have t1:=gN hL 0;have m30:=t1.2.2.1;have m40:=t1.2.2.2;have m31:=t1.1 (by decide);have m41:=t1.2.1 (by decide);have Yv:=lI L l2 0 0 (by decide) (by decide) (by decide) (by decide);have SX:=lI R l1 (dM 3 L 0) (dM 4 L 0) m30 (by omega) m40 (by omega);rw[gn]at Yv SX;have n31:=(gN hR (dM 3 L 0)).1 m31;have n41:=(gN hR (dM 4 L 0)).2.1 m41;have n30:=(gN hR (dM 3 L 0)).2.2.1;have n40:=(gN hR (dM 4 L 0)).2.2.2;obtain⟨n3,YM⟩:∃n,dM 3 R (dM 3 L 0)=n:=⟨_,rfl⟩
 obtain⟨n4,Yq⟩:∃n,dM 4 R (dM 4 L 0)=n:=⟨_,rfl⟩
 rw[YM]at SX n31 n30;rw[Yq]at SX n41 n40;obtain⟨k3,rfl⟩:∃k:Nat,n3=(k:Int):=⟨n3.toNat,by omega⟩
 obtain⟨k4,rfl⟩:∃k:Nat,n4=(k:Int):=⟨n4.toNat,by omega⟩
 have cl0:=CE p0 p1 p2 q0 q1 q2 q3 (by have:=hB.t0;simp only[]at this;omega) (by have:=hB.t1;simp only[]at this;omega) (by have:=hB.t2;simp only[]at this;omega) (by have:=hB.a0;simp only[]at this;omega) (by have:=hB.a1;simp only[]at this;omega) (by have:=hB.a2;simp only[]at this;omega) (by have:=hB.a3;simp only[]at this;omega) k3 k4 (by omega) (by omega);have b1:∀x∈fR [p0,p1,p2] (k3:Int),aH x≤200:=v8 hB.aK _
 have b2:∀x∈fR [q0,q1,q2,q3] (k4:Int),aH x≤200:=v8 hB.dy _
 have uq:=nG b1 b2 t a hs L l2 (by simp only[jj];omega);rw[<-cM fJ (fR [p0,p1,p2] (k3:Int)),<-cM fJ (fR [q0,q1,q2,q3] (k4:Int))]at uq;have hS:aH (jm t a L (fR [p0,p1,p2] (k3:Int)) (fR [q0,q1,q2,q3] (k4:Int))).1≤500000:=by
  have:=(nP b1 b2 L 200).1;simp only[jj]at this;unfold jm;simp only[];omega
 obtain⟨X,hX⟩:∃X,jm t a L (fR [p0,p1,p2] (k3:Int)) (fR [q0,q1,q2,q3] (k4:Int))=X:=⟨_,rfl⟩
 rw[hX]at uq hS;obtain⟨S,sb⟩:=X;have Yg:=(tr t a hs e S path (by omega) hS).XZ;have e8:aY S=[J S.kind,J S.num, .ro 3 (dD (S.kids.map aM))]:=by rw[cM fJ]
 rw[e8]at Yg;have hT:yI t a e u true R L path node=if fb=false then none else if Aq ⟨p0,p1,p2,q0,q1,q2,q3⟩ L=true then none else if sb=false then none else if(o6 t a e path S).2=0 then some ⟨u,true,path,fR [p0,p1,p2] (k3:Int),fR [q0,q1,q2,q3] (k4:Int)⟩else none:=by
  unfold yI;rw[hF,YM,Yq];simp only[Fit.aK,Fit.dy,hX]
 rw[hT];have nf:∀{b:Bool},b=true-> ¬b=false:=fun h=>by rw[h];decide
 have cl:aE prog 225 [.c (.rp 21 (nZ p0 p1 p2 q0 q1 q2 q3)),I (k3:Nat),I (k4:Nat)] [] (.tup [.c (.own 66 3 ((fR [p0,p1,p2] (k3:Int)).map aM)), .c (.own 66 3 ((fR [q0,q1,q2,q3] (k4:Int)).map aM))]):=cl0;have cw:aE prog 133 [.c (.ro 1 (path.map eI))] [] (.c (.ows 2 1 (path.map eI))):=km path (by omega);refine NV (t:=t) (a:=a) (ax:=ax) (e:=e) (node:=node) (L:=L) (R:=R) (o3:=fun j=>kr 3 (j:Nat) L) (o4:=fun j=>kr 4 (j:Nat) L) hu cw (by rw[aa];exact bs) (ZA) ((Yv).cut (lh.cut (sz:=6) (k:=3) (cs:=[J L.kind,J L.num, .ro 3 (L.kids.map aD),J R.kind,J R.num, .ro 3 (R.kids.map aD)]) (by decide) (lh.refl _))) (fun j=>(lb 3 (j:Nat) L).cut (lh.cut (sz:=6) (k:=3) (cs:=[J L.kind,J L.num, .ro 3 (L.kids.map aD),J R.kind,J R.num, .ro 3 (R.kids.map aD)]) (by decide) (lh.refl _))) (fun j=>(lb 4 (j:Nat) L).cut (lh.cut (sz:=6) (k:=3) (cs:=[J L.kind,J L.num, .ro 3 (L.kids.map aD),J R.kind,J R.num, .ro 3 (R.kids.map aD)]) (by decide) (lh.refl _))) (SX) cl (pl2 _ _) ((uq).cut (.same (lh.cut (sz:=6) (k:=3) (cs:=[J L.kind,J L.num, .ro 3 (L.kids.map aD),J R.kind,J R.num, .ro 3 (R.kids.map aD)]) (by decide) (lh.refl _)))) Yg ?_ ?_ ?_ ?_ ?_ ?_ ?_
 ·intro h;rw[if_pos h];exact⟨rfl,rfl⟩
 ·intro h j hj hk;rw[if_neg (nf h),if_pos (Rk hj hk)];exact⟨rfl,rfl⟩
 ·intro h j hj hk;rw[if_neg (nf h),if_pos (O7 hj hk)];exact⟨rfl,rfl⟩
 ·intro h k1 k2 hb;rw[if_neg (nf h),if_neg (oH k1 k2),if_pos hb];exact⟨rfl,rfl⟩
 ·intro h k1 k2 hb hc;rw[if_neg (nf h),if_neg (oH k1 k2),if_neg (nf hb),if_neg hc];exact⟨rfl,rfl⟩
 ·intro h k1 k2 hb hc hn;rw[aa]at hn;rw[if_neg (nf h),if_neg (oH k1 k2),if_neg (nf hb),if_pos hc,vl,if_pos (by omega)];exact⟨rfl,rfl⟩
 ·intro h k1 k2 hb hc hn;rw[aa]at hn;rw[if_neg (nf h),if_neg (oH k1 k2),if_neg (nf hb),if_pos hc,vl,if_neg (by omega)];exact⟨by rw[au];rfl,rfl⟩
end
abbrev W4:b7:=⟨dm,dm⟩
theorem rB{s:qI}(h:s.out.length≤300)(o:Option aP):(vl s o).out.length≤300:=by
 cases o with
 |none=>exact h
 |some x=>
  unfold vl;simp only[];split
  ·exact h
  ·simp only[ai,List.length_cons,List.length_nil];omega
section
variable(t a:Int)(ax:List b7)(e:aA)
theorem Hr(path:List Int)(node:aA):∀(m use:Nat) (s:qI),s.out.length≤300->(tH t a ax e path node m use s).out.length≤300
 |0,_,s,h=>h
 |m+1,use,s,h=>by
  rw[tH];split
  ·exact h
  ·exact Hr path node m (use+1) _ (rB (rB h _) _)
mutual
theorem tU:∀(node:aA) (path:List Int) (s:qI),s.out.length≤300->(lx t a ax e node path s).out.length≤300
 | .mk k n ks,path,s,h=>by
   rw[lx];exact AZ ks path 0 _ (Hr t a ax e path _ _ _ _ h)
theorem AZ:∀(l:List aA) (path:List Int) (i:Nat) (s:qI),s.out.length≤300->(fG t a ax e l path i s).out.length≤300
 |[],_,_,s,h=>by rw[fG];exact h
 |x::xs,path,i,s,h=>by
  rw[fG];split
  ·exact h
  ·exact AZ xs path (i+1) _ (tU x _ s h)
end
theorem Sx{path:List Int}{node:aA}{i:Nat}{s:qI}(h:¬i<ax.length):tH t a ax e path node (ax.length-i) i s=s:=by
 rw[show ax.length-i=0 by omega];rfl
theorem Tl{path:List Int}{node:aA}{i:Nat}{s:qI}(h:s.bad=true):tH t a ax e path node (ax.length-i) i s=s:=by
 cases ax.length-i with
 |zero=>rfl
 |succ m=>rw[tH,if_pos h]
theorem VF{path:List Int}{node:aA}{i:Nat}{s:qI}(h:i<ax.length)(hb:s.bad=false):tH t a ax e path node (ax.length-i) i s=tH t a ax e path node (ax.length-(i+1)) (i+1) (Om t a ax e path node i s):=by
 rw[show ax.length-i=ax.length-(i+1)+1 by omega,tH,if_neg (by rw[hb];decide)]
theorem Sk{l:List aA}{path:List Int}{i:Nat}{s:qI}(h:¬i<l.length):fG t a ax e (l.drop i) path i s=s:=by
 rw[List.drop_of_length_le (by omega),fG]
theorem RH{l:List aA}{path:List Int}{i:Nat}{s:qI}(h:s.bad=true):fG t a ax e l path i s=s:=by
 cases l with
 |nil=>rw[fG]
 |cons x l=>rw[fG,if_pos h]
theorem U1{l:List aA}{path:List Int}{i:Nat}{s:qI}(h:i<l.length)(hb:s.bad=false):fG t a ax e (l.drop i) path i s=fG t a ax e (l.drop (i+1)) path (i+1) (lx t a ax e (l.getD i dm) (path++[(i:Int)]) s):=by
 rw[List.drop_eq_getElem_cons h,fG,if_neg (by rw[hb];decide),getD_eq h]
end
structure Cd(q:b7):Prop where
 l:Tree 3 4 q.left
 r:Tree 3 4 q.right
 bl:aH q.left≤200
 br:aH q.right≤200
theorem SM:(jO.all fun q=>eo 3 4 q.left&&eo 3 4 q.right&&Nat.ble (aH q.left) 200&&Nat.ble (aH q.right) 200)=true:=by kernel_rfl
theorem GG:∀q∈jO,Cd q:=fun q hq=>by
 have h:=aj.1 SM q hq;simp only[ab]at h;exact⟨iR _ h.1.1.1,iR _ h.1.1.2,Nat.le_of_ble_eq_true h.1.2,Nat.le_of_ble_eq_true h.2⟩
section
variable{t a:Int}{ax:List b7}{e:aA}{k n:Int}{ks:List aA}{path:List Int}{s:qI}
 (zp:ax.length≤1000)(dV:path.length≤1000000)(TL:s.out.length≤300)
 (hf:∀u,u<ax.length-> ∀z:qI,z.out.length≤300->aE prog 219 [.c (.op (vy t a ax e z)), .c (.ro 1 (path.map eI)), .c (.rp 3 (aY (.mk k n ks))),I (u:Nat),B false] [some [.op (vy t a ax e (vl z (yI t a e u false (ax.getD u W4).left (ax.getD u W4).right path (.mk k n ks))))]] (.tup []))
 (ht:∀u,u<ax.length-> ∀z:qI,z.out.length≤300->aE prog 219 [.c (.op (vy t a ax e z)), .c (.ro 1 (path.map eI)), .c (.rp 3 (aY (.mk k n ks))),I (u:Nat),B true] [some [.op (vy t a ax e (vl z (yI t a e u true (ax.getD u W4).right (ax.getD u W4).left path (.mk k n ks))))]] (.tup []))
 (ih:∀i,i<ks.length-> ∀z:qI,z.out.length≤300->aE prog 211 [.c (.op (vy t a ax e z)), .c (.ows 2 1 (path.map eI++[[J (i:Nat)]])), .c (.rp 3 (aY (ks.getD i dm)))] [some [.op (vy t a ax e (lx t a ax e (ks.getD i dm) (path++[(i:Int)]) z))]] (.tup []))
include zp dV TL hf ht ih
theorem G5:aE prog 211 [.c (.op (vy t a ax e s)), .c (.ro 1 (path.map eI)), .c (.rp 3 (aY (.mk k n ks)))] [some [.op (vy t a ax e (lx t a ax e (.mk k n ks) path s))]] (.tup []):=by
 rw[lx];obtain⟨S1,Im⟩:∃S,tH t a ax e path (.mk k n ks) ax.length 0 s=S:=⟨_,rfl⟩
 rw[Im];obtain⟨S2,NZ⟩:∃S,fG t a ax e ks path 0 S1=S:=⟨_,rfl⟩
 rw[NZ];have e0:aY (.mk k n ks)=[J k,J n, .ro 3 (ks.map aD)]:=rfl;rw[e0]at hf ht⊢;have cw:aE prog 133 [.c (.ro 1 (path.map eI))] [] (.c (.ows 2 1 (path.map eI))):=km path (by omega);refine cX func211 (h:=?_)
 repeat'((conv=>whnf);first
  |(show aI _ _;(have g:=‹y.bad=true›);(obtain rfl:S2=y:=hY.2.1.symm.trans (RH t a ax e g));exact aI.mk rfl ⟨rfl,trivial⟩)|(show aI _ _;(have g:=‹¬((j:Nat):Int)<(ks.length:Nat)›);(obtain rfl:S2=y:=hY.2.1.symm.trans (Sk t a ax e (by omega)));exact aI.mk rfl ⟨rfl,trivial⟩)|(show aZ 1 _ _ _ _ _ _;refine n7 (qI × Nat) [0,1,2] (fun⟨z,i⟩=>[(6,I (i:Nat))]) (fun⟨z,i⟩=>[(0, .aU none 156 5 (z.out.map bx)),(1, .cells [.c (J t), .c (J a), .c (.ro 6 (ax.map bm)), .c (.rp 3 (aY e)), .lw 0, .c (.val (.bool z.bad))])]) (fun⟨z,i⟩=>i≤ax.length/\tH t a ax e path (.mk k n ks) (ax.length-i) i z=S1/\z.out.length≤300) (fun⟨z,i⟩=>ax.length-i) (s,0) (by exact⟨ah _,Im,TL⟩) (fun A ha=>?_);obtain⟨z,i⟩:=A;have ha:i≤ax.length/\tH t a ax e path (.mk k n ks) (ax.length-i) i z=S1/\z.out.length≤300:=ha;(have hZ:=ha))|(show aZ 6 _ _ _ _ _ _;refine n7 (qI × Nat) [0,1,2] (fun⟨y,j⟩=>[(7,I (j:Nat))]) (fun⟨y,j⟩=>[(0, .aU none 156 5 (y.out.map bx)),(1, .cells [.c (J t), .c (J a), .c (.ro 6 (ax.map bm)), .c (.rp 3 (aY e)), .lw 0, .c (.val (.bool y.bad))])]) (fun⟨y,j⟩=>j≤ks.length/\fG t a ax e (ks.drop j) path j y=S2/\y.out.length≤300) (fun⟨y,j⟩=>ks.length-j) (z,0) (by exact⟨ah _,(congrArg (fG t a ax e ks path 0) ((Tl t a ax e ‹z.bad=true›).symm.trans hZ.2.1)).trans NZ,hZ.2.2⟩) (fun A ha=>?_);obtain⟨y,j⟩:=A;have ha:j≤ks.length/\fG t a ax e (ks.drop j) path j y=S2/\y.out.length≤300:=ha;(have hY:=ha))|(show aZ 6 _ _ _ _ _ _;refine n7 (qI × Nat) [0,1,2] (fun⟨y,j⟩=>[(7,I (j:Nat))]) (fun⟨y,j⟩=>[(0, .aU none 156 5 (y.out.map bx)),(1, .cells [.c (J t), .c (J a), .c (.ro 6 (ax.map bm)), .c (.rp 3 (aY e)), .lw 0, .c (.val (.bool y.bad))])]) (fun⟨y,j⟩=>j≤ks.length/\fG t a ax e (ks.drop j) path j y=S2/\y.out.length≤300) (fun⟨y,j⟩=>ks.length-j) (z,0) (by exact⟨ah _,(congrArg (fG t a ax e ks path 0) ((Sx t a ax e (by omega)).symm.trans hZ.2.1)).trans NZ,hZ.2.2⟩) (fun A ha=>?_);obtain⟨y,j⟩:=A;have ha:j≤ks.length/\fG t a ax e (ks.drop j) path j y=S2/\y.out.length≤300:=ha;(have hY:=ha))
  |refine tD ((Om t a ax e path (.mk k n ks) i z,i+1):qI × Nat) (by exact⟨by show i+1≤_;omega,(VF t a ax e (by omega) ‹z.bad=false›).symm.trans hZ.2.1,rB (rB hZ.2.2 _) _⟩)
  |refine tD ((lx t a ax e (ks.getD j dm) (path++[(j:Int)]) y,j+1):qI × Nat) (by exact⟨by show j+1≤_;omega,(U1 t a ax e (by omega) ‹y.bad=false›).symm.trans hY.2.1,tU t a ax e _ _ _ hY.2.2⟩)
  |(apply Fact.mk;intro hL;try simp only[aa,maxLen]at hL)
  |((apply bX;constructor)<;>intro h<;>(try simp only[aa]at h)<;>(try first|omega|contradiction))|(show ay _ 219 _ _ _ _;refine cG [true,false,false,false,false] rfl (hf i (by omega) z hZ.2.2) ?_)|(show ay _ 219 _ _ _ _;refine cG [true,false,false,false,false] rfl (ht i (by omega) _ (rB hZ.2.2 _)) ?_)|(show ay _ 211 _ _ _ _;refine cG [true,true,false] rfl (ih j (by omega) y hY.2.2) ?_)|(show ay _ 133 _ _ _ _;refine cG [] rfl (cw) ?_)
  |refine aR ?_|(show Index _ _ _;first|(refine Index.mk _ (mn (l:=ks) (i:=j) (by omega)) ?_)|fail)
  |refine nB ?_|(show bh _ _;refine bh.mk (by first|((simp only[aa,List.length_cons,List.length_nil,maxLen];constructor<;>omega))|fail) ?_)
  |refine nO ?_)
 all_goals first|rfl|trivial
end
theorem Ch{t a:Int}(hs:cE t a=true){ax:List b7}{e:aA}(hq:∀q∈ax,Cd q)(zp:ax.length≤1000)(be:aH e≤200)(node:aA)(bn:aH node≤200)(path:List Int)(bp:path.length+jj node≤1000000)(s:qI)(bs:s.out.length≤300):
 aE prog 211 [.c (.op (vy t a ax e s)), .c (.ro 1 (path.map eI)), .c (.rp 3 (aY node))] [some [.op (vy t a ax e (lx t a ax e node path s))]] (.tup []):=by
 have hg:∀u,u<ax.length->Cd (ax.getD u W4):=fun u hu=>hq _ (by rw[getD_eq hu];exact ag hu)
 have hx:∀u,u<ax.length->(ax.map bm)[((u:Nat):Int).toNat]? =some (bm (ax.getD u W4)):=fun u hu=>aN (i:=u) hu
 obtain⟨k,n,ks,TS⟩:∃k n ks,node= .mk k n ks:=by cases node;exact⟨_,_,_,rfl⟩
 rw[TS]at bn bp⊢;refine G5 zp (by omega) bs (fun u hu z hz=>Kz hs ax path z (hx u hu) (hg u hu).l (hg u hu).r (hg u hu).bl (hg u hu).br be bn (by omega) hz) (fun u hu z hz=>Nm hs ax path z (hx u hu) (hg u hu).l (hg u hu).r (hg u hu).bl (hg u hu).br be bn (by omega) hz) fun i hi z hz=>?_
 have hm:ks.getD i dm∈ks:=by rw[getD_eq hi];exact ag hi
 have hk:=yS (e:= .mk k n ks) hm;have h:=Ch hs hq zp be (ks.getD i dm) (by simp only[jj]at hk;omega) (path++[(i:Int)]) (by simp only[ai,List.length_cons,List.length_nil];omega) z hz;rw[au]at h;exact h.Tq (.same (.c (.same .nil)))
termination_by SizeOf.sizeOf node
decreasing_by
 have:=List.sizeOf_lt_of_mem hm;rw[TS];simp only[aA.mk.sizeOf_spec];omega
theorem QR{t a:Int}(hs:cE t a=true)(e:aA)(be:aH e≤200):aE prog 192 [.a 2 [J t,J a], .c (.rp 3 (aY e))] [] (.tup [.c (.own 156 5 ((mZ t a jO e).out.map bx)),B (!(mZ t a jO e).bad)]):=by
 have c1:aE prog 210 [] [] (.c (.ro 6 (jO.map bm))):=Mn.soft (.v (.c (.ro .nil)));have c2:=Ch hs (e:=e) GG (by rw[yJ];decide) be e be [] (by simp only[jj,List.length_nil];omega) ⟨[],false⟩ (by simp);have c3:=c2.Tq (.same (.c (x:= .ows 2 1 []) (.same .nil)));unfold mZ;generalize lx t a jO e e [] ⟨[],false⟩=F at c3⊢;generalize jO=Q at c1 c3;refine cX func192 (fun ew=>match ew with|2=>true|_=>false) (h:=?_)
 repeat'((conv=>whnf);first
  |refine aI.mk ?_ ?_|(show ay _ 210 _ _ _ _;refine cG [] rfl (c1) ?_)|(show ay _ 211 _ _ _ _;refine cG [true,true,false] rfl (c3) ?_)|(show Gh _ _ _ _ _;refine Gh.soft 3 iP.up (Gh.go ?_))
  |refine nB ?_
  |apply jY.go)
 all_goals first|rfl|trivial
end Go.Proofs.YtgbggaddpbghfaaGreat
