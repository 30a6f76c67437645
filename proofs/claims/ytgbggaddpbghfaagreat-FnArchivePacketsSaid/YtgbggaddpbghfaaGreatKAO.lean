/- The walk through the reference's trying one side of an equation at a node: what is found owns its memory. Over contracts of what it calls. -/
import Derived.Test.YtgbggaddpbghfaaGreatKAN
namespace Go.Proofs.YtgbggaddpbghfaaGreat
open Go Go.KA Go.Proofs
set_option maxHeartbeats 16000000
set_option maxRecDepth 100000
abbrev J5(t a:Int)(ax:List bT)(e:ae)(out:List (List CV))(bc:CV):List CV:=[J t,J a, .ro 6 (ax.map aU), .rp 3 (aI e), .own 156 5 out,bc]
theorem kq{n:Nat}{cs:List CV}{c:CV}(h:jJ (.a n cs))(hc:im c:=by trivial):jJ (.tup [.a n cs, .c c]):=by
 intro s hs
 simp only[List.mem_cons,List.not_mem_nil,or_false] at hs
 rcases hs with rfl|rfl
 ·exact h
 ·exact hc
theorem BT:jJ (.a 3 [.any, .any, .any]):=by
 intro s hs
 simp only[List.mem_cons,List.not_mem_nil,or_false,or_self] at hs
 subst hs
 trivial
section
variable{t a:Int}{ax:List bT}{e node L R p0 p1 p2 q0 q1 q2 q3 S:ae}{path:List Int}{u:Nat}{out out':List (List CV)}{bad fb sb:Bool}{bc:CV}{o3 o4:Nat→Bool}{m3 m4 n3 n4 code:Int}{ts us:List (List CV)}
 (hix:(ax.map aU)[((u:Nat):Int).toNat]? =some [J L.kind,J L.num, .ro 3 (L.kids.map ag),J R.kind,J R.num, .ro 3 (R.kids.map ag)])
 (cw:ah Tryz.prog 133 [.c (.ro 1 (path.map eI))] [] (.c (.ows 2 1 (path.map eI))))
 (ol:out.length≤300)
include hix cw ol
theorem FN
 (cf:ah Tryz.prog 223 [.c (.op ME),(.c (.rp 6 [J L.kind,J L.num, .ro 3 (L.kids.map ag),J R.kind,J R.num, .ro 3 (R.kids.map ag)])), .c (.rp 3 (aI node))] [some [.op (ma p0 p1 p2 q0 q1 q2 q3)]] (B fb))
 (ct:ah Tryz.prog 208 [(.c (.rp 3 [J R.kind,J R.num, .ro 3 (R.kids.map ag)])), .c (.op [J 0]), .c (.op [J 0])] [none,some [.op [J m3]],some [.op [J m4]]] (.tup []))
 (c3:∀j:Nat,aD Tryz.prog 224 [(.c (.rp 3 [J R.kind,J R.num, .ro 3 (R.kids.map ag)])),I 3,I (j:Nat)] (B (o3 j)))
 (c4:∀j:Nat,aD Tryz.prog 224 [(.c (.rp 3 [J R.kind,J R.num, .ro 3 (R.kids.map ag)])),I 4,I (j:Nat)] (B (o4 j)))
 (cu:ah Tryz.prog 208 [(.c (.rp 6 [J L.kind,J L.num, .ro 3 (L.kids.map ag),J R.kind,J R.num, .ro 3 (R.kids.map ag)])), .c (.op [J m3]), .c (.op [J m4])] [none,some [.op [J n3]],some [.op [J n4]]] (.tup []))
 (cl:ah Tryz.prog 225 [.c (.rp 21 (ma p0 p1 p2 q0 q1 q2 q3)),I n3,I n4] [] (.tup [.c (.own 66 3 ts), .c (.own 66 3 us)]))
 (pl:jJ (.tup [.c (.own 66 3 ts), .c (.own 66 3 us)]))
 (cs:ah Tryz.prog 168 [.a 2 [J t,J a],(.c (.rp 3 [J R.kind,J R.num, .ro 3 (R.kids.map ag)])), .c (.ro 3 (cW ts)), .c (.ro 3 (cW us))] [] (.tup [.a 3 (bN S),B sb]))
 (cr:ah Tryz.prog 198 [.a 2 [J t,J a], .c (.rp 3 (aI e)), .c (.ro 1 (path.map eI)), .c (.rp 3 [J S.kind,J S.num, .ro 3 (cW (S.kids.map ay))])] [] (.tup [.a 3 [.any, .any, .any],I code]))
 (e1:fb=false→out'=out∧bc= .val (.bool bad))
 (e2:fb=true→∀j,j<3→jg [p0,p1,p2] o3 j=true→out'=out∧bc= .val (.bool bad))
 (e3:fb=true→∀j,j<4→jg [q0,q1,q2,q3] o4 j=true→out'=out∧bc= .val (.bool bad))
 (e4:fb=true→(∀j,j<3→jg [p0,p1,p2] o3 j=false)→(∀j,j<4→jg [q0,q1,q2,q3] o4 j=false)→sb=false→out'=out∧bc= .val (.bool bad))
 (e5:fb=true→(∀j,j<3→jg [p0,p1,p2] o3 j=false)→(∀j,j<4→jg [q0,q1,q2,q3] o4 j=false)→sb=true→¬code=0→out'=out∧bc= .val (.bool bad))
 (e6:fb=true→(∀j,j<3→jg [p0,p1,p2] o3 j=false)→(∀j,j<4→jg [q0,q1,q2,q3] o4 j=false)→sb=true→code=0→((out.length:Nat):Int)≥300→out'=out∧bc= .val (.bool true))
 (e7:fb=true→(∀j,j<3→jg [p0,p1,p2] o3 j=false)→(∀j,j<4→jg [q0,q1,q2,q3] o4 j=false)→sb=true→code=0→¬((out.length:Nat):Int)≥300→out'=out++[[J u, .val (.bool false), .ows 2 1 (path.map eI), .own 66 3 ts, .own 66 3 us]]∧bc= .val (.bool bad)):
 ah Tryz.prog 219 [.c (.op (J5 t a ax e out (.val (.bool bad)))), .c (.ro 1 (path.map eI)), .c (.rp 3 (aI node)),I (u:Nat),B false] [some [.op (J5 t a ax e out' bc)]] (.tup []):=by
 refine cX Tryz.func219 (h:= ?_)
 repeat'((conv=>whnf);first
  |(guard_target=aq _ _;(have g0:=‹fb=false›);(obtain⟨rfl,rfl⟩:=e1 g0);exact aq.mk rfl ⟨rfl,trivial⟩)|(guard_target=aq _ _;(have g0:=‹fb=true›);(have g1:=‹p0.kind=0›);(have g2:=‹o3 0=true›);(obtain⟨rfl,rfl⟩:=e2 g0 0 (by decide) (my (l:=[p0,p1,p2]) g1 g2));exact aq.mk rfl ⟨rfl,trivial⟩)|(guard_target=aq _ _;(have g0:=‹fb=true›);(have g1:=‹p1.kind=0›);(have g2:=‹o3 1=true›);(obtain⟨rfl,rfl⟩:=e2 g0 1 (by decide) (my (l:=[p0,p1,p2]) g1 g2));exact aq.mk rfl ⟨rfl,trivial⟩)|(guard_target=aq _ _;(have g0:=‹fb=true›);(have g1:=‹p2.kind=0›);(have g2:=‹o3 2=true›);(obtain⟨rfl,rfl⟩:=e2 g0 2 (by decide) (my (l:=[p0,p1,p2]) g1 g2));exact aq.mk rfl ⟨rfl,trivial⟩)|(guard_target=aq _ _;(have g0:=‹fb=true›);(have g1:=‹q0.kind=0›);(have g2:=‹o4 0=true›);(obtain⟨rfl,rfl⟩:=e3 g0 0 (by decide) (my (l:=[q0,q1,q2,q3]) g1 g2));exact aq.mk rfl ⟨rfl,trivial⟩)|(guard_target=aq _ _;(have g0:=‹fb=true›);(have g1:=‹q1.kind=0›);(have g2:=‹o4 1=true›);(obtain⟨rfl,rfl⟩:=e3 g0 1 (by decide) (my (l:=[q0,q1,q2,q3]) g1 g2));exact aq.mk rfl ⟨rfl,trivial⟩)|(guard_target=aq _ _;(have g0:=‹fb=true›);(have g1:=‹q2.kind=0›);(have g2:=‹o4 2=true›);(obtain⟨rfl,rfl⟩:=e3 g0 2 (by decide) (my (l:=[q0,q1,q2,q3]) g1 g2));exact aq.mk rfl ⟨rfl,trivial⟩)|(guard_target=aq _ _;(have g0:=‹fb=true›);(have g1:=‹q3.kind=0›);(have g2:=‹o4 3=true›);(obtain⟨rfl,rfl⟩:=e3 g0 3 (by decide) (my (l:=[q0,q1,q2,q3]) g1 g2));exact aq.mk rfl ⟨rfl,trivial⟩)|(guard_target=aq _ _;(have g0:=‹fb=true›);(have g1:=‹sb=false›);(have hA3:∀j,j<3→jg [p0,p1,p2] o3 j=false:=fun j hj=>hA.2 j (by omega));(have hB4:∀j,j<4→jg [q0,q1,q2,q3] o4 j=false:=fun j hj=>hB.2 j (by omega));(obtain⟨rfl,rfl⟩:=e4 g0 hA3 hB4 g1);exact aq.mk rfl ⟨rfl,trivial⟩)|(guard_target=aq _ _;(have g0:=‹fb=true›);(have g1:=‹sb=true›);(have g2:=‹¬code=0›);(have hA3:∀j,j<3→jg [p0,p1,p2] o3 j=false:=fun j hj=>hA.2 j (by omega));(have hB4:∀j,j<4→jg [q0,q1,q2,q3] o4 j=false:=fun j hj=>hB.2 j (by omega));(obtain⟨rfl,rfl⟩:=e5 g0 hA3 hB4 g1 g2);exact aq.mk rfl ⟨rfl,trivial⟩)|(guard_target=aq _ _;(have g0:=‹fb=true›);(have g1:=‹sb=true›);(have g2:=‹code=0›);(have g3:=‹((out.length:Nat):Int)≥300›);(have hA3:∀j,j<3→jg [p0,p1,p2] o3 j=false:=fun j hj=>hA.2 j (by omega));(have hB4:∀j,j<4→jg [q0,q1,q2,q3] o4 j=false:=fun j hj=>hB.2 j (by omega));(obtain⟨rfl,rfl⟩:=e6 g0 hA3 hB4 g1 g2 g3);exact aq.mk rfl ⟨rfl,trivial⟩)|(guard_target=aq _ _;(have g0:=‹fb=true›);(have g1:=‹sb=true›);(have g2:=‹code=0›);(have g3:=‹¬((out.length:Nat):Int)≥300›);(have hA3:∀j,j<3→jg [p0,p1,p2] o3 j=false:=fun j hj=>hA.2 j (by omega));(have hB4:∀j,j<4→jg [q0,q1,q2,q3] o4 j=false:=fun j hj=>hB.2 j (by omega));(obtain⟨rfl,rfl⟩:=e7 g0 hA3 hB4 g1 g2 g3);exact aq.mk rfl ⟨rfl,trivial⟩)|(guard_target=~ aK 12 _ _ _ _ _ _;refine lp (Nat) [0,1,3,4,11,12,13,14,15] (fun i=>[(16,I (i:Nat))]) (fun i=>i≤3∧∀j,j<i→jg [p0,p1,p2] o3 j=false) (fun i=>3-i) 0 (by exact⟨by decide,fun j hj=>by omega⟩) (fun i ha=> ?_);(have hA:=ha);(rcases i with _|_|_|i))|(guard_target=~ aK 16 _ _ _ _ _ _;refine lp (Nat) [0,1,3,4,11,12,13,14,15] (fun i=>[(17,I (i:Nat))]) (fun i=>i≤4∧∀j,j<i→jg [q0,q1,q2,q3] o4 j=false) (fun i=>4-i) 0 (by exact⟨by decide,fun j hj=>by omega⟩) (fun i ha=> ?_);(have hB:=ha);(rcases i with _|_|_|_|i))
  |refine nx (1:Nat) (by exact⟨by decide,dq (i:=0) hA.2 (mG (l:=[p0,p1,p2]) ‹¬p0.kind=0›)⟩)
  |refine nx (1:Nat) (by exact⟨by decide,dq (i:=0) hA.2 (jE (j:=0) ‹o3 0=false›)⟩)
  |refine nx (2:Nat) (by exact⟨by decide,dq (i:=1) hA.2 (mG (l:=[p0,p1,p2]) ‹¬p1.kind=0›)⟩)
  |refine nx (2:Nat) (by exact⟨by decide,dq (i:=1) hA.2 (jE (j:=1) ‹o3 1=false›)⟩)
  |refine nx (3:Nat) (by exact⟨by decide,dq (i:=2) hA.2 (mG (l:=[p0,p1,p2]) ‹¬p2.kind=0›)⟩)
  |refine nx (3:Nat) (by exact⟨by decide,dq (i:=2) hA.2 (jE (j:=2) ‹o3 2=false›)⟩)
  |refine nx (1:Nat) (by exact⟨by decide,dq (i:=0) hB.2 (mG (l:=[q0,q1,q2,q3]) ‹¬q0.kind=0›)⟩)
  |refine nx (1:Nat) (by exact⟨by decide,dq (i:=0) hB.2 (jE (j:=0) ‹o4 0=false›)⟩)
  |refine nx (2:Nat) (by exact⟨by decide,dq (i:=1) hB.2 (mG (l:=[q0,q1,q2,q3]) ‹¬q1.kind=0›)⟩)
  |refine nx (2:Nat) (by exact⟨by decide,dq (i:=1) hB.2 (jE (j:=1) ‹o4 1=false›)⟩)
  |refine nx (3:Nat) (by exact⟨by decide,dq (i:=2) hB.2 (mG (l:=[q0,q1,q2,q3]) ‹¬q2.kind=0›)⟩)
  |refine nx (3:Nat) (by exact⟨by decide,dq (i:=2) hB.2 (jE (j:=2) ‹o4 2=false›)⟩)
  |refine nx (4:Nat) (by exact⟨by decide,dq (i:=3) hB.2 (mG (l:=[q0,q1,q2,q3]) ‹¬q3.kind=0›)⟩)
  |refine nx (4:Nat) (by exact⟨by decide,dq (i:=3) hB.2 (jE (j:=3) ‹o4 3=false›)⟩)
  |(apply Fact.mk;intro hL;try simp only[List.length_map,maxLen] at hL)
  |((first|apply bA|apply bB|apply bC|apply bD|apply bE|apply bF)<;>intro h<;>(try simp only[List.length_map] at h)<;>(try omega)<;>(try contradiction))|(guard_target=aa _ 223 _ _ _ _;refine cG [true,false,false] rfl (cf) ?_)|(guard_target=aa _ 208 _ _ _ _;refine cG [false,true,true] rfl (ct) ?_)|(guard_target=aa _ 208 _ _ _ _;refine cG [false,true,true] rfl (cu) ?_)|(guard_target=aa _ 224 _ _ _ _;refine cP rfl (c3 0) ?_)|(guard_target=aa _ 224 _ _ _ _;refine cP rfl (c3 1) ?_)|(guard_target=aa _ 224 _ _ _ _;refine cP rfl (c3 2) ?_)|(guard_target=aa _ 224 _ _ _ _;refine cP rfl (c4 0) ?_)|(guard_target=aa _ 224 _ _ _ _;refine cP rfl (c4 1) ?_)|(guard_target=aa _ 224 _ _ _ _;refine cP rfl (c4 2) ?_)|(guard_target=aa _ 224 _ _ _ _;refine cP rfl (c4 3) ?_)|(guard_target=aa _ 133 _ _ _ _;refine cG [] rfl (cw) ?_)|(guard_target=aa _ 225 _ _ _ _;refine aa.own _ _ rfl cl pl _ rfl ?_)|(guard_target=aa _ 168 _ _ _ _;refine aa.own _ _ rfl cs (kq (g9 _)) _ rfl ?_)|(guard_target=aa _ 198 _ _ _ _;refine aa.own _ _ rfl cr (kq BT) _ rfl ?_)
  |refine aR ?_|(guard_target=Index _ _ _;first|(refine Index.mk _ (hix) ?_)|fail)
  |refine nB ?_|(guard_target=aV _ _;refine aV.mk (by first|((simp only[List.length_cons,List.length_nil,maxLen];constructor<;>omega))|fail) ?_)
  |refine nO ?_)
 all_goals first|rfl|trivial
theorem IC
 (cf:ah Tryz.prog 223 [.c (.op ME),(.c (.rp 3 [J R.kind,J R.num, .ro 3 (R.kids.map ag)])), .c (.rp 3 (aI node))] [some [.op (ma p0 p1 p2 q0 q1 q2 q3)]] (B fb))
 (ct:ah Tryz.prog 208 [(.c (.rp 6 [J L.kind,J L.num, .ro 3 (L.kids.map ag),J R.kind,J R.num, .ro 3 (R.kids.map ag)])), .c (.op [J 0]), .c (.op [J 0])] [none,some [.op [J m3]],some [.op [J m4]]] (.tup []))
 (c3:∀j:Nat,aD Tryz.prog 224 [(.c (.rp 6 [J L.kind,J L.num, .ro 3 (L.kids.map ag),J R.kind,J R.num, .ro 3 (R.kids.map ag)])),I 3,I (j:Nat)] (B (o3 j)))
 (c4:∀j:Nat,aD Tryz.prog 224 [(.c (.rp 6 [J L.kind,J L.num, .ro 3 (L.kids.map ag),J R.kind,J R.num, .ro 3 (R.kids.map ag)])),I 4,I (j:Nat)] (B (o4 j)))
 (cu:ah Tryz.prog 208 [(.c (.rp 3 [J R.kind,J R.num, .ro 3 (R.kids.map ag)])), .c (.op [J m3]), .c (.op [J m4])] [none,some [.op [J n3]],some [.op [J n4]]] (.tup []))
 (cl:ah Tryz.prog 225 [.c (.rp 21 (ma p0 p1 p2 q0 q1 q2 q3)),I n3,I n4] [] (.tup [.c (.own 66 3 ts), .c (.own 66 3 us)]))
 (pl:jJ (.tup [.c (.own 66 3 ts), .c (.own 66 3 us)]))
 (cs:ah Tryz.prog 168 [.a 2 [J t,J a],(.c (.rp 6 [J L.kind,J L.num, .ro 3 (L.kids.map ag),J R.kind,J R.num, .ro 3 (R.kids.map ag)])), .c (.ro 3 (cW ts)), .c (.ro 3 (cW us))] [] (.tup [.a 3 (bN S),B sb]))
 (cr:ah Tryz.prog 198 [.a 2 [J t,J a], .c (.rp 3 (aI e)), .c (.ro 1 (path.map eI)), .c (.rp 3 [J S.kind,J S.num, .ro 3 (cW (S.kids.map ay))])] [] (.tup [.a 3 [.any, .any, .any],I code]))
 (e1:fb=false→out'=out∧bc= .val (.bool bad))
 (e2:fb=true→∀j,j<3→jg [p0,p1,p2] o3 j=true→out'=out∧bc= .val (.bool bad))
 (e3:fb=true→∀j,j<4→jg [q0,q1,q2,q3] o4 j=true→out'=out∧bc= .val (.bool bad))
 (e4:fb=true→(∀j,j<3→jg [p0,p1,p2] o3 j=false)→(∀j,j<4→jg [q0,q1,q2,q3] o4 j=false)→sb=false→out'=out∧bc= .val (.bool bad))
 (e5:fb=true→(∀j,j<3→jg [p0,p1,p2] o3 j=false)→(∀j,j<4→jg [q0,q1,q2,q3] o4 j=false)→sb=true→¬code=0→out'=out∧bc= .val (.bool bad))
 (e6:fb=true→(∀j,j<3→jg [p0,p1,p2] o3 j=false)→(∀j,j<4→jg [q0,q1,q2,q3] o4 j=false)→sb=true→code=0→((out.length:Nat):Int)≥300→out'=out∧bc= .val (.bool true))
 (e7:fb=true→(∀j,j<3→jg [p0,p1,p2] o3 j=false)→(∀j,j<4→jg [q0,q1,q2,q3] o4 j=false)→sb=true→code=0→¬((out.length:Nat):Int)≥300→out'=out++[[J u, .val (.bool true), .ows 2 1 (path.map eI), .own 66 3 ts, .own 66 3 us]]∧bc= .val (.bool bad)):
 ah Tryz.prog 219 [.c (.op (J5 t a ax e out (.val (.bool bad)))), .c (.ro 1 (path.map eI)), .c (.rp 3 (aI node)),I (u:Nat),B true] [some [.op (J5 t a ax e out' bc)]] (.tup []):=by
 refine cX Tryz.func219 (h:= ?_)
 repeat'((conv=>whnf);first
  |(guard_target=aq _ _;(have g0:=‹fb=false›);(obtain⟨rfl,rfl⟩:=e1 g0);exact aq.mk rfl ⟨rfl,trivial⟩)|(guard_target=aq _ _;(have g0:=‹fb=true›);(have g1:=‹p0.kind=0›);(have g2:=‹o3 0=true›);(obtain⟨rfl,rfl⟩:=e2 g0 0 (by decide) (my (l:=[p0,p1,p2]) g1 g2));exact aq.mk rfl ⟨rfl,trivial⟩)|(guard_target=aq _ _;(have g0:=‹fb=true›);(have g1:=‹p1.kind=0›);(have g2:=‹o3 1=true›);(obtain⟨rfl,rfl⟩:=e2 g0 1 (by decide) (my (l:=[p0,p1,p2]) g1 g2));exact aq.mk rfl ⟨rfl,trivial⟩)|(guard_target=aq _ _;(have g0:=‹fb=true›);(have g1:=‹p2.kind=0›);(have g2:=‹o3 2=true›);(obtain⟨rfl,rfl⟩:=e2 g0 2 (by decide) (my (l:=[p0,p1,p2]) g1 g2));exact aq.mk rfl ⟨rfl,trivial⟩)|(guard_target=aq _ _;(have g0:=‹fb=true›);(have g1:=‹q0.kind=0›);(have g2:=‹o4 0=true›);(obtain⟨rfl,rfl⟩:=e3 g0 0 (by decide) (my (l:=[q0,q1,q2,q3]) g1 g2));exact aq.mk rfl ⟨rfl,trivial⟩)|(guard_target=aq _ _;(have g0:=‹fb=true›);(have g1:=‹q1.kind=0›);(have g2:=‹o4 1=true›);(obtain⟨rfl,rfl⟩:=e3 g0 1 (by decide) (my (l:=[q0,q1,q2,q3]) g1 g2));exact aq.mk rfl ⟨rfl,trivial⟩)|(guard_target=aq _ _;(have g0:=‹fb=true›);(have g1:=‹q2.kind=0›);(have g2:=‹o4 2=true›);(obtain⟨rfl,rfl⟩:=e3 g0 2 (by decide) (my (l:=[q0,q1,q2,q3]) g1 g2));exact aq.mk rfl ⟨rfl,trivial⟩)|(guard_target=aq _ _;(have g0:=‹fb=true›);(have g1:=‹q3.kind=0›);(have g2:=‹o4 3=true›);(obtain⟨rfl,rfl⟩:=e3 g0 3 (by decide) (my (l:=[q0,q1,q2,q3]) g1 g2));exact aq.mk rfl ⟨rfl,trivial⟩)|(guard_target=aq _ _;(have g0:=‹fb=true›);(have g1:=‹sb=false›);(have hA3:∀j,j<3→jg [p0,p1,p2] o3 j=false:=fun j hj=>hA.2 j (by omega));(have hB4:∀j,j<4→jg [q0,q1,q2,q3] o4 j=false:=fun j hj=>hB.2 j (by omega));(obtain⟨rfl,rfl⟩:=e4 g0 hA3 hB4 g1);exact aq.mk rfl ⟨rfl,trivial⟩)|(guard_target=aq _ _;(have g0:=‹fb=true›);(have g1:=‹sb=true›);(have g2:=‹¬code=0›);(have hA3:∀j,j<3→jg [p0,p1,p2] o3 j=false:=fun j hj=>hA.2 j (by omega));(have hB4:∀j,j<4→jg [q0,q1,q2,q3] o4 j=false:=fun j hj=>hB.2 j (by omega));(obtain⟨rfl,rfl⟩:=e5 g0 hA3 hB4 g1 g2);exact aq.mk rfl ⟨rfl,trivial⟩)|(guard_target=aq _ _;(have g0:=‹fb=true›);(have g1:=‹sb=true›);(have g2:=‹code=0›);(have g3:=‹((out.length:Nat):Int)≥300›);(have hA3:∀j,j<3→jg [p0,p1,p2] o3 j=false:=fun j hj=>hA.2 j (by omega));(have hB4:∀j,j<4→jg [q0,q1,q2,q3] o4 j=false:=fun j hj=>hB.2 j (by omega));(obtain⟨rfl,rfl⟩:=e6 g0 hA3 hB4 g1 g2 g3);exact aq.mk rfl ⟨rfl,trivial⟩)|(guard_target=aq _ _;(have g0:=‹fb=true›);(have g1:=‹sb=true›);(have g2:=‹code=0›);(have g3:=‹¬((out.length:Nat):Int)≥300›);(have hA3:∀j,j<3→jg [p0,p1,p2] o3 j=false:=fun j hj=>hA.2 j (by omega));(have hB4:∀j,j<4→jg [q0,q1,q2,q3] o4 j=false:=fun j hj=>hB.2 j (by omega));(obtain⟨rfl,rfl⟩:=e7 g0 hA3 hB4 g1 g2 g3);exact aq.mk rfl ⟨rfl,trivial⟩)|(guard_target=~ aK 12 _ _ _ _ _ _;refine lp (Nat) [0,1,3,4,11,12,13,14,15] (fun i=>[(16,I (i:Nat))]) (fun i=>i≤3∧∀j,j<i→jg [p0,p1,p2] o3 j=false) (fun i=>3-i) 0 (by exact⟨by decide,fun j hj=>by omega⟩) (fun i ha=> ?_);(have hA:=ha);(rcases i with _|_|_|i))|(guard_target=~ aK 16 _ _ _ _ _ _;refine lp (Nat) [0,1,3,4,11,12,13,14,15] (fun i=>[(17,I (i:Nat))]) (fun i=>i≤4∧∀j,j<i→jg [q0,q1,q2,q3] o4 j=false) (fun i=>4-i) 0 (by exact⟨by decide,fun j hj=>by omega⟩) (fun i ha=> ?_);(have hB:=ha);(rcases i with _|_|_|_|i))
  |refine nx (1:Nat) (by exact⟨by decide,dq (i:=0) hA.2 (mG (l:=[p0,p1,p2]) ‹¬p0.kind=0›)⟩)
  |refine nx (1:Nat) (by exact⟨by decide,dq (i:=0) hA.2 (jE (j:=0) ‹o3 0=false›)⟩)
  |refine nx (2:Nat) (by exact⟨by decide,dq (i:=1) hA.2 (mG (l:=[p0,p1,p2]) ‹¬p1.kind=0›)⟩)
  |refine nx (2:Nat) (by exact⟨by decide,dq (i:=1) hA.2 (jE (j:=1) ‹o3 1=false›)⟩)
  |refine nx (3:Nat) (by exact⟨by decide,dq (i:=2) hA.2 (mG (l:=[p0,p1,p2]) ‹¬p2.kind=0›)⟩)
  |refine nx (3:Nat) (by exact⟨by decide,dq (i:=2) hA.2 (jE (j:=2) ‹o3 2=false›)⟩)
  |refine nx (1:Nat) (by exact⟨by decide,dq (i:=0) hB.2 (mG (l:=[q0,q1,q2,q3]) ‹¬q0.kind=0›)⟩)
  |refine nx (1:Nat) (by exact⟨by decide,dq (i:=0) hB.2 (jE (j:=0) ‹o4 0=false›)⟩)
  |refine nx (2:Nat) (by exact⟨by decide,dq (i:=1) hB.2 (mG (l:=[q0,q1,q2,q3]) ‹¬q1.kind=0›)⟩)
  |refine nx (2:Nat) (by exact⟨by decide,dq (i:=1) hB.2 (jE (j:=1) ‹o4 1=false›)⟩)
  |refine nx (3:Nat) (by exact⟨by decide,dq (i:=2) hB.2 (mG (l:=[q0,q1,q2,q3]) ‹¬q2.kind=0›)⟩)
  |refine nx (3:Nat) (by exact⟨by decide,dq (i:=2) hB.2 (jE (j:=2) ‹o4 2=false›)⟩)
  |refine nx (4:Nat) (by exact⟨by decide,dq (i:=3) hB.2 (mG (l:=[q0,q1,q2,q3]) ‹¬q3.kind=0›)⟩)
  |refine nx (4:Nat) (by exact⟨by decide,dq (i:=3) hB.2 (jE (j:=3) ‹o4 3=false›)⟩)
  |(apply Fact.mk;intro hL;try simp only[List.length_map,maxLen] at hL)
  |((first|apply bA|apply bB|apply bC|apply bD|apply bE|apply bF)<;>intro h<;>(try simp only[List.length_map] at h)<;>(try omega)<;>(try contradiction))|(guard_target=aa _ 223 _ _ _ _;refine cG [true,false,false] rfl (cf) ?_)|(guard_target=aa _ 208 _ _ _ _;refine cG [false,true,true] rfl (ct) ?_)|(guard_target=aa _ 208 _ _ _ _;refine cG [false,true,true] rfl (cu) ?_)|(guard_target=aa _ 224 _ _ _ _;refine cP rfl (c3 0) ?_)|(guard_target=aa _ 224 _ _ _ _;refine cP rfl (c3 1) ?_)|(guard_target=aa _ 224 _ _ _ _;refine cP rfl (c3 2) ?_)|(guard_target=aa _ 224 _ _ _ _;refine cP rfl (c4 0) ?_)|(guard_target=aa _ 224 _ _ _ _;refine cP rfl (c4 1) ?_)|(guard_target=aa _ 224 _ _ _ _;refine cP rfl (c4 2) ?_)|(guard_target=aa _ 224 _ _ _ _;refine cP rfl (c4 3) ?_)|(guard_target=aa _ 133 _ _ _ _;refine cG [] rfl (cw) ?_)|(guard_target=aa _ 225 _ _ _ _;refine aa.own _ _ rfl cl pl _ rfl ?_)|(guard_target=aa _ 168 _ _ _ _;refine aa.own _ _ rfl cs (kq (g9 _)) _ rfl ?_)|(guard_target=aa _ 198 _ _ _ _;refine aa.own _ _ rfl cr (kq BT) _ rfl ?_)
  |refine aR ?_|(guard_target=Index _ _ _;first|(refine Index.mk _ (hix) ?_)|fail)
  |refine nB ?_|(guard_target=aV _ _;refine aV.mk (by first|((simp only[List.length_cons,List.length_nil,maxLen];constructor<;>omega))|fail) ?_)
  |refine nO ?_)
 all_goals first|rfl|trivial
end
end Go.Proofs.YtgbggaddpbghfaaGreat
namespace Go.KA
open Go Go.RowKit
theorem jG.refl:∀ss:List SV,jG ss ss
 |[]=> .nil
 |_::ss=> .same (jG.refl ss)
end Go.KA
namespace Go.Proofs.YtgbggaddpbghfaaGreat
open Go Go.KA Go.Proofs
set_option maxHeartbeats 16000000
set_option maxRecDepth 100000
theorem Jz{N:Nat}{x:ae}(h:aj x≤N):aj (iI x)≤N:=by
 unfold iI
 split
 ·simp[I8,aj,aJ]
 ·exact h
theorem sk{N:Nat}{l:List ae}(h:∀x∈l,aj x≤N)(n:Int):∀x∈eX l n,aj x≤N:=by
 intro x hx
 unfold eX at hx
 obtain⟨y,hy,rfl⟩:=List.mem_map.1 hx
 exact Jz (h y (List.mem_of_mem_take hy))
theorem tx.au{N:Nat}{F:Fit}(h:tx N F):∀x∈[F.t0,F.t1,F.t2],aj x≤N:=by
 intro x hx
 simp only[List.mem_cons,List.not_mem_nil,or_false] at hx
 rcases hx with rfl|rfl|rfl
 ·exact h.t0
 ·exact h.t1
 ·exact h.t2
theorem tx.c9{N:Nat}{F:Fit}(h:tx N F):∀x∈[F.a0,F.a1,F.a2,F.a3],aj x≤N:=by
 intro x hx
 simp only[List.mem_cons,List.not_mem_nil,or_false] at hx
 rcases hx with rfl|rfl|rfl|rfl
 ·exact h.a0
 ·exact h.a1
 ·exact h.a2
 ·exact h.a3
theorem Bj(p0 p1 p2 q0 q1 q2 q3 to:ae):wK ⟨p0,p1,p2,q0,q1,q2,q3⟩ to=(jg [p0,p1,p2] (fun j=>je 3 (j:Nat) to) 0||jg [p0,p1,p2] (fun j=>je 3 (j:Nat) to) 1||jg [p0,p1,p2] (fun j=>je 3 (j:Nat) to) 2||
 jg [q0,q1,q2,q3] (fun j=>je 4 (j:Nat) to) 0||jg [q0,q1,q2,q3] (fun j=>je 4 (j:Nat) to) 1||jg [q0,q1,q2,q3] (fun j=>je 4 (j:Nat) to) 2||jg [q0,q1,q2,q3] (fun j=>je 4 (j:Nat) to) 3):=rfl
section
variable{p0 p1 p2 q0 q1 q2 q3 to:ae}
theorem LP{j:Nat}(hj:j<3)(h:jg [p0,p1,p2] (fun j=>je 3 (j:Nat) to) j=true):wK ⟨p0,p1,p2,q0,q1,q2,q3⟩ to=true:=by
 rw[Bj]
 obtain rfl|rfl|rfl:j=0∨j=1∨j=2:=by omega
 all_goals simp only[h,Bool.or_true,Bool.true_or]
theorem Jx{j:Nat}(hj:j<4)(h:jg [q0,q1,q2,q3] (fun j=>je 4 (j:Nat) to) j=true):wK ⟨p0,p1,p2,q0,q1,q2,q3⟩ to=true:=by
 rw[Bj]
 obtain rfl|rfl|rfl|rfl:j=0∨j=1∨j=2∨j=3:=by omega
 all_goals simp only[h,Bool.or_true,Bool.true_or]
theorem mI(h1:∀j,j<3→jg [p0,p1,p2] (fun j=>je 3 (j:Nat) to) j=false)(h2:∀j,j<4→jg [q0,q1,q2,q3] (fun j=>je 4 (j:Nat) to) j=false):¬wK ⟨p0,p1,p2,q0,q1,q2,q3⟩ to=true:=by
 rw[Bj,h1 0 (by decide),h1 1 (by decide),h1 2 (by decide),h2 0 (by decide),h2 1 (by decide),h2 2 (by decide),h2 3 (by decide)]
 decide
end
end Go.Proofs.YtgbggaddpbghfaaGreat
namespace Go.KA
open Go Go.RowKit
end Go.KA
namespace Go.Proofs.YtgbggaddpbghfaaGreat
open Go Go.KA Go.Proofs
set_option maxHeartbeats 16000000
set_option maxRecDepth 100000
theorem wB{w:World}{ok:Nat→Prop}{x:ae}{vs:List Value}{g:List Nat}(h:Den w ok (aI x) vs g):g=[]∧Den w ok [.any, .any, .any] vs []:=by
 cases h with|val h1 h=>cases h with|val h2 h=>cases h with|ro _ _ _ _ _ _ h=>cases h;exact⟨rfl, .any h1 (.any h2 (.any rfl .nil))⟩
theorem _root_.Go.KA.ah.Pf{P:Program}{f:Nat}{args:List SV}{outs:List (Option (List CV))}{Z:ae}{ss:List SV}(h:ah P f args outs (.tup (.a 3 (aI Z)::ss))):ah P f args outs (.tup (.a 3 [.any, .any, .any]::ss)):=by
 refine⟨h.1,fun w ok vs fs h1 h2 h3 h4=>(h.2 w ok vs fs h1 h2 h3 h4).mono ?_⟩
 rintro e w' ⟨v,fr,fo,h5,h6,h7,h8,h9,h10⟩
 refine⟨v,fr,fo,h5,h6,h7,h8, ?_,h10⟩
 cases h9 with
 |v h=>
  cases h with
  |v h=>
   cases h fun _=>none with
   |c h=>cases h
 |tup h=>
  cases h with
  |cons ha ht=>
   refine .tup (.cons ?_ ht)
   cases ha with
   |v h=>
    refine .v fun ρ=> ?_
    cases h ρ with
    |c h=>cases h
    |a a1 a2=>first|exact .a rfl (wB a2).2|exact .a rfl (wB a1).2
   |a hl h=>
    obtain⟨rfl,h2⟩:=wB h
    exact .a rfl h2
theorem Qy(l m:List ae):jJ (.tup [.c (.own 66 3 (l.map ay)), .c (.own 66 3 (m.map ay))]):=by
 intro s hs
 simp only[List.mem_cons,List.not_mem_nil,or_false] at hs
 rcases hs with rfl|rfl
 ·exact sy l
 ·exact sy m
abbrev r9(t a:Int)(ax:List bT)(e:ae)(s:oy):List CV:=J5 t a ax e (s.out.map aW) (.val (.bool s.bad))
section
variable{t a:Int}(hs:bO t a=true)(ax:List bT){e node L R:ae}(path:List Int){u:Nat}(s:oy)
 (hu:(ax.map aU)[((u:Nat):Int).toNat]? =some [J L.kind,J L.num, .ro 3 (L.kids.map ag),J R.kind,J R.num, .ro 3 (R.kids.map ag)])
 (hL:Tree 3 4 L)(hR:Tree 3 4 R)(bL:aj L≤200)(bR:aj R≤200)(be:aj e≤200)(bn:aj node≤200)(bp:path.length≤1000000)(bs:s.out.length≤300)
include hs hu hL hR bL bR be bn bp bs
theorem EC:ah Tryz.prog 219 [.c (.op (r9 t a ax e s)), .c (.ro 1 (path.map eI)), .c (.rp 3 (aI node)),I (u:Nat),B false] [some [.op (r9 t a ax e (sa s (vF t a e u false L R path node)))]] (.tup []):=by
 have _:=bL
 have l1:=kY (by decide) (by decide) hL
 have l2:=kY (by decide) (by decide) hR
 have cf0:=ah.Le (cs:=ME) (z4 L hL node pq (by omega))
 have hB:=w7 L node pq (D9 200) bn
 obtain⟨F,hF⟩:∃F,fM L node pq=F:=⟨_,rfl⟩
 rw[hF] at cf0 hB
 obtain⟨fb,p0,p1,p2,q0,q1,q2,q3⟩:=F
 have t1:=fI hR 0
 have m30:=t1.2.2.1
 have m40:=t1.2.2.2
 have m31:=t1.1 (by decide)
 have m41:=t1.2.1 (by decide)
 have ct0:=jV R l2 0 0 (by decide) (by decide) (by decide) (by decide)
 have cu0:=jV L l1 (dm 3 R 0) (dm 4 R 0) m30 (by omega) m40 (by omega)
 rw[fv] at ct0 cu0
 have n31:=(fI hL (dm 3 R 0)).1 m31
 have n41:=(fI hL (dm 4 R 0)).2.1 m41
 have n30:=(fI hL (dm 3 R 0)).2.2.1
 have n40:=(fI hL (dm 4 R 0)).2.2.2
 obtain⟨n3,hn3⟩:∃n,dm 3 L (dm 3 R 0)=n:=⟨_,rfl⟩
 obtain⟨n4,hn4⟩:∃n,dm 4 L (dm 4 R 0)=n:=⟨_,rfl⟩
 rw[hn3] at cu0 n31 n30
 rw[hn4] at cu0 n41 n40
 obtain⟨k3,rfl⟩:∃k:Nat,n3=(k:Int):=⟨n3.toNat,by omega⟩
 obtain⟨k4,rfl⟩:∃k:Nat,n4=(k:Int):=⟨n4.toNat,by omega⟩
 have cl0:=zk p0 p1 p2 q0 q1 q2 q3 (by have:=hB.t0;simp only[] at this;omega) (by have:=hB.t1;simp only[] at this;omega) (by have:=hB.t2;simp only[] at this;omega) (by have:=hB.a0;simp only[] at this;omega) (by have:=hB.a1;simp only[] at this;omega) (by have:=hB.a2;simp only[] at this;omega) (by have:=hB.a3;simp only[] at this;omega) k3 k4 (by omega) (by omega)
 have b1:∀x∈eX [p0,p1,p2] (k3:Int),aj x≤200:=sk hB.au _
 have b2:∀x∈eX [q0,q1,q2,q3] (k4:Int),aj x≤200:=sk hB.c9 _
 have cs0:=lM b1 b2 t a hs R l2 (by simp only[gZ];omega)
 rw[←bQ eM (eX [p0,p1,p2] (k3:Int)),←bQ eM (eX [q0,q1,q2,q3] (k4:Int))] at cs0
 have hS:aj (ie t a R (eX [p0,p1,p2] (k3:Int)) (eX [q0,q1,q2,q3] (k4:Int))).1≤500000:=by
  have:=(lY b1 b2 R 200).1
  simp only[gZ] at this
  unfold ie
  simp only[]
  omega
 obtain⟨X,hX⟩:∃X,ie t a R (eX [p0,p1,p2] (k3:Int)) (eX [q0,q1,q2,q3] (k4:Int))=X:=⟨_,rfl⟩
 rw[hX] at cs0 hS
 obtain⟨S,sb⟩:=X
 have cr0:=(qF t a hs e S path (by omega) hS).Pf
 have e8:aI S=[J S.kind,J S.num, .ro 3 (cW (S.kids.map ay))]:=by rw[bQ eM]
 rw[e8] at cr0
 have hT:vF t a e u false L R path node=if fb=false then none else if wK ⟨p0,p1,p2,q0,q1,q2,q3⟩ R=true then none else if sb=false then none else if(m8 t a e path S).2=0 then some ⟨u,false,path,eX [p0,p1,p2] (k3:Int),eX [q0,q1,q2,q3] (k4:Int)⟩ else none:=by
  unfold vF
  rw[hF,hn3,hn4]
  simp only[Fit.au,Fit.c9,hX]
 rw[hT]
 have nf:∀{b:Bool},b=true→¬b=false:=fun h=>by rw[h];decide
 have cl:ah Tryz.prog 225 [.c (.rp 21 (ma p0 p1 p2 q0 q1 q2 q3)),I (k3:Nat),I (k4:Nat)] [] (.tup [.c (.own 66 3 ((eX [p0,p1,p2] (k3:Int)).map ay)), .c (.own 66 3 ((eX [q0,q1,q2,q3] (k4:Int)).map ay))]):=cl0
 have cw:ah Tryz.prog 133 [.c (.ro 1 (path.map eI))] [] (.c (.ows 2 1 (path.map eI))):=iS path (by omega)
 refine FN (t:=t) (a:=a) (ax:=ax) (e:=e) (node:=node) (L:=L) (R:=R) (o3:=fun j=>je 3 (j:Nat) R) (o4:=fun j=>je 4 (j:Nat) R) hu cw (by rw[List.length_map];exact bs) ((cf0).cut (.same (jG.cut (sz:=6) (k:=3) (cs:=[J L.kind,J L.num, .ro 3 (L.kids.map ag),J R.kind,J R.num, .ro 3 (R.kids.map ag)]) (by decide) (jG.refl _)))) (ct0) (fun j=>jA 3 (j:Nat) R) (fun j=>jA 4 (j:Nat) R) ((cu0).cut (jG.cut (sz:=6) (k:=3) (cs:=[J L.kind,J L.num, .ro 3 (L.kids.map ag),J R.kind,J R.num, .ro 3 (R.kids.map ag)]) (by decide) (jG.refl _))) cl (Qy _ _) (cs0) cr0 ?_ ?_ ?_ ?_ ?_ ?_ ?_
 ·intro h
  rw[if_pos h]
  exact⟨rfl,rfl⟩
 ·intro h j hj hk
  rw[if_neg (nf h),if_pos (LP hj hk)]
  exact⟨rfl,rfl⟩
 ·intro h j hj hk
  rw[if_neg (nf h),if_pos (Jx hj hk)]
  exact⟨rfl,rfl⟩
 ·intro h k1 k2 hb
  rw[if_neg (nf h),if_neg (mI k1 k2),if_pos hb]
  exact⟨rfl,rfl⟩
 ·intro h k1 k2 hb hc
  rw[if_neg (nf h),if_neg (mI k1 k2),if_neg (nf hb),if_neg hc]
  exact⟨rfl,rfl⟩
 ·intro h k1 k2 hb hc hn
  rw[List.length_map] at hn
  rw[if_neg (nf h),if_neg (mI k1 k2),if_neg (nf hb),if_pos hc,sa,if_pos (by omega)]
  exact⟨rfl,rfl⟩
 ·intro h k1 k2 hb hc hn
  rw[List.length_map] at hn
  rw[if_neg (nf h),if_neg (mI k1 k2),if_neg (nf hb),if_pos hc,sa,if_neg (by omega)]
  exact⟨by rw[List.map_append];rfl,rfl⟩
theorem HP:ah Tryz.prog 219 [.c (.op (r9 t a ax e s)), .c (.ro 1 (path.map eI)), .c (.rp 3 (aI node)),I (u:Nat),B true] [some [.op (r9 t a ax e (sa s (vF t a e u true R L path node)))]] (.tup []):=by
 have _:=bR
 have l1:=kY (by decide) (by decide) hR
 have l2:=kY (by decide) (by decide) hL
 have cf0:=ah.Le (cs:=ME) (z4 R hR node pq (by omega))
 have hB:=w7 R node pq (D9 200) bn
 obtain⟨F,hF⟩:∃F,fM R node pq=F:=⟨_,rfl⟩
 rw[hF] at cf0 hB
 obtain⟨fb,p0,p1,p2,q0,q1,q2,q3⟩:=F
 have t1:=fI hL 0
 have m30:=t1.2.2.1
 have m40:=t1.2.2.2
 have m31:=t1.1 (by decide)
 have m41:=t1.2.1 (by decide)
 have ct0:=jV L l2 0 0 (by decide) (by decide) (by decide) (by decide)
 have cu0:=jV R l1 (dm 3 L 0) (dm 4 L 0) m30 (by omega) m40 (by omega)
 rw[fv] at ct0 cu0
 have n31:=(fI hR (dm 3 L 0)).1 m31
 have n41:=(fI hR (dm 4 L 0)).2.1 m41
 have n30:=(fI hR (dm 3 L 0)).2.2.1
 have n40:=(fI hR (dm 4 L 0)).2.2.2
 obtain⟨n3,hn3⟩:∃n,dm 3 R (dm 3 L 0)=n:=⟨_,rfl⟩
 obtain⟨n4,hn4⟩:∃n,dm 4 R (dm 4 L 0)=n:=⟨_,rfl⟩
 rw[hn3] at cu0 n31 n30
 rw[hn4] at cu0 n41 n40
 obtain⟨k3,rfl⟩:∃k:Nat,n3=(k:Int):=⟨n3.toNat,by omega⟩
 obtain⟨k4,rfl⟩:∃k:Nat,n4=(k:Int):=⟨n4.toNat,by omega⟩
 have cl0:=zk p0 p1 p2 q0 q1 q2 q3 (by have:=hB.t0;simp only[] at this;omega) (by have:=hB.t1;simp only[] at this;omega) (by have:=hB.t2;simp only[] at this;omega) (by have:=hB.a0;simp only[] at this;omega) (by have:=hB.a1;simp only[] at this;omega) (by have:=hB.a2;simp only[] at this;omega) (by have:=hB.a3;simp only[] at this;omega) k3 k4 (by omega) (by omega)
 have b1:∀x∈eX [p0,p1,p2] (k3:Int),aj x≤200:=sk hB.au _
 have b2:∀x∈eX [q0,q1,q2,q3] (k4:Int),aj x≤200:=sk hB.c9 _
 have cs0:=lM b1 b2 t a hs L l2 (by simp only[gZ];omega)
 rw[←bQ eM (eX [p0,p1,p2] (k3:Int)),←bQ eM (eX [q0,q1,q2,q3] (k4:Int))] at cs0
 have hS:aj (ie t a L (eX [p0,p1,p2] (k3:Int)) (eX [q0,q1,q2,q3] (k4:Int))).1≤500000:=by
  have:=(lY b1 b2 L 200).1
  simp only[gZ] at this
  unfold ie
  simp only[]
  omega
 obtain⟨X,hX⟩:∃X,ie t a L (eX [p0,p1,p2] (k3:Int)) (eX [q0,q1,q2,q3] (k4:Int))=X:=⟨_,rfl⟩
 rw[hX] at cs0 hS
 obtain⟨S,sb⟩:=X
 have cr0:=(qF t a hs e S path (by omega) hS).Pf
 have e8:aI S=[J S.kind,J S.num, .ro 3 (cW (S.kids.map ay))]:=by rw[bQ eM]
 rw[e8] at cr0
 have hT:vF t a e u true R L path node=if fb=false then none else if wK ⟨p0,p1,p2,q0,q1,q2,q3⟩ L=true then none else if sb=false then none else if(m8 t a e path S).2=0 then some ⟨u,true,path,eX [p0,p1,p2] (k3:Int),eX [q0,q1,q2,q3] (k4:Int)⟩ else none:=by
  unfold vF
  rw[hF,hn3,hn4]
  simp only[Fit.au,Fit.c9,hX]
 rw[hT]
 have nf:∀{b:Bool},b=true→¬b=false:=fun h=>by rw[h];decide
 have cl:ah Tryz.prog 225 [.c (.rp 21 (ma p0 p1 p2 q0 q1 q2 q3)),I (k3:Nat),I (k4:Nat)] [] (.tup [.c (.own 66 3 ((eX [p0,p1,p2] (k3:Int)).map ay)), .c (.own 66 3 ((eX [q0,q1,q2,q3] (k4:Int)).map ay))]):=cl0
 have cw:ah Tryz.prog 133 [.c (.ro 1 (path.map eI))] [] (.c (.ows 2 1 (path.map eI))):=iS path (by omega)
 refine IC (t:=t) (a:=a) (ax:=ax) (e:=e) (node:=node) (L:=L) (R:=R) (o3:=fun j=>je 3 (j:Nat) L) (o4:=fun j=>je 4 (j:Nat) L) hu cw (by rw[List.length_map];exact bs) (cf0) ((ct0).cut (jG.cut (sz:=6) (k:=3) (cs:=[J L.kind,J L.num, .ro 3 (L.kids.map ag),J R.kind,J R.num, .ro 3 (R.kids.map ag)]) (by decide) (jG.refl _))) (fun j=>(jA 3 (j:Nat) L).cut (jG.cut (sz:=6) (k:=3) (cs:=[J L.kind,J L.num, .ro 3 (L.kids.map ag),J R.kind,J R.num, .ro 3 (R.kids.map ag)]) (by decide) (jG.refl _))) (fun j=>(jA 4 (j:Nat) L).cut (jG.cut (sz:=6) (k:=3) (cs:=[J L.kind,J L.num, .ro 3 (L.kids.map ag),J R.kind,J R.num, .ro 3 (R.kids.map ag)]) (by decide) (jG.refl _))) (cu0) cl (Qy _ _) ((cs0).cut (.same (jG.cut (sz:=6) (k:=3) (cs:=[J L.kind,J L.num, .ro 3 (L.kids.map ag),J R.kind,J R.num, .ro 3 (R.kids.map ag)]) (by decide) (jG.refl _)))) cr0 ?_ ?_ ?_ ?_ ?_ ?_ ?_
 ·intro h
  rw[if_pos h]
  exact⟨rfl,rfl⟩
 ·intro h j hj hk
  rw[if_neg (nf h),if_pos (LP hj hk)]
  exact⟨rfl,rfl⟩
 ·intro h j hj hk
  rw[if_neg (nf h),if_pos (Jx hj hk)]
  exact⟨rfl,rfl⟩
 ·intro h k1 k2 hb
  rw[if_neg (nf h),if_neg (mI k1 k2),if_pos hb]
  exact⟨rfl,rfl⟩
 ·intro h k1 k2 hb hc
  rw[if_neg (nf h),if_neg (mI k1 k2),if_neg (nf hb),if_neg hc]
  exact⟨rfl,rfl⟩
 ·intro h k1 k2 hb hc hn
  rw[List.length_map] at hn
  rw[if_neg (nf h),if_neg (mI k1 k2),if_neg (nf hb),if_pos hc,sa,if_pos (by omega)]
  exact⟨rfl,rfl⟩
 ·intro h k1 k2 hb hc hn
  rw[List.length_map] at hn
  rw[if_neg (nf h),if_neg (mI k1 k2),if_neg (nf hb),if_pos hc,sa,if_neg (by omega)]
  exact⟨by rw[List.map_append];rfl,rfl⟩
end
end Go.Proofs.YtgbggaddpbghfaaGreat
namespace Go.Proofs.YtgbggaddpbghfaaGreat
open Go Go.KA Go.Proofs
set_option maxHeartbeats 16000000
set_option maxRecDepth 100000
abbrev Pc:bT:=⟨cL,cL⟩
theorem pw{s:oy}(h:s.out.length≤300)(o:Option aB):(sa s o).out.length≤300:=by
 cases o with
 |none=>exact h
 |some x=>
  unfold sa
  simp only[]
  split
  ·exact h
  ·simp only[List.length_append,List.length_cons,List.length_nil]
   omega
section
variable(t a:Int)(ax:List bT)(e:ae)
theorem CP(path:List Int)(node:ae):∀(m use:Nat) (s:oy),s.out.length≤300→(rr t a ax e path node m use s).out.length≤300
 |0,_,s,h=>h
 |m+1,use,s,h=>by
  rw[rr]
  split
  ·exact h
  ·exact CP path node m (use+1) _ (pw (pw h _) _)
mutual
theorem q8:∀(node:ae) (path:List Int) (s:oy),s.out.length≤300→(jR t a ax e node path s).out.length≤300
 | .mk k n ks,path,s,h=>by
   rw[jR]
   exact xZ ks path 0 _ (CP t a ax e path _ _ _ _ h)
theorem xZ:∀(l:List ae) (path:List Int) (i:Nat) (s:oy),s.out.length≤300→(eP t a ax e l path i s).out.length≤300
 |[],_,_,s,h=>by rw[eP];exact h
 |x::xs,path,i,s,h=>by
  rw[eP]
  split
  ·exact h
  ·exact xZ xs path (i+1) _ (q8 x _ s h)
end
theorem Nl{path:List Int}{node:ae}{i:Nat}{s:oy}(h:¬i<ax.length):rr t a ax e path node (ax.length-i) i s=s:=by
 rw[show ax.length-i=0 by omega]
 rfl
theorem Mk{path:List Int}{node:ae}{i:Nat}{s:oy}(h:s.bad=true):rr t a ax e path node (ax.length-i) i s=s:=by
 cases ax.length-i with
 |zero=>rfl
 |succ m=>rw[rr,if_pos h]
theorem On{path:List Int}{node:ae}{i:Nat}{s:oy}(h:i<ax.length)(hb:s.bad=false):rr t a ax e path node (ax.length-i) i s=rr t a ax e path node (ax.length-(i+1)) (i+1) (LG t a ax e path node i s):=by
 rw[show ax.length-i=ax.length-(i+1)+1 by omega,rr,if_neg (by rw[hb];decide)]
theorem Ma{l:List ae}{path:List Int}{i:Nat}{s:oy}(h:¬i<l.length):eP t a ax e (l.drop i) path i s=s:=by
 rw[List.drop_of_length_le (by omega),eP]
theorem Mz{l:List ae}{path:List Int}{i:Nat}{s:oy}(h:s.bad=true):eP t a ax e l path i s=s:=by
 cases l with
 |nil=>rw[eP]
 |cons x l=>rw[eP,if_pos h]
theorem Og{l:List ae}{path:List Int}{i:Nat}{s:oy}(h:i<l.length)(hb:s.bad=false):eP t a ax e (l.drop i) path i s=eP t a ax e (l.drop (i+1)) path (i+1) (jR t a ax e (l.getD i cL) (path++[(i:Int)]) s):=by
 rw[List.drop_eq_getElem_cons h,eP,if_neg (by rw[hb];decide),getD_eq h]
end
end Go.Proofs.YtgbggaddpbghfaaGreat
namespace Go.Proofs.YtgbggaddpbghfaaGreat
open Go Go.KA Go.Proofs
set_option maxHeartbeats 16000000
set_option maxRecDepth 100000
structure yZ(q:bT):Prop where
 l:Tree 3 4 q.left
 r:Tree 3 4 q.right
 bl:aj q.left≤200
 br:aj q.right≤200
theorem L3:(iD.all fun q=>dK 3 4 q.left&&dK 3 4 q.right&&Nat.ble (aj q.left) 200&&Nat.ble (aj q.right) 200)=true:=by kernel_rfl
theorem Dp:∀q∈iD,yZ q:=fun q hq=>by
 have h:=List.all_eq_true.1 L3 q hq
 simp only[Bool.and_eq_true] at h
 exact⟨gD _ h.1.1.1,gD _ h.1.1.2,Nat.le_of_ble_eq_true h.1.2,Nat.le_of_ble_eq_true h.2⟩
end Go.Proofs.YtgbggaddpbghfaaGreat
namespace Go.Proofs.YtgbggaddpbghfaaGreat
open Go Go.KA Go.Proofs
set_option maxHeartbeats 16000000
set_option maxRecDepth 100000
section
variable{t a:Int}{ax:List bT}{e:ae}{k n:Int}{ks:List ae}{path:List Int}{s:oy}
 (hal:ax.length≤1000)(hpl:path.length≤1000000)(hsl:s.out.length≤300)
 (hf:∀u,u<ax.length→∀z:oy,z.out.length≤300→ah Tryz.prog 219 [.c (.op (r9 t a ax e z)), .c (.ro 1 (path.map eI)), .c (.rp 3 (aI (.mk k n ks))),I (u:Nat),B false] [some [.op (r9 t a ax e (sa z (vF t a e u false (ax.getD u Pc).left (ax.getD u Pc).right path (.mk k n ks))))]] (.tup []))
 (ht:∀u,u<ax.length→∀z:oy,z.out.length≤300→ah Tryz.prog 219 [.c (.op (r9 t a ax e z)), .c (.ro 1 (path.map eI)), .c (.rp 3 (aI (.mk k n ks))),I (u:Nat),B true] [some [.op (r9 t a ax e (sa z (vF t a e u true (ax.getD u Pc).right (ax.getD u Pc).left path (.mk k n ks))))]] (.tup []))
 (ih:∀i,i<ks.length→∀z:oy,z.out.length≤300→ah Tryz.prog 211 [.c (.op (r9 t a ax e z)), .c (.ows 2 1 (path.map eI++[[J (i:Nat)]])), .c (.rp 3 (aI (ks.getD i cL)))] [some [.op (r9 t a ax e (jR t a ax e (ks.getD i cL) (path++[(i:Int)]) z))]] (.tup []))
include hal hpl hsl hf ht ih
theorem CT:ah Tryz.prog 211 [.c (.op (r9 t a ax e s)), .c (.ro 1 (path.map eI)), .c (.rp 3 (aI (.mk k n ks)))] [some [.op (r9 t a ax e (jR t a ax e (.mk k n ks) path s))]] (.tup []):=by
 rw[jR]
 obtain⟨S1,hS1⟩:∃S,rr t a ax e path (.mk k n ks) ax.length 0 s=S:=⟨_,rfl⟩
 rw[hS1]
 obtain⟨S2,hS2⟩:∃S,eP t a ax e ks path 0 S1=S:=⟨_,rfl⟩
 rw[hS2]
 have e0:aI (.mk k n ks)=[J k,J n, .ro 3 (ks.map ag)]:=rfl
 rw[e0] at hf ht⊢
 have cw:ah Tryz.prog 133 [.c (.ro 1 (path.map eI))] [] (.c (.ows 2 1 (path.map eI))):=iS path (by omega)
 refine cX Tryz.func211 (h:= ?_)
 repeat'((conv=>whnf);first
  |(guard_target=aq _ _;(have g:=‹y.bad=true›);(obtain rfl:S2=y:=hY.2.1.symm.trans (Mz t a ax e g));exact aq.mk rfl ⟨rfl,trivial⟩)|(guard_target=aq _ _;(have g:=‹¬((j:Nat):Int)<(ks.length:Nat)›);(obtain rfl:S2=y:=hY.2.1.symm.trans (Ma t a ax e (by omega)));exact aq.mk rfl ⟨rfl,trivial⟩)|(guard_target=~ aK 1 _ _ _ _ _ _;refine l8 (oy × Nat) [0,1,2] (fun⟨z,i⟩=>[(6,I (i:Nat))]) (fun⟨z,i⟩=>[(0, .aG none 156 5 (z.out.map aW)),(1, .cells [.c (J t), .c (J a), .c (.ro 6 (ax.map aU)), .c (.rp 3 (aI e)), .lw 0, .c (.val (.bool z.bad))])]) (fun⟨z,i⟩=>i≤ax.length∧rr t a ax e path (.mk k n ks) (ax.length-i) i z=S1∧z.out.length≤300) (fun⟨z,i⟩=>ax.length-i) (s,0) (by exact⟨Nat.zero_le _,hS1,hsl⟩) (fun A ha=> ?_);obtain⟨z,i⟩:=A;have ha:i≤ax.length∧rr t a ax e path (.mk k n ks) (ax.length-i) i z=S1∧z.out.length≤300:=ha;(have hZ:=ha))|(guard_target=~ aK 6 _ _ _ _ _ _;refine l8 (oy × Nat) [0,1,2] (fun⟨y,j⟩=>[(7,I (j:Nat))]) (fun⟨y,j⟩=>[(0, .aG none 156 5 (y.out.map aW)),(1, .cells [.c (J t), .c (J a), .c (.ro 6 (ax.map aU)), .c (.rp 3 (aI e)), .lw 0, .c (.val (.bool y.bad))])]) (fun⟨y,j⟩=>j≤ks.length∧eP t a ax e (ks.drop j) path j y=S2∧y.out.length≤300) (fun⟨y,j⟩=>ks.length-j) (z,0) (by exact⟨Nat.zero_le _,(congrArg (eP t a ax e ks path 0) ((Mk t a ax e ‹z.bad=true›).symm.trans hZ.2.1)).trans hS2,hZ.2.2⟩) (fun A ha=> ?_);obtain⟨y,j⟩:=A;have ha:j≤ks.length∧eP t a ax e (ks.drop j) path j y=S2∧y.out.length≤300:=ha;(have hY:=ha))|(guard_target=~ aK 6 _ _ _ _ _ _;refine l8 (oy × Nat) [0,1,2] (fun⟨y,j⟩=>[(7,I (j:Nat))]) (fun⟨y,j⟩=>[(0, .aG none 156 5 (y.out.map aW)),(1, .cells [.c (J t), .c (J a), .c (.ro 6 (ax.map aU)), .c (.rp 3 (aI e)), .lw 0, .c (.val (.bool y.bad))])]) (fun⟨y,j⟩=>j≤ks.length∧eP t a ax e (ks.drop j) path j y=S2∧y.out.length≤300) (fun⟨y,j⟩=>ks.length-j) (z,0) (by exact⟨Nat.zero_le _,(congrArg (eP t a ax e ks path 0) ((Nl t a ax e (by omega)).symm.trans hZ.2.1)).trans hS2,hZ.2.2⟩) (fun A ha=> ?_);obtain⟨y,j⟩:=A;have ha:j≤ks.length∧eP t a ax e (ks.drop j) path j y=S2∧y.out.length≤300:=ha;(have hY:=ha))
  |refine rL ((LG t a ax e path (.mk k n ks) i z,i+1):oy × Nat) (by exact⟨by show i+1≤_;omega,(On t a ax e (by omega) ‹z.bad=false›).symm.trans hZ.2.1,pw (pw hZ.2.2 _) _⟩)
  |refine rL ((jR t a ax e (ks.getD j cL) (path++[(j:Int)]) y,j+1):oy × Nat) (by exact⟨by show j+1≤_;omega,(Og t a ax e (by omega) ‹y.bad=false›).symm.trans hY.2.1,q8 t a ax e _ _ _ hY.2.2⟩)
  |(apply Fact.mk;intro hL;try simp only[List.length_map,maxLen] at hL)
  |((first|apply bA|apply bB|apply bC|apply bD|apply bE|apply bF)<;>intro h<;>(try simp only[List.length_map] at h)<;>(try omega)<;>(try contradiction))|(guard_target=aa _ 219 _ _ _ _;refine cG [true,false,false,false,false] rfl (hf i (by omega) z hZ.2.2) ?_)|(guard_target=aa _ 219 _ _ _ _;refine cG [true,false,false,false,false] rfl (ht i (by omega) _ (pw hZ.2.2 _)) ?_)|(guard_target=aa _ 211 _ _ _ _;refine cG [true,true,false] rfl (ih j (by omega) y hY.2.2) ?_)|(guard_target=aa _ 133 _ _ _ _;refine cG [] rfl (cw) ?_)
  |refine aR ?_|(guard_target=Index _ _ _;first|(refine Index.mk _ (kh (l:=ks) (i:=j) (by omega)) ?_)|fail)
  |refine nB ?_|(guard_target=aV _ _;refine aV.mk (by first|((simp only[List.length_map,List.length_cons,List.length_nil,maxLen];constructor<;>omega))|fail) ?_)
  |refine nO ?_)
 all_goals first|rfl|trivial
end
theorem zo{t a:Int}(hs:bO t a=true){ax:List bT}{e:ae}(hq:∀q∈ax,yZ q)(hal:ax.length≤1000)(be:aj e≤200)(node:ae)(bn:aj node≤200)(path:List Int)(bp:path.length+gZ node≤1000000)(s:oy)(bs:s.out.length≤300):
 ah Tryz.prog 211 [.c (.op (r9 t a ax e s)), .c (.ro 1 (path.map eI)), .c (.rp 3 (aI node))] [some [.op (r9 t a ax e (jR t a ax e node path s))]] (.tup []):=by
 have hg:∀u,u<ax.length→yZ (ax.getD u Pc):=fun u hu=>hq _ (by rw[getD_eq hu];exact List.getElem_mem hu)
 have hx:∀u,u<ax.length→(ax.map aU)[((u:Nat):Int).toNat]? =some (aU (ax.getD u Pc)):=fun u hu=>aF (i:=u) hu
 obtain⟨k,n,ks,hnode⟩:∃k n ks,node= .mk k n ks:=by cases node;exact⟨_,_,_,rfl⟩
 rw[hnode] at bn bp⊢
 refine CT hal (by omega) bs (fun u hu z hz=>EC hs ax path z (hx u hu) (hg u hu).l (hg u hu).r (hg u hu).bl (hg u hu).br be bn (by omega) hz) (fun u hu z hz=>HP hs ax path z (hx u hu) (hg u hu).l (hg u hu).r (hg u hu).bl (hg u hu).br be bn (by omega) hz) fun i hi z hz=> ?_
 have hm:ks.getD i cL∈ks:=by rw[getD_eq hi];exact List.getElem_mem hi
 have hk:=vK (e:= .mk k n ks) hm
 have h:=zo hs hq hal be (ks.getD i cL) (by simp only[gZ] at hk;omega) (path++[(i:Int)]) (by simp only[List.length_append,List.length_cons,List.length_nil];omega) z hz
 rw[List.map_append] at h
 exact h.Fc (.same (.c (.same .nil)))
termination_by SizeOf.sizeOf node
decreasing_by
 have:=List.sizeOf_lt_of_mem hm
 rw[hnode]
 simp only[ae.mk.sizeOf_spec]
 omega
theorem Ka{t a:Int}(hs:bO t a=true)(e:ae)(be:aj e≤200):ah Tryz.prog 192 [.a 2 [J t,J a], .c (.rp 3 (aI e))] [] (.tup [.c (.own 156 5 ((l4 t a iD e).out.map aW)),B (!(l4 t a iD e).bad)]):=by
 have c1:ah Tryz.prog 210 [] [] (.c (.ro 6 (iD.map aU))):=Ia.soft (.v (.c (.ro .nil)))
 have c2:=zo hs (e:=e) Dp (by rw[vU];decide) be e be [] (by simp only[gZ,List.length_nil];omega) ⟨[],false⟩ (by simp)
 have c3:=c2.Fc (.same (.c (x:= .ows 2 1 []) (.same .nil)))
 unfold l4
 generalize jR t a iD e e [] ⟨[],false⟩=F at c3⊢
 generalize iD=Q at c1 c3
 refine cX Tryz.func192 (fun reg_=>match reg_ with|2=>true|_=>false) (h:= ?_)
 repeat'((conv=>whnf);first
  |refine aq.mk ?_ ?_|(guard_target=aa _ 210 _ _ _ _;refine cG [] rfl (c1) ?_)|(guard_target=aa _ 211 _ _ _ _;refine cG [true,true,false] rfl (c3) ?_)|(guard_target=Gh _ _ _ _ _;refine Gh.soft 3 gH.up (Gh.go ?_))
  |refine nB ?_
  |apply iV.go)
 all_goals first|rfl|trivial
end Go.Proofs.YtgbggaddpbghfaaGreat
