/- Contract of the reference's lists of what a pattern has been given, which own their memory. Conditions: bounds of size. -/
import Derived.Test.YtgbggaddpbghfaaGreatKAM
namespace Go.Proofs.YtgbggaddpbghfaaGreat
open Go Go.KA Go.Proofs
set_option maxHeartbeats 16000000
set_option maxRecDepth 100000
theorem ep{l:List ae}{i:Nat}{x:ae}(h:i<l.length)(hx:iG (l.getD i cQ)=x):((l.take i).map iG).map az++[bQ x]=((l.take (i+1)).map iG).map az:=by
 rw[List.take_add_one,List.getElem?_eq_getElem h,Option.toList,List.map_append,List.map_append,←hx,getD_eq h,List.map_cons,List.map_nil,List.map_cons,List.map_nil,dw]
theorem kX(x:ae)(hb:ao x≤1048576)(sz:Nat)(hs:3≤sz)(l:List CV):ai Tryz.prog 137 [.c (.rp sz (aI x++l))] [] (.a 3 (bQ x)):=oB x hb l sz hs
section
variable(a b c d e f g:ae)(b0:ao a≤1048576)(b1:ao b≤1048576)(b2:ao c≤1048576)(b3:ao d≤1048576)(b4:ao e≤1048576)(b5:ao f≤1048576)(b6:ao g≤1048576)
include b0 b1 b2 b3 b4 b5 b6
theorem y1(t u:Nat)(ht:t≤3)(hu:u≤4):ai Tryz.prog 225 [.c (.rp 21 (lW a b c d e f g)),I (t:Nat),I (u:Nat)] [] (.tup [.c (.own 66 3 ((([a,b,c].take t).map iG).map az)), .c (.own 66 3 ((([d,e,f,g].take u).map iG).map az))]):=by
 refine cX Tryz.func225 (h:= ?_)
 repeat'((conv=>whnf);first
  |(guard_target=aa _ 137 _ _ _ _;(have _:=j);(rcases j with _|_|_|_|j)<;>(try omega))|(guard_target=aa _ 137 _ _ _ _;(have _:=‹((i:Nat):Int)<((t:Nat):Int)›);(rcases i with _|_|_|i)<;>(try omega))|(guard_target=ah _ _;(have h1:es=(([a,b,c].take t).map iG).map az:=(by rw[hE1,show i=t by omega]));(have h2:fs=(([d,e,f,g].take u).map iG).map az:=(by rw[ha.2,show j=u by omega]));exact ah.mk (by rw[h1,h2]) trivial)
  |refine ah.mk ?_ ?_|(guard_target=~ aP 4 _ _ _ _ _ _;refine lX (Nat × List (List CV)) [0,1,2,9] (fun⟨i,es⟩=>[(8, .lw 2),(10,I (i:Nat))]) (fun⟨i,es⟩=>[(2, .aG none 66 3 es)]) (fun⟨i,es⟩=>i≤t∧es=(([a,b,c].take i).map iG).map az) (fun⟨i,es⟩=>t-i) (0,[]) (by exact⟨Nat.zero_le _,rfl⟩) (fun A ha=> ?_);obtain⟨i,es⟩:=A;have ha:i≤t∧es=(([a,b,c].take i).map iG).map az:=ha;(have hi1:=ha.1);(have hE1:=ha.2);(have hl1:es.length≤3:=by rw[ha.2,List.length_map,List.length_map,List.length_take];exact Nat.min_le_right _ _))|(guard_target=~ aP 11 _ _ _ _ _ _;refine lX (Nat × List (List CV)) [0,2,8] (fun⟨j,fs⟩=>[(9, .lw 3),(12,I (j:Nat))]) (fun⟨j,fs⟩=>[(3, .aG none 66 3 fs)]) (fun⟨j,fs⟩=>j≤u∧fs=(([d,e,f,g].take j).map iG).map az) (fun⟨j,fs⟩=>u-j) (0,[]) (by exact⟨Nat.zero_le _,rfl⟩) (fun A ha=> ?_);obtain⟨j,fs⟩:=A;have ha:j≤u∧fs=(([d,e,f,g].take j).map iG).map az:=ha;(have hi2:=ha.1);(have hl2:fs.length≤4:=by rw[ha.2,List.length_map,List.length_map,List.length_take];exact Nat.min_le_right _ _))
  |refine qJ ((1,es++[bQ a]):Nat × List (List CV)) (by exact⟨by show 1≤t;omega,(congrArg (· ++[_]) ha.2).trans (ep (l:=[a,b,c]) (i:=0) (by show 0<3;omega) (nD h))⟩)
  |refine qJ ((1,es++[bQ (.mk 2 0 [])]):Nat × List (List CV)) (by exact⟨by show 1≤t;omega,(congrArg (· ++[_]) ha.2).trans (ep (l:=[a,b,c]) (i:=0) (by show 0<3;omega) (lV h))⟩)
  |refine qJ ((2,es++[bQ b]):Nat × List (List CV)) (by exact⟨by show 2≤t;omega,(congrArg (· ++[_]) ha.2).trans (ep (l:=[a,b,c]) (i:=1) (by show 1<3;omega) (nD h))⟩)
  |refine qJ ((2,es++[bQ (.mk 2 0 [])]):Nat × List (List CV)) (by exact⟨by show 2≤t;omega,(congrArg (· ++[_]) ha.2).trans (ep (l:=[a,b,c]) (i:=1) (by show 1<3;omega) (lV h))⟩)
  |refine qJ ((3,es++[bQ c]):Nat × List (List CV)) (by exact⟨by show 3≤t;omega,(congrArg (· ++[_]) ha.2).trans (ep (l:=[a,b,c]) (i:=2) (by show 2<3;omega) (nD h))⟩)
  |refine qJ ((3,es++[bQ (.mk 2 0 [])]):Nat × List (List CV)) (by exact⟨by show 3≤t;omega,(congrArg (· ++[_]) ha.2).trans (ep (l:=[a,b,c]) (i:=2) (by show 2<3;omega) (lV h))⟩)
  |refine qJ ((1,fs++[bQ d]):Nat × List (List CV)) (by exact⟨by show 1≤u;omega,(congrArg (· ++[_]) ha.2).trans (ep (l:=[d,e,f,g]) (i:=0) (by show 0<4;omega) (nD h))⟩)
  |refine qJ ((1,fs++[bQ (.mk 2 0 [])]):Nat × List (List CV)) (by exact⟨by show 1≤u;omega,(congrArg (· ++[_]) ha.2).trans (ep (l:=[d,e,f,g]) (i:=0) (by show 0<4;omega) (lV h))⟩)
  |refine qJ ((2,fs++[bQ e]):Nat × List (List CV)) (by exact⟨by show 2≤u;omega,(congrArg (· ++[_]) ha.2).trans (ep (l:=[d,e,f,g]) (i:=1) (by show 1<4;omega) (nD h))⟩)
  |refine qJ ((2,fs++[bQ (.mk 2 0 [])]):Nat × List (List CV)) (by exact⟨by show 2≤u;omega,(congrArg (· ++[_]) ha.2).trans (ep (l:=[d,e,f,g]) (i:=1) (by show 1<4;omega) (lV h))⟩)
  |refine qJ ((3,fs++[bQ f]):Nat × List (List CV)) (by exact⟨by show 3≤u;omega,(congrArg (· ++[_]) ha.2).trans (ep (l:=[d,e,f,g]) (i:=2) (by show 2<4;omega) (nD h))⟩)
  |refine qJ ((3,fs++[bQ (.mk 2 0 [])]):Nat × List (List CV)) (by exact⟨by show 3≤u;omega,(congrArg (· ++[_]) ha.2).trans (ep (l:=[d,e,f,g]) (i:=2) (by show 2<4;omega) (lV h))⟩)
  |refine qJ ((4,fs++[bQ g]):Nat × List (List CV)) (by exact⟨by show 4≤u;omega,(congrArg (· ++[_]) ha.2).trans (ep (l:=[d,e,f,g]) (i:=3) (by show 3<4;omega) (nD h))⟩)
  |refine qJ ((4,fs++[bQ (.mk 2 0 [])]):Nat × List (List CV)) (by exact⟨by show 4≤u;omega,(congrArg (· ++[_]) ha.2).trans (ep (l:=[d,e,f,g]) (i:=3) (by show 3<4;omega) (lV h))⟩)
  |(apply Fact.mk;intro hL;try simp only[List.length_map,maxLen] at hL)
  |((first|apply bA|apply bB|apply bC|apply bD|apply bE|apply bF)<;>intro h<;>(try simp only[List.length_map] at h)<;>(try omega)<;>(try contradiction))|(guard_target=aa _ 137 _ _ _ _;refine cG [] rfl (kX a b0 21 (by decide) [J b.kind,J b.num, .ro 3 (b.kids.map af),J c.kind,J c.num, .ro 3 (c.kids.map af),J d.kind,J d.num, .ro 3 (d.kids.map af),J e.kind,J e.num, .ro 3 (e.kids.map af),J f.kind,J f.num, .ro 3 (f.kids.map af),J g.kind,J g.num, .ro 3 (g.kids.map af)]) ?_)|(guard_target=aa _ 137 _ _ _ _;refine cG [] rfl (kX b b1 18 (by decide) [J c.kind,J c.num, .ro 3 (c.kids.map af),J d.kind,J d.num, .ro 3 (d.kids.map af),J e.kind,J e.num, .ro 3 (e.kids.map af),J f.kind,J f.num, .ro 3 (f.kids.map af),J g.kind,J g.num, .ro 3 (g.kids.map af)]) ?_)|(guard_target=aa _ 137 _ _ _ _;refine cG [] rfl (kX c b2 15 (by decide) [J d.kind,J d.num, .ro 3 (d.kids.map af),J e.kind,J e.num, .ro 3 (e.kids.map af),J f.kind,J f.num, .ro 3 (f.kids.map af),J g.kind,J g.num, .ro 3 (g.kids.map af)]) ?_)|(guard_target=aa _ 137 _ _ _ _;refine cG [] rfl (kX d b3 12 (by decide) [J e.kind,J e.num, .ro 3 (e.kids.map af),J f.kind,J f.num, .ro 3 (f.kids.map af),J g.kind,J g.num, .ro 3 (g.kids.map af)]) ?_)|(guard_target=aa _ 137 _ _ _ _;refine cG [] rfl (kX e b4 9 (by decide) [J f.kind,J f.num, .ro 3 (f.kids.map af),J g.kind,J g.num, .ro 3 (g.kids.map af)]) ?_)|(guard_target=aa _ 137 _ _ _ _;refine cG [] rfl (kX f b5 6 (by decide) [J g.kind,J g.num, .ro 3 (g.kids.map af)]) ?_)|(guard_target=aa _ 137 _ _ _ _;refine cG [] rfl (kX g b6 3 (by decide) []) ?_)|(guard_target=aa _ 190 _ _ _ _;refine cG [] rfl (vC) ?_)
  |refine aR ?_
  |refine iX (k:= ?_)
  |refine nB ?_
  |apply ay.no
  |apply cj.go|(guard_target=aQ _ _;refine aQ.mk (by first|((simp only[List.length_map,List.length_cons,List.length_nil,maxLen];constructor<;>omega))|fail) ?_)
  |refine nO ?_)
 all_goals first|rfl|trivial
end
end Go.Proofs.YtgbggaddpbghfaaGreat
namespace Go.Proofs.YtgbggaddpbghfaaGreat
open Go Go.KA Go.Proofs
set_option maxHeartbeats 16000000
set_option maxRecDepth 100000
def jc(l:List ae)(o:Nat→Bool)(j:Nat):Bool:=decide ((l.getD j cQ).kind=0)&&o j
theorem mw{l:List ae}{o:Nat→Bool}{j:Nat}(h:¬(l.getD j cQ).kind=0):jc l o j=false:=by unfold jc;rw[decide_eq_false h];rfl
theorem jj{l:List ae}{o:Nat→Bool}{j:Nat}(h:o j=false):jc l o j=false:=by unfold jc;rw[h,Bool.and_false]
theorem l5{l:List ae}{o:Nat→Bool}{j:Nat}(h:(l.getD j cQ).kind=0)(k:o j=true):jc l o j=true:=by unfold jc;rw[decide_eq_true h,k];rfl
theorem dv{l:List ae}{o:Nat→Bool}{i:Nat}(h:∀j,j<i→jc l o j=false)(k:jc l o i=false):∀j,j<i+1→jc l o j=false:=fun j hj=>by
 rcases Nat.lt_succ_iff_lt_or_eq.1 hj with h1|rfl
 ·exact h j h1
 ·exact k
abbrev Lk:List CV:=[J 0,J 0, .ows 66 3 [],J 0,J 0, .ows 66 3 [],J 0,J 0, .ows 66 3 [],J 0,J 0, .ows 66 3 [],J 0,J 0, .ows 66 3 [],J 0,J 0, .ows 66 3 [],J 0,J 0, .ows 66 3 []]
end Go.Proofs.YtgbggaddpbghfaaGreat
namespace Go.Proofs.YtgbggaddpbghfaaGreat
open Go Go.KA Go.Proofs
set_option maxHeartbeats 16000000
set_option maxRecDepth 100000
abbrev KU(t a:Int)(ax:List bX)(e:ae)(out:List (List CV))(bc:CV):List CV:=[J t,J a, .ro 6 (ax.map aV), .rp 3 (aI e), .own 156 5 out,bc]
theorem kg{n:Nat}{cs:List CV}{c:CV}(h:j8 (.a n cs))(hc:im c:=by trivial):j8 (.tup [.a n cs, .c c]):=by
 intro s hs
 simp only[List.mem_cons,List.not_mem_nil,or_false] at hs
 rcases hs with rfl|rfl
 ·exact h
 ·exact hc
theorem Dj:j8 (.a 3 [.any, .any, .any]):=by
 intro s hs
 simp only[List.mem_cons,List.not_mem_nil,or_false,or_self] at hs
 subst hs
 trivial
section
variable{t a:Int}{ax:List bX}{e node L R p0 p1 p2 q0 q1 q2 q3 S:ae}{path:List Int}{u:Nat}{out out':List (List CV)}{bad fb sb:Bool}{bc:CV}{o3 o4:Nat→Bool}{m3 m4 n3 n4 code:Int}{ts us:List (List CV)}
 (hix:(ax.map aV)[((u:Nat):Int).toNat]? =some [J L.kind,J L.num, .ro 3 (L.kids.map af),J R.kind,J R.num, .ro 3 (R.kids.map af)])
 (cw:ai Tryz.prog 133 [.c (.ro 1 (path.map eI))] [] (.c (.ows 2 1 (path.map eI))))
 (ol:out.length≤300)
include hix cw ol
theorem Fa
 (cf:ai Tryz.prog 223 [.c (.op Lk),(.c (.rp 6 [J L.kind,J L.num, .ro 3 (L.kids.map af),J R.kind,J R.num, .ro 3 (R.kids.map af)])), .c (.rp 3 (aI node))] [some [.op (lW p0 p1 p2 q0 q1 q2 q3)]] (B fb))
 (ct:ai Tryz.prog 208 [(.c (.rp 3 [J R.kind,J R.num, .ro 3 (R.kids.map af)])), .c (.op [J 0]), .c (.op [J 0])] [none,some [.op [J m3]],some [.op [J m4]]] (.tup []))
 (c3:∀j:Nat,aE Tryz.prog 224 [(.c (.rp 3 [J R.kind,J R.num, .ro 3 (R.kids.map af)])),I 3,I (j:Nat)] (B (o3 j)))
 (c4:∀j:Nat,aE Tryz.prog 224 [(.c (.rp 3 [J R.kind,J R.num, .ro 3 (R.kids.map af)])),I 4,I (j:Nat)] (B (o4 j)))
 (cu:ai Tryz.prog 208 [(.c (.rp 6 [J L.kind,J L.num, .ro 3 (L.kids.map af),J R.kind,J R.num, .ro 3 (R.kids.map af)])), .c (.op [J m3]), .c (.op [J m4])] [none,some [.op [J n3]],some [.op [J n4]]] (.tup []))
 (cl:ai Tryz.prog 225 [.c (.rp 21 (lW p0 p1 p2 q0 q1 q2 q3)),I n3,I n4] [] (.tup [.c (.own 66 3 ts), .c (.own 66 3 us)]))
 (pl:j8 (.tup [.c (.own 66 3 ts), .c (.own 66 3 us)]))
 (cs:ai Tryz.prog 168 [.a 2 [J t,J a],(.c (.rp 3 [J R.kind,J R.num, .ro 3 (R.kids.map af)])), .c (.ro 3 (db ts)), .c (.ro 3 (db us))] [] (.tup [.a 3 (bQ S),B sb]))
 (cr:ai Tryz.prog 198 [.a 2 [J t,J a], .c (.rp 3 (aI e)), .c (.ro 1 (path.map eI)), .c (.rp 3 [J S.kind,J S.num, .ro 3 (db (S.kids.map az))])] [] (.tup [.a 3 [.any, .any, .any],I code]))
 (e1:fb=false→out'=out∧bc= .val (.bool bad))
 (e2:fb=true→∀j,j<3→jc [p0,p1,p2] o3 j=true→out'=out∧bc= .val (.bool bad))
 (e3:fb=true→∀j,j<4→jc [q0,q1,q2,q3] o4 j=true→out'=out∧bc= .val (.bool bad))
 (e4:fb=true→(∀j,j<3→jc [p0,p1,p2] o3 j=false)→(∀j,j<4→jc [q0,q1,q2,q3] o4 j=false)→sb=false→out'=out∧bc= .val (.bool bad))
 (e5:fb=true→(∀j,j<3→jc [p0,p1,p2] o3 j=false)→(∀j,j<4→jc [q0,q1,q2,q3] o4 j=false)→sb=true→¬code=0→out'=out∧bc= .val (.bool bad))
 (e6:fb=true→(∀j,j<3→jc [p0,p1,p2] o3 j=false)→(∀j,j<4→jc [q0,q1,q2,q3] o4 j=false)→sb=true→code=0→((out.length:Nat):Int)≥300→out'=out∧bc= .val (.bool true))
 (e7:fb=true→(∀j,j<3→jc [p0,p1,p2] o3 j=false)→(∀j,j<4→jc [q0,q1,q2,q3] o4 j=false)→sb=true→code=0→¬((out.length:Nat):Int)≥300→out'=out++[[J u, .val (.bool false), .ows 2 1 (path.map eI), .own 66 3 ts, .own 66 3 us]]∧bc= .val (.bool bad)):
 ai Tryz.prog 219 [.c (.op (KU t a ax e out (.val (.bool bad)))), .c (.ro 1 (path.map eI)), .c (.rp 3 (aI node)),I (u:Nat),B false] [some [.op (KU t a ax e out' bc)]] (.tup []):=by
 refine cX Tryz.func219 (h:= ?_)
 repeat'((conv=>whnf);first
  |(guard_target=ah _ _;(have g0:=‹fb=false›);(obtain⟨rfl,rfl⟩:=e1 g0);exact ah.mk rfl ⟨rfl,trivial⟩)|(guard_target=ah _ _;(have g0:=‹fb=true›);(have g1:=‹p0.kind=0›);(have g2:=‹o3 0=true›);(obtain⟨rfl,rfl⟩:=e2 g0 0 (by decide) (l5 (l:=[p0,p1,p2]) g1 g2));exact ah.mk rfl ⟨rfl,trivial⟩)|(guard_target=ah _ _;(have g0:=‹fb=true›);(have g1:=‹p1.kind=0›);(have g2:=‹o3 1=true›);(obtain⟨rfl,rfl⟩:=e2 g0 1 (by decide) (l5 (l:=[p0,p1,p2]) g1 g2));exact ah.mk rfl ⟨rfl,trivial⟩)|(guard_target=ah _ _;(have g0:=‹fb=true›);(have g1:=‹p2.kind=0›);(have g2:=‹o3 2=true›);(obtain⟨rfl,rfl⟩:=e2 g0 2 (by decide) (l5 (l:=[p0,p1,p2]) g1 g2));exact ah.mk rfl ⟨rfl,trivial⟩)|(guard_target=ah _ _;(have g0:=‹fb=true›);(have g1:=‹q0.kind=0›);(have g2:=‹o4 0=true›);(obtain⟨rfl,rfl⟩:=e3 g0 0 (by decide) (l5 (l:=[q0,q1,q2,q3]) g1 g2));exact ah.mk rfl ⟨rfl,trivial⟩)|(guard_target=ah _ _;(have g0:=‹fb=true›);(have g1:=‹q1.kind=0›);(have g2:=‹o4 1=true›);(obtain⟨rfl,rfl⟩:=e3 g0 1 (by decide) (l5 (l:=[q0,q1,q2,q3]) g1 g2));exact ah.mk rfl ⟨rfl,trivial⟩)|(guard_target=ah _ _;(have g0:=‹fb=true›);(have g1:=‹q2.kind=0›);(have g2:=‹o4 2=true›);(obtain⟨rfl,rfl⟩:=e3 g0 2 (by decide) (l5 (l:=[q0,q1,q2,q3]) g1 g2));exact ah.mk rfl ⟨rfl,trivial⟩)|(guard_target=ah _ _;(have g0:=‹fb=true›);(have g1:=‹q3.kind=0›);(have g2:=‹o4 3=true›);(obtain⟨rfl,rfl⟩:=e3 g0 3 (by decide) (l5 (l:=[q0,q1,q2,q3]) g1 g2));exact ah.mk rfl ⟨rfl,trivial⟩)|(guard_target=ah _ _;(have g0:=‹fb=true›);(have g1:=‹sb=false›);(have hA3:∀j,j<3→jc [p0,p1,p2] o3 j=false:=fun j hj=>hA.2 j (by omega));(have hB4:∀j,j<4→jc [q0,q1,q2,q3] o4 j=false:=fun j hj=>hB.2 j (by omega));(obtain⟨rfl,rfl⟩:=e4 g0 hA3 hB4 g1);exact ah.mk rfl ⟨rfl,trivial⟩)|(guard_target=ah _ _;(have g0:=‹fb=true›);(have g1:=‹sb=true›);(have g2:=‹¬code=0›);(have hA3:∀j,j<3→jc [p0,p1,p2] o3 j=false:=fun j hj=>hA.2 j (by omega));(have hB4:∀j,j<4→jc [q0,q1,q2,q3] o4 j=false:=fun j hj=>hB.2 j (by omega));(obtain⟨rfl,rfl⟩:=e5 g0 hA3 hB4 g1 g2);exact ah.mk rfl ⟨rfl,trivial⟩)|(guard_target=ah _ _;(have g0:=‹fb=true›);(have g1:=‹sb=true›);(have g2:=‹code=0›);(have g3:=‹((out.length:Nat):Int)≥300›);(have hA3:∀j,j<3→jc [p0,p1,p2] o3 j=false:=fun j hj=>hA.2 j (by omega));(have hB4:∀j,j<4→jc [q0,q1,q2,q3] o4 j=false:=fun j hj=>hB.2 j (by omega));(obtain⟨rfl,rfl⟩:=e6 g0 hA3 hB4 g1 g2 g3);exact ah.mk rfl ⟨rfl,trivial⟩)|(guard_target=ah _ _;(have g0:=‹fb=true›);(have g1:=‹sb=true›);(have g2:=‹code=0›);(have g3:=‹¬((out.length:Nat):Int)≥300›);(have hA3:∀j,j<3→jc [p0,p1,p2] o3 j=false:=fun j hj=>hA.2 j (by omega));(have hB4:∀j,j<4→jc [q0,q1,q2,q3] o4 j=false:=fun j hj=>hB.2 j (by omega));(obtain⟨rfl,rfl⟩:=e7 g0 hA3 hB4 g1 g2 g3);exact ah.mk rfl ⟨rfl,trivial⟩)
  |refine ah.mk ?_ ?_|(guard_target=~ aP 12 _ _ _ _ _ _;refine lp (Nat) [0,1,3,4,11,12,13,14,15] (fun i=>[(16,I (i:Nat))]) (fun i=>i≤3∧∀j,j<i→jc [p0,p1,p2] o3 j=false) (fun i=>3-i) 0 (by exact⟨by decide,fun j hj=>by omega⟩) (fun i ha=> ?_);(have hA:=ha);(rcases i with _|_|_|i))|(guard_target=~ aP 16 _ _ _ _ _ _;refine lp (Nat) [0,1,3,4,11,12,13,14,15] (fun i=>[(17,I (i:Nat))]) (fun i=>i≤4∧∀j,j<i→jc [q0,q1,q2,q3] o4 j=false) (fun i=>4-i) 0 (by exact⟨by decide,fun j hj=>by omega⟩) (fun i ha=> ?_);(have hB:=ha);(rcases i with _|_|_|_|i))
  |refine nx (1:Nat) (by exact⟨by decide,dv (i:=0) hA.2 (mw (l:=[p0,p1,p2]) ‹¬p0.kind=0›)⟩)
  |refine nx (1:Nat) (by exact⟨by decide,dv (i:=0) hA.2 (jj (j:=0) ‹o3 0=false›)⟩)
  |refine nx (2:Nat) (by exact⟨by decide,dv (i:=1) hA.2 (mw (l:=[p0,p1,p2]) ‹¬p1.kind=0›)⟩)
  |refine nx (2:Nat) (by exact⟨by decide,dv (i:=1) hA.2 (jj (j:=1) ‹o3 1=false›)⟩)
  |refine nx (3:Nat) (by exact⟨by decide,dv (i:=2) hA.2 (mw (l:=[p0,p1,p2]) ‹¬p2.kind=0›)⟩)
  |refine nx (3:Nat) (by exact⟨by decide,dv (i:=2) hA.2 (jj (j:=2) ‹o3 2=false›)⟩)
  |refine nx (1:Nat) (by exact⟨by decide,dv (i:=0) hB.2 (mw (l:=[q0,q1,q2,q3]) ‹¬q0.kind=0›)⟩)
  |refine nx (1:Nat) (by exact⟨by decide,dv (i:=0) hB.2 (jj (j:=0) ‹o4 0=false›)⟩)
  |refine nx (2:Nat) (by exact⟨by decide,dv (i:=1) hB.2 (mw (l:=[q0,q1,q2,q3]) ‹¬q1.kind=0›)⟩)
  |refine nx (2:Nat) (by exact⟨by decide,dv (i:=1) hB.2 (jj (j:=1) ‹o4 1=false›)⟩)
  |refine nx (3:Nat) (by exact⟨by decide,dv (i:=2) hB.2 (mw (l:=[q0,q1,q2,q3]) ‹¬q2.kind=0›)⟩)
  |refine nx (3:Nat) (by exact⟨by decide,dv (i:=2) hB.2 (jj (j:=2) ‹o4 2=false›)⟩)
  |refine nx (4:Nat) (by exact⟨by decide,dv (i:=3) hB.2 (mw (l:=[q0,q1,q2,q3]) ‹¬q3.kind=0›)⟩)
  |refine nx (4:Nat) (by exact⟨by decide,dv (i:=3) hB.2 (jj (j:=3) ‹o4 3=false›)⟩)
  |(apply Fact.mk;intro hL;try simp only[List.length_map,maxLen] at hL)
  |((first|apply bA|apply bB|apply bC|apply bD|apply bE|apply bF)<;>intro h<;>(try simp only[List.length_map] at h)<;>(try omega)<;>(try contradiction))|(guard_target=aa _ 223 _ _ _ _;refine cG [true,false,false] rfl (cf) ?_)|(guard_target=aa _ 208 _ _ _ _;refine cG [false,true,true] rfl (ct) ?_)|(guard_target=aa _ 208 _ _ _ _;refine cG [false,true,true] rfl (cu) ?_)|(guard_target=aa _ 224 _ _ _ _;refine cP rfl (c3 0) ?_)|(guard_target=aa _ 224 _ _ _ _;refine cP rfl (c3 1) ?_)|(guard_target=aa _ 224 _ _ _ _;refine cP rfl (c3 2) ?_)|(guard_target=aa _ 224 _ _ _ _;refine cP rfl (c4 0) ?_)|(guard_target=aa _ 224 _ _ _ _;refine cP rfl (c4 1) ?_)|(guard_target=aa _ 224 _ _ _ _;refine cP rfl (c4 2) ?_)|(guard_target=aa _ 224 _ _ _ _;refine cP rfl (c4 3) ?_)|(guard_target=aa _ 133 _ _ _ _;refine cG [] rfl (cw) ?_)|(guard_target=aa _ 225 _ _ _ _;refine aa.own _ _ rfl cl pl _ rfl ?_)|(guard_target=aa _ 168 _ _ _ _;refine aa.own _ _ rfl cs (kg (gY _)) _ rfl ?_)|(guard_target=aa _ 198 _ _ _ _;refine aa.own _ _ rfl cr (kg Dj) _ rfl ?_)
  |refine aR ?_|(guard_target=Index _ _ _;first|refine Index.mk _ (hix) ?_)
  |refine iX (k:= ?_)
  |refine nB ?_
  |apply ay.no
  |apply cj.go|(guard_target=aQ _ _;refine aQ.mk (by first|((simp only[List.length_cons,List.length_nil,maxLen];constructor<;>omega))|fail) ?_)
  |refine nO ?_)
 all_goals first|rfl|trivial
theorem Ip
 (cf:ai Tryz.prog 223 [.c (.op Lk),(.c (.rp 3 [J R.kind,J R.num, .ro 3 (R.kids.map af)])), .c (.rp 3 (aI node))] [some [.op (lW p0 p1 p2 q0 q1 q2 q3)]] (B fb))
 (ct:ai Tryz.prog 208 [(.c (.rp 6 [J L.kind,J L.num, .ro 3 (L.kids.map af),J R.kind,J R.num, .ro 3 (R.kids.map af)])), .c (.op [J 0]), .c (.op [J 0])] [none,some [.op [J m3]],some [.op [J m4]]] (.tup []))
 (c3:∀j:Nat,aE Tryz.prog 224 [(.c (.rp 6 [J L.kind,J L.num, .ro 3 (L.kids.map af),J R.kind,J R.num, .ro 3 (R.kids.map af)])),I 3,I (j:Nat)] (B (o3 j)))
 (c4:∀j:Nat,aE Tryz.prog 224 [(.c (.rp 6 [J L.kind,J L.num, .ro 3 (L.kids.map af),J R.kind,J R.num, .ro 3 (R.kids.map af)])),I 4,I (j:Nat)] (B (o4 j)))
 (cu:ai Tryz.prog 208 [(.c (.rp 3 [J R.kind,J R.num, .ro 3 (R.kids.map af)])), .c (.op [J m3]), .c (.op [J m4])] [none,some [.op [J n3]],some [.op [J n4]]] (.tup []))
 (cl:ai Tryz.prog 225 [.c (.rp 21 (lW p0 p1 p2 q0 q1 q2 q3)),I n3,I n4] [] (.tup [.c (.own 66 3 ts), .c (.own 66 3 us)]))
 (pl:j8 (.tup [.c (.own 66 3 ts), .c (.own 66 3 us)]))
 (cs:ai Tryz.prog 168 [.a 2 [J t,J a],(.c (.rp 6 [J L.kind,J L.num, .ro 3 (L.kids.map af),J R.kind,J R.num, .ro 3 (R.kids.map af)])), .c (.ro 3 (db ts)), .c (.ro 3 (db us))] [] (.tup [.a 3 (bQ S),B sb]))
 (cr:ai Tryz.prog 198 [.a 2 [J t,J a], .c (.rp 3 (aI e)), .c (.ro 1 (path.map eI)), .c (.rp 3 [J S.kind,J S.num, .ro 3 (db (S.kids.map az))])] [] (.tup [.a 3 [.any, .any, .any],I code]))
 (e1:fb=false→out'=out∧bc= .val (.bool bad))
 (e2:fb=true→∀j,j<3→jc [p0,p1,p2] o3 j=true→out'=out∧bc= .val (.bool bad))
 (e3:fb=true→∀j,j<4→jc [q0,q1,q2,q3] o4 j=true→out'=out∧bc= .val (.bool bad))
 (e4:fb=true→(∀j,j<3→jc [p0,p1,p2] o3 j=false)→(∀j,j<4→jc [q0,q1,q2,q3] o4 j=false)→sb=false→out'=out∧bc= .val (.bool bad))
 (e5:fb=true→(∀j,j<3→jc [p0,p1,p2] o3 j=false)→(∀j,j<4→jc [q0,q1,q2,q3] o4 j=false)→sb=true→¬code=0→out'=out∧bc= .val (.bool bad))
 (e6:fb=true→(∀j,j<3→jc [p0,p1,p2] o3 j=false)→(∀j,j<4→jc [q0,q1,q2,q3] o4 j=false)→sb=true→code=0→((out.length:Nat):Int)≥300→out'=out∧bc= .val (.bool true))
 (e7:fb=true→(∀j,j<3→jc [p0,p1,p2] o3 j=false)→(∀j,j<4→jc [q0,q1,q2,q3] o4 j=false)→sb=true→code=0→¬((out.length:Nat):Int)≥300→out'=out++[[J u, .val (.bool true), .ows 2 1 (path.map eI), .own 66 3 ts, .own 66 3 us]]∧bc= .val (.bool bad)):
 ai Tryz.prog 219 [.c (.op (KU t a ax e out (.val (.bool bad)))), .c (.ro 1 (path.map eI)), .c (.rp 3 (aI node)),I (u:Nat),B true] [some [.op (KU t a ax e out' bc)]] (.tup []):=by
 refine cX Tryz.func219 (h:= ?_)
 repeat'((conv=>whnf);first
  |(guard_target=ah _ _;(have g0:=‹fb=false›);(obtain⟨rfl,rfl⟩:=e1 g0);exact ah.mk rfl ⟨rfl,trivial⟩)|(guard_target=ah _ _;(have g0:=‹fb=true›);(have g1:=‹p0.kind=0›);(have g2:=‹o3 0=true›);(obtain⟨rfl,rfl⟩:=e2 g0 0 (by decide) (l5 (l:=[p0,p1,p2]) g1 g2));exact ah.mk rfl ⟨rfl,trivial⟩)|(guard_target=ah _ _;(have g0:=‹fb=true›);(have g1:=‹p1.kind=0›);(have g2:=‹o3 1=true›);(obtain⟨rfl,rfl⟩:=e2 g0 1 (by decide) (l5 (l:=[p0,p1,p2]) g1 g2));exact ah.mk rfl ⟨rfl,trivial⟩)|(guard_target=ah _ _;(have g0:=‹fb=true›);(have g1:=‹p2.kind=0›);(have g2:=‹o3 2=true›);(obtain⟨rfl,rfl⟩:=e2 g0 2 (by decide) (l5 (l:=[p0,p1,p2]) g1 g2));exact ah.mk rfl ⟨rfl,trivial⟩)|(guard_target=ah _ _;(have g0:=‹fb=true›);(have g1:=‹q0.kind=0›);(have g2:=‹o4 0=true›);(obtain⟨rfl,rfl⟩:=e3 g0 0 (by decide) (l5 (l:=[q0,q1,q2,q3]) g1 g2));exact ah.mk rfl ⟨rfl,trivial⟩)|(guard_target=ah _ _;(have g0:=‹fb=true›);(have g1:=‹q1.kind=0›);(have g2:=‹o4 1=true›);(obtain⟨rfl,rfl⟩:=e3 g0 1 (by decide) (l5 (l:=[q0,q1,q2,q3]) g1 g2));exact ah.mk rfl ⟨rfl,trivial⟩)|(guard_target=ah _ _;(have g0:=‹fb=true›);(have g1:=‹q2.kind=0›);(have g2:=‹o4 2=true›);(obtain⟨rfl,rfl⟩:=e3 g0 2 (by decide) (l5 (l:=[q0,q1,q2,q3]) g1 g2));exact ah.mk rfl ⟨rfl,trivial⟩)|(guard_target=ah _ _;(have g0:=‹fb=true›);(have g1:=‹q3.kind=0›);(have g2:=‹o4 3=true›);(obtain⟨rfl,rfl⟩:=e3 g0 3 (by decide) (l5 (l:=[q0,q1,q2,q3]) g1 g2));exact ah.mk rfl ⟨rfl,trivial⟩)|(guard_target=ah _ _;(have g0:=‹fb=true›);(have g1:=‹sb=false›);(have hA3:∀j,j<3→jc [p0,p1,p2] o3 j=false:=fun j hj=>hA.2 j (by omega));(have hB4:∀j,j<4→jc [q0,q1,q2,q3] o4 j=false:=fun j hj=>hB.2 j (by omega));(obtain⟨rfl,rfl⟩:=e4 g0 hA3 hB4 g1);exact ah.mk rfl ⟨rfl,trivial⟩)|(guard_target=ah _ _;(have g0:=‹fb=true›);(have g1:=‹sb=true›);(have g2:=‹¬code=0›);(have hA3:∀j,j<3→jc [p0,p1,p2] o3 j=false:=fun j hj=>hA.2 j (by omega));(have hB4:∀j,j<4→jc [q0,q1,q2,q3] o4 j=false:=fun j hj=>hB.2 j (by omega));(obtain⟨rfl,rfl⟩:=e5 g0 hA3 hB4 g1 g2);exact ah.mk rfl ⟨rfl,trivial⟩)|(guard_target=ah _ _;(have g0:=‹fb=true›);(have g1:=‹sb=true›);(have g2:=‹code=0›);(have g3:=‹((out.length:Nat):Int)≥300›);(have hA3:∀j,j<3→jc [p0,p1,p2] o3 j=false:=fun j hj=>hA.2 j (by omega));(have hB4:∀j,j<4→jc [q0,q1,q2,q3] o4 j=false:=fun j hj=>hB.2 j (by omega));(obtain⟨rfl,rfl⟩:=e6 g0 hA3 hB4 g1 g2 g3);exact ah.mk rfl ⟨rfl,trivial⟩)|(guard_target=ah _ _;(have g0:=‹fb=true›);(have g1:=‹sb=true›);(have g2:=‹code=0›);(have g3:=‹¬((out.length:Nat):Int)≥300›);(have hA3:∀j,j<3→jc [p0,p1,p2] o3 j=false:=fun j hj=>hA.2 j (by omega));(have hB4:∀j,j<4→jc [q0,q1,q2,q3] o4 j=false:=fun j hj=>hB.2 j (by omega));(obtain⟨rfl,rfl⟩:=e7 g0 hA3 hB4 g1 g2 g3);exact ah.mk rfl ⟨rfl,trivial⟩)
  |refine ah.mk ?_ ?_|(guard_target=~ aP 12 _ _ _ _ _ _;refine lp (Nat) [0,1,3,4,11,12,13,14,15] (fun i=>[(16,I (i:Nat))]) (fun i=>i≤3∧∀j,j<i→jc [p0,p1,p2] o3 j=false) (fun i=>3-i) 0 (by exact⟨by decide,fun j hj=>by omega⟩) (fun i ha=> ?_);(have hA:=ha);(rcases i with _|_|_|i))|(guard_target=~ aP 16 _ _ _ _ _ _;refine lp (Nat) [0,1,3,4,11,12,13,14,15] (fun i=>[(17,I (i:Nat))]) (fun i=>i≤4∧∀j,j<i→jc [q0,q1,q2,q3] o4 j=false) (fun i=>4-i) 0 (by exact⟨by decide,fun j hj=>by omega⟩) (fun i ha=> ?_);(have hB:=ha);(rcases i with _|_|_|_|i))
  |refine nx (1:Nat) (by exact⟨by decide,dv (i:=0) hA.2 (mw (l:=[p0,p1,p2]) ‹¬p0.kind=0›)⟩)
  |refine nx (1:Nat) (by exact⟨by decide,dv (i:=0) hA.2 (jj (j:=0) ‹o3 0=false›)⟩)
  |refine nx (2:Nat) (by exact⟨by decide,dv (i:=1) hA.2 (mw (l:=[p0,p1,p2]) ‹¬p1.kind=0›)⟩)
  |refine nx (2:Nat) (by exact⟨by decide,dv (i:=1) hA.2 (jj (j:=1) ‹o3 1=false›)⟩)
  |refine nx (3:Nat) (by exact⟨by decide,dv (i:=2) hA.2 (mw (l:=[p0,p1,p2]) ‹¬p2.kind=0›)⟩)
  |refine nx (3:Nat) (by exact⟨by decide,dv (i:=2) hA.2 (jj (j:=2) ‹o3 2=false›)⟩)
  |refine nx (1:Nat) (by exact⟨by decide,dv (i:=0) hB.2 (mw (l:=[q0,q1,q2,q3]) ‹¬q0.kind=0›)⟩)
  |refine nx (1:Nat) (by exact⟨by decide,dv (i:=0) hB.2 (jj (j:=0) ‹o4 0=false›)⟩)
  |refine nx (2:Nat) (by exact⟨by decide,dv (i:=1) hB.2 (mw (l:=[q0,q1,q2,q3]) ‹¬q1.kind=0›)⟩)
  |refine nx (2:Nat) (by exact⟨by decide,dv (i:=1) hB.2 (jj (j:=1) ‹o4 1=false›)⟩)
  |refine nx (3:Nat) (by exact⟨by decide,dv (i:=2) hB.2 (mw (l:=[q0,q1,q2,q3]) ‹¬q2.kind=0›)⟩)
  |refine nx (3:Nat) (by exact⟨by decide,dv (i:=2) hB.2 (jj (j:=2) ‹o4 2=false›)⟩)
  |refine nx (4:Nat) (by exact⟨by decide,dv (i:=3) hB.2 (mw (l:=[q0,q1,q2,q3]) ‹¬q3.kind=0›)⟩)
  |refine nx (4:Nat) (by exact⟨by decide,dv (i:=3) hB.2 (jj (j:=3) ‹o4 3=false›)⟩)
  |(apply Fact.mk;intro hL;try simp only[List.length_map,maxLen] at hL)
  |((first|apply bA|apply bB|apply bC|apply bD|apply bE|apply bF)<;>intro h<;>(try simp only[List.length_map] at h)<;>(try omega)<;>(try contradiction))|(guard_target=aa _ 223 _ _ _ _;refine cG [true,false,false] rfl (cf) ?_)|(guard_target=aa _ 208 _ _ _ _;refine cG [false,true,true] rfl (ct) ?_)|(guard_target=aa _ 208 _ _ _ _;refine cG [false,true,true] rfl (cu) ?_)|(guard_target=aa _ 224 _ _ _ _;refine cP rfl (c3 0) ?_)|(guard_target=aa _ 224 _ _ _ _;refine cP rfl (c3 1) ?_)|(guard_target=aa _ 224 _ _ _ _;refine cP rfl (c3 2) ?_)|(guard_target=aa _ 224 _ _ _ _;refine cP rfl (c4 0) ?_)|(guard_target=aa _ 224 _ _ _ _;refine cP rfl (c4 1) ?_)|(guard_target=aa _ 224 _ _ _ _;refine cP rfl (c4 2) ?_)|(guard_target=aa _ 224 _ _ _ _;refine cP rfl (c4 3) ?_)|(guard_target=aa _ 133 _ _ _ _;refine cG [] rfl (cw) ?_)|(guard_target=aa _ 225 _ _ _ _;refine aa.own _ _ rfl cl pl _ rfl ?_)|(guard_target=aa _ 168 _ _ _ _;refine aa.own _ _ rfl cs (kg (gY _)) _ rfl ?_)|(guard_target=aa _ 198 _ _ _ _;refine aa.own _ _ rfl cr (kg Dj) _ rfl ?_)
  |refine aR ?_|(guard_target=Index _ _ _;first|refine Index.mk _ (hix) ?_)
  |refine iX (k:= ?_)
  |refine nB ?_
  |apply ay.no
  |apply cj.go|(guard_target=aQ _ _;refine aQ.mk (by first|((simp only[List.length_cons,List.length_nil,maxLen];constructor<;>omega))|fail) ?_)
  |refine nO ?_)
 all_goals first|rfl|trivial
end
end Go.Proofs.YtgbggaddpbghfaaGreat
namespace Go.KA
open Go Go.RowKit
theorem jB.refl:∀ss:List SV,jB ss ss
 |[]=> .nil
 |_::ss=> .same (jB.refl ss)
end Go.KA
namespace Go.Proofs.YtgbggaddpbghfaaGreat
open Go Go.KA Go.Proofs
set_option maxHeartbeats 16000000
set_option maxRecDepth 100000
theorem J7{N:Nat}{x:ae}(h:ao x≤N):ao (iG x)≤N:=by
 unfold iG
 split
 ·simp[IB,ao,aK]
 ·exact h
theorem r7{N:Nat}{l:List ae}(h:∀x∈l,ao x≤N)(n:Int):∀x∈eO l n,ao x≤N:=by
 intro x hx
 unfold eO at hx
 obtain⟨y,hy,rfl⟩:=List.mem_map.1 hx
 exact J7 (h y (List.mem_of_mem_take hy))
theorem tU.au{N:Nat}{F:Fit}(h:tU N F):∀x∈[F.t0,F.t1,F.t2],ao x≤N:=by
 intro x hx
 simp only[List.mem_cons,List.not_mem_nil,or_false] at hx
 rcases hx with rfl|rfl|rfl
 ·exact h.t0
 ·exact h.t1
 ·exact h.t2
theorem tU.c9{N:Nat}{F:Fit}(h:tU N F):∀x∈[F.a0,F.a1,F.a2,F.a3],ao x≤N:=by
 intro x hx
 simp only[List.mem_cons,List.not_mem_nil,or_false] at hx
 rcases hx with rfl|rfl|rfl|rfl
 ·exact h.a0
 ·exact h.a1
 ·exact h.a2
 ·exact h.a3
theorem Au(p0 p1 p2 q0 q1 q2 q3 to:ae):wP ⟨p0,p1,p2,q0,q1,q2,q3⟩ to=(jc [p0,p1,p2] (fun j=>jb 3 (j:Nat) to) 0||jc [p0,p1,p2] (fun j=>jb 3 (j:Nat) to) 1||jc [p0,p1,p2] (fun j=>jb 3 (j:Nat) to) 2||
 jc [q0,q1,q2,q3] (fun j=>jb 4 (j:Nat) to) 0||jc [q0,q1,q2,q3] (fun j=>jb 4 (j:Nat) to) 1||jc [q0,q1,q2,q3] (fun j=>jb 4 (j:Nat) to) 2||jc [q0,q1,q2,q3] (fun j=>jb 4 (j:Nat) to) 3):=rfl
section
variable{p0 p1 p2 q0 q1 q2 q3 to:ae}
theorem IS{j:Nat}(hj:j<3)(h:jc [p0,p1,p2] (fun j=>jb 3 (j:Nat) to) j=true):wP ⟨p0,p1,p2,q0,q1,q2,q3⟩ to=true:=by
 rw[Au]
 obtain rfl|rfl|rfl:j=0∨j=1∨j=2:=by omega
 all_goals simp only[h,Bool.or_true,Bool.true_or]
theorem J0{j:Nat}(hj:j<4)(h:jc [q0,q1,q2,q3] (fun j=>jb 4 (j:Nat) to) j=true):wP ⟨p0,p1,p2,q0,q1,q2,q3⟩ to=true:=by
 rw[Au]
 obtain rfl|rfl|rfl|rfl:j=0∨j=1∨j=2∨j=3:=by omega
 all_goals simp only[h,Bool.or_true,Bool.true_or]
theorem l9(h1:∀j,j<3→jc [p0,p1,p2] (fun j=>jb 3 (j:Nat) to) j=false)(h2:∀j,j<4→jc [q0,q1,q2,q3] (fun j=>jb 4 (j:Nat) to) j=false):¬wP ⟨p0,p1,p2,q0,q1,q2,q3⟩ to=true:=by
 rw[Au,h1 0 (by decide),h1 1 (by decide),h1 2 (by decide),h2 0 (by decide),h2 1 (by decide),h2 2 (by decide),h2 3 (by decide)]
 decide
end
end Go.Proofs.YtgbggaddpbghfaaGreat
namespace Go.KA
open Go Go.RowKit
end Go.KA
namespace Go.Proofs.YtgbggaddpbghfaaGreat
open Go Go.KA Go.Proofs
set_option maxHeartbeats 16000000
set_option maxRecDepth 100000
theorem xx{w:World}{ok:Nat→Prop}{x:ae}{vs:List Value}{g:List Nat}(h:Den w ok (aI x) vs g):g=[]∧Den w ok [.any, .any, .any] vs []:=by
 cases h with|val h1 h=>cases h with|val h2 h=>cases h with|ro _ _ _ _ _ _ h=>cases h;exact⟨rfl, .any h1 (.any h2 (.any rfl .nil))⟩
theorem _root_.Go.KA.ai.ON{P:Program}{f:Nat}{args:List SV}{outs:List (Option (List CV))}{Z:ae}{ss:List SV}(h:ai P f args outs (.tup (.a 3 (aI Z)::ss))):ai P f args outs (.tup (.a 3 [.any, .any, .any]::ss)):=by
 refine⟨h.1,fun w ok vs fs h1 h2 h3 h4=>(h.2 w ok vs fs h1 h2 h3 h4).mono ?_⟩
 rintro e w' ⟨v,fr,fo,h5,h6,h7,h8,h9,h10⟩
 refine⟨v,fr,fo,h5,h6,h7,h8, ?_,h10⟩
 cases h9 with
 |v h=>
  cases h with
  |v h=>
   cases h fun _=>none with
   |c h=>cases h
 |tup h=>
  cases h with
  |cons ha ht=>
   refine .tup (.cons ?_ ht)
   cases ha with
   |v h=>
    refine .v fun ρ=> ?_
    cases h ρ with
    |c h=>cases h
    |a a1 a2=>first|exact .a rfl (xx a2).2|exact .a rfl (xx a1).2
   |a hl h=>
    obtain⟨rfl,h2⟩:=xx h
    exact .a rfl h2
theorem PZ(l m:List ae):j8 (.tup [.c (.own 66 3 (l.map az)), .c (.own 66 3 (m.map az))]):=by
 intro s hs
 simp only[List.mem_cons,List.not_mem_nil,or_false] at hs
 rcases hs with rfl|rfl
 ·exact rT l
 ·exact rT m
abbrev sL(t a:Int)(ax:List bX)(e:ae)(s:ot):List CV:=KU t a ax e (s.out.map aY) (.val (.bool s.bad))
section
variable{t a:Int}(hs:bT t a=true)(ax:List bX){e node L R:ae}(path:List Int){u:Nat}(s:ot)
 (hu:(ax.map aV)[((u:Nat):Int).toNat]? =some [J L.kind,J L.num, .ro 3 (L.kids.map af),J R.kind,J R.num, .ro 3 (R.kids.map af)])
 (hL:Tree 3 4 L)(hR:Tree 3 4 R)(bL:ao L≤200)(bR:ao R≤200)(be:ao e≤200)(bn:ao node≤200)(bp:path.length≤1000000)(bs:s.out.length≤300)
include hs hu hL hR bL bR be bn bp bs
theorem Em:ai Tryz.prog 219 [.c (.op (sL t a ax e s)), .c (.ro 1 (path.map eI)), .c (.rp 3 (aI node)),I (u:Nat),B false] [some [.op (sL t a ax e (rK s (vh t a e u false L R path node)))]] (.tup []):=by
 have _:=bL
 have l1:=lK (by decide) (by decide) hL
 have l2:=lK (by decide) (by decide) hR
 have cf0:=ai.J3 (cs:=Lk) (zB L hL node pc (by omega))
 have hB:=wR L node pc (Dm 200) bn
 obtain⟨F,hF⟩:∃F,fM L node pc=F:=⟨_,rfl⟩
 rw[hF] at cf0 hB
 obtain⟨fb,p0,p1,p2,q0,q1,q2,q3⟩:=F
 have t1:=fC hR 0
 have m30:=t1.2.2.1
 have m40:=t1.2.2.2
 have m31:=t1.1 (by decide)
 have m41:=t1.2.1 (by decide)
 have ct0:=jG R l2 0 0 (by decide) (by decide) (by decide) (by decide)
 have cu0:=jG L l1 (dq 3 R 0) (dq 4 R 0) m30 (by omega) m40 (by omega)
 rw[ff] at ct0 cu0
 have n31:=(fC hL (dq 3 R 0)).1 m31
 have n41:=(fC hL (dq 4 R 0)).2.1 m41
 have n30:=(fC hL (dq 3 R 0)).2.2.1
 have n40:=(fC hL (dq 4 R 0)).2.2.2
 obtain⟨n3,hn3⟩:∃n,dq 3 L (dq 3 R 0)=n:=⟨_,rfl⟩
 obtain⟨n4,hn4⟩:∃n,dq 4 L (dq 4 R 0)=n:=⟨_,rfl⟩
 rw[hn3] at cu0 n31 n30
 rw[hn4] at cu0 n41 n40
 obtain⟨k3,rfl⟩:∃k:Nat,n3=(k:Int):=⟨n3.toNat,by omega⟩
 obtain⟨k4,rfl⟩:∃k:Nat,n4=(k:Int):=⟨n4.toNat,by omega⟩
 have cl0:=y1 p0 p1 p2 q0 q1 q2 q3 (by have:=hB.t0;simp only[] at this;omega) (by have:=hB.t1;simp only[] at this;omega) (by have:=hB.t2;simp only[] at this;omega) (by have:=hB.a0;simp only[] at this;omega) (by have:=hB.a1;simp only[] at this;omega) (by have:=hB.a2;simp only[] at this;omega) (by have:=hB.a3;simp only[] at this;omega) k3 k4 (by omega) (by omega)
 have b1:∀x∈eO [p0,p1,p2] (k3:Int),ao x≤200:=r7 hB.au _
 have b2:∀x∈eO [q0,q1,q2,q3] (k4:Int),ao x≤200:=r7 hB.c9 _
 have cs0:=ll b1 b2 t a hs R l2 (by simp only[gV];omega)
 rw[←ch eK (eO [p0,p1,p2] (k3:Int)),←ch eK (eO [q0,q1,q2,q3] (k4:Int))] at cs0
 have hS:ao (ie t a R (eO [p0,p1,p2] (k3:Int)) (eO [q0,q1,q2,q3] (k4:Int))).1≤500000:=by
  have:=(lG b1 b2 R 200).1
  simp only[gV] at this
  unfold ie
  simp only[]
  omega
 obtain⟨X,hX⟩:∃X,ie t a R (eO [p0,p1,p2] (k3:Int)) (eO [q0,q1,q2,q3] (k4:Int))=X:=⟨_,rfl⟩
 rw[hX] at cs0 hS
 obtain⟨S,sb⟩:=X
 have cr0:=(pW t a hs e S path (by omega) hS).ON
 have e8:aI S=[J S.kind,J S.num, .ro 3 (db (S.kids.map az))]:=by rw[ch eK]
 rw[e8] at cr0
 have hT:vh t a e u false L R path node=if fb=false then none else if wP ⟨p0,p1,p2,q0,q1,q2,q3⟩ R=true then none else if sb=false then none else if(mP t a e path S).2=0 then some ⟨u,false,path,eO [p0,p1,p2] (k3:Int),eO [q0,q1,q2,q3] (k4:Int)⟩ else none:=by
  unfold vh
  rw[hF,hn3,hn4]
  simp only[Fit.au,Fit.c9,hX]
 rw[hT]
 have nf:∀{b:Bool},b=true→¬b=false:=fun h=>by rw[h];decide
 have cl:ai Tryz.prog 225 [.c (.rp 21 (lW p0 p1 p2 q0 q1 q2 q3)),I (k3:Nat),I (k4:Nat)] [] (.tup [.c (.own 66 3 ((eO [p0,p1,p2] (k3:Int)).map az)), .c (.own 66 3 ((eO [q0,q1,q2,q3] (k4:Int)).map az))]):=cl0
 have cw:ai Tryz.prog 133 [.c (.ro 1 (path.map eI))] [] (.c (.ows 2 1 (path.map eI))):=iT path (by omega)
 refine Fa (t:=t) (a:=a) (ax:=ax) (e:=e) (node:=node) (L:=L) (R:=R) (o3:=fun j=>jb 3 (j:Nat) R) (o4:=fun j=>jb 4 (j:Nat) R) hu cw (by rw[List.length_map];exact bs) ((cf0).cut (.same (jB.cut (sz:=6) (k:=3) (cs:=[J L.kind,J L.num, .ro 3 (L.kids.map af),J R.kind,J R.num, .ro 3 (R.kids.map af)]) (by decide) (jB.refl _)))) (ct0) (fun j=>ju 3 (j:Nat) R) (fun j=>ju 4 (j:Nat) R) ((cu0).cut (jB.cut (sz:=6) (k:=3) (cs:=[J L.kind,J L.num, .ro 3 (L.kids.map af),J R.kind,J R.num, .ro 3 (R.kids.map af)]) (by decide) (jB.refl _))) cl (PZ _ _) (cs0) cr0 ?_ ?_ ?_ ?_ ?_ ?_ ?_
 ·intro h
  rw[if_pos h]
  exact⟨rfl,rfl⟩
 ·intro h j hj hk
  rw[if_neg (nf h),if_pos (IS hj hk)]
  exact⟨rfl,rfl⟩
 ·intro h j hj hk
  rw[if_neg (nf h),if_pos (J0 hj hk)]
  exact⟨rfl,rfl⟩
 ·intro h k1 k2 hb
  rw[if_neg (nf h),if_neg (l9 k1 k2),if_pos hb]
  exact⟨rfl,rfl⟩
 ·intro h k1 k2 hb hc
  rw[if_neg (nf h),if_neg (l9 k1 k2),if_neg (nf hb),if_neg hc]
  exact⟨rfl,rfl⟩
 ·intro h k1 k2 hb hc hn
  rw[List.length_map] at hn
  rw[if_neg (nf h),if_neg (l9 k1 k2),if_neg (nf hb),if_pos hc,rK,if_pos (by omega)]
  exact⟨rfl,rfl⟩
 ·intro h k1 k2 hb hc hn
  rw[List.length_map] at hn
  rw[if_neg (nf h),if_neg (l9 k1 k2),if_neg (nf hb),if_pos hc,rK,if_neg (by omega)]
  exact⟨by rw[List.map_append];rfl,rfl⟩
theorem HY:ai Tryz.prog 219 [.c (.op (sL t a ax e s)), .c (.ro 1 (path.map eI)), .c (.rp 3 (aI node)),I (u:Nat),B true] [some [.op (sL t a ax e (rK s (vh t a e u true R L path node)))]] (.tup []):=by
 have _:=bR
 have l1:=lK (by decide) (by decide) hR
 have l2:=lK (by decide) (by decide) hL
 have cf0:=ai.J3 (cs:=Lk) (zB R hR node pc (by omega))
 have hB:=wR R node pc (Dm 200) bn
 obtain⟨F,hF⟩:∃F,fM R node pc=F:=⟨_,rfl⟩
 rw[hF] at cf0 hB
 obtain⟨fb,p0,p1,p2,q0,q1,q2,q3⟩:=F
 have t1:=fC hL 0
 have m30:=t1.2.2.1
 have m40:=t1.2.2.2
 have m31:=t1.1 (by decide)
 have m41:=t1.2.1 (by decide)
 have ct0:=jG L l2 0 0 (by decide) (by decide) (by decide) (by decide)
 have cu0:=jG R l1 (dq 3 L 0) (dq 4 L 0) m30 (by omega) m40 (by omega)
 rw[ff] at ct0 cu0
 have n31:=(fC hR (dq 3 L 0)).1 m31
 have n41:=(fC hR (dq 4 L 0)).2.1 m41
 have n30:=(fC hR (dq 3 L 0)).2.2.1
 have n40:=(fC hR (dq 4 L 0)).2.2.2
 obtain⟨n3,hn3⟩:∃n,dq 3 R (dq 3 L 0)=n:=⟨_,rfl⟩
 obtain⟨n4,hn4⟩:∃n,dq 4 R (dq 4 L 0)=n:=⟨_,rfl⟩
 rw[hn3] at cu0 n31 n30
 rw[hn4] at cu0 n41 n40
 obtain⟨k3,rfl⟩:∃k:Nat,n3=(k:Int):=⟨n3.toNat,by omega⟩
 obtain⟨k4,rfl⟩:∃k:Nat,n4=(k:Int):=⟨n4.toNat,by omega⟩
 have cl0:=y1 p0 p1 p2 q0 q1 q2 q3 (by have:=hB.t0;simp only[] at this;omega) (by have:=hB.t1;simp only[] at this;omega) (by have:=hB.t2;simp only[] at this;omega) (by have:=hB.a0;simp only[] at this;omega) (by have:=hB.a1;simp only[] at this;omega) (by have:=hB.a2;simp only[] at this;omega) (by have:=hB.a3;simp only[] at this;omega) k3 k4 (by omega) (by omega)
 have b1:∀x∈eO [p0,p1,p2] (k3:Int),ao x≤200:=r7 hB.au _
 have b2:∀x∈eO [q0,q1,q2,q3] (k4:Int),ao x≤200:=r7 hB.c9 _
 have cs0:=ll b1 b2 t a hs L l2 (by simp only[gV];omega)
 rw[←ch eK (eO [p0,p1,p2] (k3:Int)),←ch eK (eO [q0,q1,q2,q3] (k4:Int))] at cs0
 have hS:ao (ie t a L (eO [p0,p1,p2] (k3:Int)) (eO [q0,q1,q2,q3] (k4:Int))).1≤500000:=by
  have:=(lG b1 b2 L 200).1
  simp only[gV] at this
  unfold ie
  simp only[]
  omega
 obtain⟨X,hX⟩:∃X,ie t a L (eO [p0,p1,p2] (k3:Int)) (eO [q0,q1,q2,q3] (k4:Int))=X:=⟨_,rfl⟩
 rw[hX] at cs0 hS
 obtain⟨S,sb⟩:=X
 have cr0:=(pW t a hs e S path (by omega) hS).ON
 have e8:aI S=[J S.kind,J S.num, .ro 3 (db (S.kids.map az))]:=by rw[ch eK]
 rw[e8] at cr0
 have hT:vh t a e u true R L path node=if fb=false then none else if wP ⟨p0,p1,p2,q0,q1,q2,q3⟩ L=true then none else if sb=false then none else if(mP t a e path S).2=0 then some ⟨u,true,path,eO [p0,p1,p2] (k3:Int),eO [q0,q1,q2,q3] (k4:Int)⟩ else none:=by
  unfold vh
  rw[hF,hn3,hn4]
  simp only[Fit.au,Fit.c9,hX]
 rw[hT]
 have nf:∀{b:Bool},b=true→¬b=false:=fun h=>by rw[h];decide
 have cl:ai Tryz.prog 225 [.c (.rp 21 (lW p0 p1 p2 q0 q1 q2 q3)),I (k3:Nat),I (k4:Nat)] [] (.tup [.c (.own 66 3 ((eO [p0,p1,p2] (k3:Int)).map az)), .c (.own 66 3 ((eO [q0,q1,q2,q3] (k4:Int)).map az))]):=cl0
 have cw:ai Tryz.prog 133 [.c (.ro 1 (path.map eI))] [] (.c (.ows 2 1 (path.map eI))):=iT path (by omega)
 refine Ip (t:=t) (a:=a) (ax:=ax) (e:=e) (node:=node) (L:=L) (R:=R) (o3:=fun j=>jb 3 (j:Nat) L) (o4:=fun j=>jb 4 (j:Nat) L) hu cw (by rw[List.length_map];exact bs) (cf0) ((ct0).cut (jB.cut (sz:=6) (k:=3) (cs:=[J L.kind,J L.num, .ro 3 (L.kids.map af),J R.kind,J R.num, .ro 3 (R.kids.map af)]) (by decide) (jB.refl _))) (fun j=>(ju 3 (j:Nat) L).cut (jB.cut (sz:=6) (k:=3) (cs:=[J L.kind,J L.num, .ro 3 (L.kids.map af),J R.kind,J R.num, .ro 3 (R.kids.map af)]) (by decide) (jB.refl _))) (fun j=>(ju 4 (j:Nat) L).cut (jB.cut (sz:=6) (k:=3) (cs:=[J L.kind,J L.num, .ro 3 (L.kids.map af),J R.kind,J R.num, .ro 3 (R.kids.map af)]) (by decide) (jB.refl _))) (cu0) cl (PZ _ _) ((cs0).cut (.same (jB.cut (sz:=6) (k:=3) (cs:=[J L.kind,J L.num, .ro 3 (L.kids.map af),J R.kind,J R.num, .ro 3 (R.kids.map af)]) (by decide) (jB.refl _)))) cr0 ?_ ?_ ?_ ?_ ?_ ?_ ?_
 ·intro h
  rw[if_pos h]
  exact⟨rfl,rfl⟩
 ·intro h j hj hk
  rw[if_neg (nf h),if_pos (IS hj hk)]
  exact⟨rfl,rfl⟩
 ·intro h j hj hk
  rw[if_neg (nf h),if_pos (J0 hj hk)]
  exact⟨rfl,rfl⟩
 ·intro h k1 k2 hb
  rw[if_neg (nf h),if_neg (l9 k1 k2),if_pos hb]
  exact⟨rfl,rfl⟩
 ·intro h k1 k2 hb hc
  rw[if_neg (nf h),if_neg (l9 k1 k2),if_neg (nf hb),if_neg hc]
  exact⟨rfl,rfl⟩
 ·intro h k1 k2 hb hc hn
  rw[List.length_map] at hn
  rw[if_neg (nf h),if_neg (l9 k1 k2),if_neg (nf hb),if_pos hc,rK,if_pos (by omega)]
  exact⟨rfl,rfl⟩
 ·intro h k1 k2 hb hc hn
  rw[List.length_map] at hn
  rw[if_neg (nf h),if_neg (l9 k1 k2),if_neg (nf hb),if_pos hc,rK,if_neg (by omega)]
  exact⟨by rw[List.map_append];rfl,rfl⟩
end
end Go.Proofs.YtgbggaddpbghfaaGreat
namespace Go.Proofs.YtgbggaddpbghfaaGreat
open Go Go.KA Go.Proofs
set_option maxHeartbeats 16000000
set_option maxRecDepth 100000
abbrev Oz:bX:=⟨cQ,cQ⟩
theorem pe{s:ot}(h:s.out.length≤300)(o:Option aB):(rK s o).out.length≤300:=by
 cases o with
 |none=>exact h
 |some x=>
  unfold rK
  simp only[]
  split
  ·exact h
  ·simp only[List.length_append,List.length_cons,List.length_nil]
   omega
section
variable(t a:Int)(ax:List bX)(e:ae)
theorem Dp(path:List Int)(node:ae):∀(m use:Nat) (s:ot),s.out.length≤300→(qT t a ax e path node m use s).out.length≤300
 |0,_,s,h=>h
 |m+1,use,s,h=>by
  rw[qT]
  split
  ·exact h
  ·exact Dp path node m (use+1) _ (pe (pe h _) _)
mutual
theorem qO:∀(node:ae) (path:List Int) (s:ot),s.out.length≤300→(jF t a ax e node path s).out.length≤300
 | .mk k n ks,path,s,h=>by
   rw[jF]
   exact vX ks path 0 _ (Dp t a ax e path _ _ _ _ h)
theorem vX:∀(l:List ae) (path:List Int) (i:Nat) (s:ot),s.out.length≤300→(eG t a ax e l path i s).out.length≤300
 |[],_,_,s,h=>by rw[eG];exact h
 |x::xs,path,i,s,h=>by
  rw[eG]
  split
  ·exact h
  ·exact vX xs path (i+1) _ (qO x _ s h)
end
theorem LN{path:List Int}{node:ae}{i:Nat}{s:ot}(h:¬i<ax.length):qT t a ax e path node (ax.length-i) i s=s:=by
 rw[show ax.length-i=0 by omega]
 rfl
theorem LR{path:List Int}{node:ae}{i:Nat}{s:ot}(h:s.bad=true):qT t a ax e path node (ax.length-i) i s=s:=by
 cases ax.length-i with
 |zero=>rfl
 |succ m=>rw[qT,if_pos h]
theorem NM{path:List Int}{node:ae}{i:Nat}{s:ot}(h:i<ax.length)(hb:s.bad=false):qT t a ax e path node (ax.length-i) i s=qT t a ax e path node (ax.length-(i+1)) (i+1) (KV t a ax e path node i s):=by
 rw[show ax.length-i=ax.length-(i+1)+1 by omega,qT,if_neg (by rw[hb];decide)]
theorem LV{l:List ae}{path:List Int}{i:Nat}{s:ot}(h:¬i<l.length):eG t a ax e (l.drop i) path i s=s:=by
 rw[List.drop_of_length_le (by omega),eG]
theorem MF{l:List ae}{path:List Int}{i:Nat}{s:ot}(h:s.bad=true):eG t a ax e l path i s=s:=by
 cases l with
 |nil=>rw[eG]
 |cons x l=>rw[eG,if_pos h]
theorem NI{l:List ae}{path:List Int}{i:Nat}{s:ot}(h:i<l.length)(hb:s.bad=false):eG t a ax e (l.drop i) path i s=eG t a ax e (l.drop (i+1)) path (i+1) (jF t a ax e (l.getD i cQ) (path++[(i:Int)]) s):=by
 rw[List.drop_eq_getElem_cons h,eG,if_neg (by rw[hb];decide),getD_eq h]
end
end Go.Proofs.YtgbggaddpbghfaaGreat
namespace Go.Proofs.YtgbggaddpbghfaaGreat
open Go Go.KA Go.Proofs
set_option maxHeartbeats 16000000
set_option maxRecDepth 100000
structure yB(q:bX):Prop where
 l:Tree 3 4 q.left
 r:Tree 3 4 q.right
 bl:ao q.left≤200
 br:ao q.right≤200
theorem Lx:(iw.all fun q=>dJ 3 4 q.left&&dJ 3 4 q.right&&Nat.ble (ao q.left) 200&&Nat.ble (ao q.right) 200)=true:=by kernel_rfl
theorem C5:∀q∈iw,yB q:=fun q hq=>by
 have h:=List.all_eq_true.1 Lx q hq
 simp only[Bool.and_eq_true] at h
 exact⟨gB _ h.1.1.1,gB _ h.1.1.2,Nat.le_of_ble_eq_true h.1.2,Nat.le_of_ble_eq_true h.2⟩
end Go.Proofs.YtgbggaddpbghfaaGreat
