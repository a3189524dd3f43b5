/- Parts of the proof. -/
import Derived.Test.YteafekbddckemaaGreatDoorH19
set_option maxRecDepth 100000
set_option maxHeartbeats 40000000
namespace Go.Proofs.YteafekbddckemaaGreatDoor
open Tryz Go.RowKit
open Go.Lib hiding intOf
variable{A:oA}{B C g h j k n:Nat}{T U:TypeId}{a anchor b c r:Pt}{a0 a1 a2 a3 b0 b1:Value}{l:List Am}{p q:Am}{t:lP}{w w':World}{z:Int}
theorem ZA(h:Blk w g T #[zi a.1,zi a.2,zi b.1,zi b.2,zi c.1,zi c.2]):Ab 2 Ad w (sa g 0) 3 [a,b,c]:=by
 refine⟨rfl,λ_=>⟨g,0,rfl,h.lt,λj x f=>⟨_,rfl,λi u e=>?_⟩⟩⟩;have l:∀k,w.cell? (ad g (0+k))=#[zi a.1,zi a.2,zi b.1,zi b.2,zi c.1,zi c.2][k]?:=λk=>by rw[Nat.zero_add];exact h.cell k
 rw[Nat.add_assoc,l]
 match j,f with
 | 0,f=>
  obtain rfl:a=x:=by simpa using f
  match i,e with
  | 0,e=>simpa using e
  | 1,e=>simpa using e
  | i+2,e=>simp at e
 | 1,f=>
  obtain rfl:b=x:=by simpa using f
  match i,e with
  | 0,e=>simpa using e
  | 1,e=>simpa using e
  | i+2,e=>simp at e
 | 2,f=>
  obtain rfl:c=x:=by simpa using f
  match i,e with
  | 0,e=>simpa using e
  | 1,e=>simpa using e
  | i+2,e=>simp at e
 | j+3,f=>simp at f
theorem Ll{p:Pt}(h:inG p):Av p=false:=DZ.2 h
theorem pF{q:Pt}(e:inG a)(f:inG b)(g:inG c)(i:inG q):IQ a b c q =
  if Ao a b c=0 then -1 else
   let m:=if Ao a b c<0 then min (min (Ao a c q) (Ao c b q)) (Ao b a q)else min (min (Ao a b q) (Ao b c q)) (Ao c a q)
   if 0<m then 1 else if m=0 then 0 else -1:=by
 unfold IQ;rw[Ll e,Ll f,Ll g,Ll i];simp
theorem Ut{a4 a5:Value}(h:Blk w g T #[a0,a1,a2,a3,a4,a5]):zL w g 0 a0∧zL w g 1 a1∧zL w g 2 a2∧zL w g 3 a3∧zL w g 4 a4∧zL w g 5 a5:=⟨h.c rfl,h.c rfl,h.c rfl,h.c rfl,h.c rfl,h.c rfl⟩
theorem AR(h:Blk w g T #[a0,a1]):zL w g 0 a0∧zL w g 1 a1:=⟨h.c rfl,h.c rfl⟩
theorem gH(g:Nat)(T:TypeId)(a b c q:Pt)(w:World)(L:Blk w g T #[zi a.1,zi a.2,zi b.1,zi b.2,zi c.1,zi c.2])(ha:inG a)(m:inG b)(hc:inG c)(hq:inG q) :
  CP 94 #[.slice (sa g 0) 3 3,.agg #[zi q.1,zi q.2]] w (zR (zi (IQ a b c q)) w):=by
 obtain⟨n,t⟩:=zG (IQ a b c q);rw[t];rw[pF ha m hc hq]at t;have F:=zH t.symm;clear t;have f:=zH (zu2 ha (zu2 m (zu2 hc hq)));have G:=zH (CW q w);have ae:=zH (Blk.new w 56 #[zi q.1,zi q.2]);have H:=zH (L.alloc (.cells #[zi q.1,zi q.2] 56))
 have HO:Hid (∀p,inG p->∀W,CP 132 #[.agg #[zi p.1,zi p.2]] W (zR (zF) W)):=λp hp W=>by
  have:=Zt p W;rw[Ll hp]at this;exact this
 have af:=zH (HO.o q hq);have ag:=zH (HO.o a ha);have ah:=zH (HO.o b m);have ai:=zH (HO.o c hc);have hg:=L.lt;clear ha m hc hq L;go_enter func94,ntmps94;obtain⟨c0,c1,c2,c3,c4,c5⟩:=Ut H.o;have l:=Below.refl (zw w #[zi q.1,zi q.2] 56).heap.size (zw w #[zi q.1,zi q.2] 56)
 go_upto_region 3 with(go_at_call 132;(first|(with_reducible refine(af.o _).mono ?_)|(with_reducible refine(ag.o _).mono ?_)|(with_reducible refine(ah.o _).mono ?_)|(with_reducible refine(ai.o _).mono ?_));rintro e w1 ⟨rfl,i⟩;replace l:=Ag l i;clear i c0 c1 c2 c3 c4 c5;obtain⟨c0,c1,c2,c3,c4,c5⟩:=Ut (H.o.below l))
 have al:=(H.o.below l).lt;have HU:=zH l;have a1:=zH (ae.o.below l);have am:=a1.o.lt;have HK:=λw'=>zH (λ(m:Bw w1 w')=>Ut ((H.o.below l).below m))
 clear l
 go_cut [5,6,7] (λs5 s6 s7 wx=>∃x y z:Nat,s5=.pointer (sa x 0)∧s6=.pointer (sa y 0)∧s7=.pointer (sa z 0)∧x≠y∧y≠z∧x≠z∧w1.heap.size<=y∧w1.heap.size<=z∧Blk wx x 56 #[zi a.1,zi a.2]∧Blk wx y 56 #[zi b.1,zi b.2]∧Blk wx z 56 #[zi c.1,zi c.2]∧Bw w1 wx)
 case first=>
  go_region_held3(λw'=>w'.cell? (ad g 0)=some (zi a.1)∧w'.cell? (ad g 1)=some (zi a.2)∧w'.cell? (ad g 2)=some (zi b.1)∧w'.cell? (ad g 3)=some (zi b.2)∧w'.cell? (ad g 4)=some (zi c.1)∧w'.cell? (ad g 5)=some (zi c.2))
   ((refine(HK _).out ?_;repeat(first|(with_reducible exact zJ)|(with_reducible refine Below.drew ?_)|(with_reducible refine Below.alo ?_ _)|(with_reducible refine Below.setCell ?_ zP _))))
   (fail)
  all_goals
   go_wp2_with fail
   go_meet
  all_goals
   refine⟨_,_,_,rfl,rfl,rfl,by omega,by omega,by omega,by omega,by omega,?_,?_,?_,?_⟩
   ·first|(exact((Blk.new w1 _ _).alloc _).alloc _)|(exact(Blk.new' _ _ _ zP).alloc _)|(exact Blk.new' _ _ _ zP)
   ·first|(exact((Blk.new w1 _ _).alloc _).alloc _)|(exact(Blk.new' _ _ _ zP).alloc _)|(exact Blk.new' _ _ _ zP)
   ·first|(exact((Blk.new w1 _ _).alloc _).alloc _)|(exact(Blk.new' _ _ _ zP).alloc _)|(exact Blk.new' _ _ _ zP)
   repeat(first|(with_reducible exact zJ)|(with_reducible refine Ai ?_ _)|(with_reducible refine Below.drew ?_)|(with_reducible refine Below.alo ?_ _))
 case rest=>
  obtain⟨x,y,z,rfl,rfl,rfl,a2,I,a3,an,ao,M,N,O,J⟩:=hcut;have ap:=zH J;have a4:=zH (a1.o.below J);have s:=zH ((zT G.o HU.o).trans (J.mono (zT G.o HU.o).size));have a5:=zH M;have a6:=zH N;have a7:=zH O;obtain⟨x0,x1⟩:=AR M;obtain⟨y0,y1⟩:=AR N;obtain⟨z0,z1⟩:=AR O;have K:=zH (λW=>DQ a b c W f.o.1 f.o.2.1 f.o.2.2.1);obtain⟨X,L⟩:=zG (Ao a b c);rw[L]at F K;clear J M N O L;by_cases P:X=0
  ·subst P;have HF:Hid (n = -1):=by rw[Hid,F.o,if_pos rfl]
   go_wp2_with(go_at_call 92;refine(K.o _).mono ?_;rintro e w2 ⟨rfl,i⟩;have B:=zH (zT s.o i);clear i)
   go_ret;exact⟨by rw[HF.o];rfl,B.o⟩
  have a8:(X == 0)=false:=by simpa using P
  by_cases Q:X<0
  ·have S:Hid (n=if 0<min (min (Ao a c q) (Ao c b q)) (Ao b a q)then 1 else if min (min (Ao a c q) (Ao c b q)) (Ao b a q)=0 then 0 else -1):=by rw[Hid,F.o,if_neg P,if_pos Q]
   have U:=zH (λW=>DQ a c q W f.o.1 f.o.2.2.1 f.o.2.2.2);have V:=zH (λW=>DQ c b q W f.o.2.2.1 f.o.2.1 f.o.2.2.2);have Y:=zH (λW=>DQ b a q W f.o.2.1 f.o.1 f.o.2.2.2);generalize Ao a c q=m1 at *
   generalize Ao c b q=m2 at *
   generalize Ao b a q=m3 at *
   go_upto_region 9 with(go_at_call 92;refine(K.o _).mono ?_;rintro e w2 ⟨rfl,i⟩;have B:=zH (zT s.o i);have D:=zH (a5.o.below i);have j:=zH (a6.o.below i);have k:=zH (a7.o.below i);have E:=zH (a4.o.below i);obtain⟨y0,y1⟩:=AR j.o;obtain⟨z0,z1⟩:=AR k.o;have y2:=j.o.frozen 0;have y3:=j.o.frozen 1;have z2:=k.o.frozen 0;have z3:=k.o.frozen 1;have aj:=j.o.lt;have ak:=k.o.lt;clear i)
   obtain⟨W3,r⟩:=zE ((((w2.setCell (ad y 0) (zi c.1)).setCell (ad y 1) (zi c.2)).setCell (ad z 0) (zi b.1)).setCell (ad z 1) (zi b.2));have a9:Hid (Blk W3 y 56 #[zi c.1,zi c.2]):=by rw[r];exact((FI j.o _ _).far (by simpa using I) _).far (by simpa using I) _
   have aa:Hid (Blk W3 z 56 #[zi b.1,zi b.2]):=by rw[r];exact FI ((k.o.far (by simpa using λe=>I e.symm) _).far (by simpa using λe=>I e.symm) _) _ _
   have ab:Hid (Blk W3 x 56 #[zi a.1,zi a.2]):=by rw[r];exact(((D.o.far (by simpa using a2) _).far (by simpa using a2) _).far (by simpa using a3) _).far (by simpa using a3) _
   have ac:Hid (Blk W3 w.heap.size 56 #[zi q.1,zi q.2]):=by rw[r];exact(((E.o.far zQ _).far zQ _).far zQ _).far zQ _
   have C:Hid (Bw w W3):=by rw[r];exact(((B.o.setCell zQ _).setCell zQ _).setCell zQ _).setCell zQ _
   rw[<-r];clear r y0 y1 z0 z1 y2 y3 z2 z3;have l:=Below.refl W3.heap.size W3;have Z:=λw'=>zH (λ(m:Bw W3 w')=>zu2 (AR (ab.o.below m)) (zu2 (AR (a9.o.below m)) (zu2 (AR (aa.o.below m)) (AR (ac.o.below m)))))
   go_wp2_with fail
   go_region_held3(λw'=>(w'.cell? (ad x 0)=some (zi a.1)∧w'.cell? (ad x 1)=some (zi a.2))∧(w'.cell? (ad y 0)=some (zi c.1)∧w'.cell? (ad y 1)=some (zi c.2))∧(w'.cell? (ad z 0)=some (zi b.1)∧w'.cell? (ad z 1)=some (zi b.2))∧(w'.cell? (ad w.heap.size 0)=some (zi q.1)∧w'.cell? (ad w.heap.size 1)=some (zi q.2)))
    ((refine(Z _).out ?_;repeat(first|(with_reducible exact zJ)|(with_reducible exact l)|(with_reducible refine Below.drew ?_))))
    ((go_at_call 92;go_must((first|(with_reducible refine(U.o _).mono ?_)|(with_reducible refine(V.o _).mono ?_)|(with_reducible refine(Y.o _).mono ?_));rintro e w1 ⟨rfl,i⟩;replace l:=Ag l i;clear i)))
   all_goals
    have a0:=zH (zT C.o l);clear l
    go_wp2_with fail
    all_goals
     go_ret;refine⟨?_,a0.o⟩;show Ending.returned (zi _)=Ending.returned (zi n);congr 2;rw[S.o];clear a8;(try simp only[beq_iff_eq,beq_eq_false_iff_ne]at *)
     repeat' split
     all_goals omega
  have S:Hid (n=if 0<min (min (Ao a b q) (Ao b c q)) (Ao c a q)then 1 else if min (min (Ao a b q) (Ao b c q)) (Ao c a q)=0 then 0 else -1):=by rw[Hid,F.o,if_neg P,if_neg Q]
  have U:=zH (λW=>DQ a b q W f.o.1 f.o.2.1 f.o.2.2.2);have V:=zH (λW=>DQ b c q W f.o.2.1 f.o.2.2.1 f.o.2.2.2);have Y:=zH (λW=>DQ c a q W f.o.2.2.1 f.o.1 f.o.2.2.2);generalize Ao a b q=m1 at *
  generalize Ao b c q=m2 at *
  generalize Ao c a q=m3 at *
  go_upto_region 9 with(go_at_call 92;refine(K.o _).mono ?_;rintro e w2 ⟨rfl,i⟩;have B:=zH (zT s.o i);have D:=zH (a5.o.below i);have j:=zH (a6.o.below i);have k:=zH (a7.o.below i);have E:=zH (a4.o.below i);obtain⟨y0,y1⟩:=AR j.o;obtain⟨z0,z1⟩:=AR k.o;have y2:=j.o.frozen 0;have y3:=j.o.frozen 1;have z2:=k.o.frozen 0;have z3:=k.o.frozen 1;have aj:=j.o.lt;have ak:=k.o.lt;clear i)
  have C:=B;have l:=Below.refl w2.heap.size w2;have Z:=λw'=>zH (λ(m:Bw w2 w')=>zu2 (AR (D.o.below m)) (zu2 (AR (j.o.below m)) (zu2 (AR (k.o.below m)) (AR (E.o.below m)))))
  have aq:¬X=0:=P
  go_wp2_with fail
  go_region_held3(λw'=>(w'.cell? (ad x 0)=some (zi a.1)∧w'.cell? (ad x 1)=some (zi a.2))∧(w'.cell? (ad y 0)=some (zi b.1)∧w'.cell? (ad y 1)=some (zi b.2))∧(w'.cell? (ad z 0)=some (zi c.1)∧w'.cell? (ad z 1)=some (zi c.2))∧(w'.cell? (ad w.heap.size 0)=some (zi q.1)∧w'.cell? (ad w.heap.size 1)=some (zi q.2)))
   ((refine(Z _).out ?_;repeat(first|(with_reducible exact zJ)|(with_reducible exact l)|(with_reducible refine Below.drew ?_))))
   ((go_at_call 92;go_must((first|(with_reducible refine(U.o _).mono ?_)|(with_reducible refine(V.o _).mono ?_)|(with_reducible refine(Y.o _).mono ?_));rintro e w1 ⟨rfl,i⟩;replace l:=Ag l i;clear i)))
  all_goals
   have a0:=zH (zT C.o l);clear l
   go_wp2_with fail
   all_goals
    go_ret;refine⟨?_,a0.o⟩;show Ending.returned (zi _)=Ending.returned (zi n);congr 2;rw[S.o];clear a8;(try simp only[beq_iff_eq,beq_eq_false_iff_ne]at *)
    repeat' split
    all_goals omega
theorem WC(h:Av anchor=true):CH r anchor p=false:=by unfold CH;rw[h];rfl
theorem WD(h:Av anchor=false)(a:Av ((BU p.turn anchor).1+p.at_.1,(BU p.turn anchor).2+p.at_.2)=true):CH r anchor p=false:=by unfold CH;rw[h];simp only[a];rfl
theorem ZB(h:Av anchor=false)(a:Av ((BU p.turn anchor).1+p.at_.1,(BU p.turn anchor).2+p.at_.2)=false):CH r anchor p=decide (DJ r ((BU p.turn anchor).1+p.at_.1,(BU p.turn anchor).2+p.at_.2)=DJ r (0,0)):=by unfold CH;rw[h];simp only[a];rfl
theorem gI{b2 b3 b4:Value}(b:Blk w g T #[a0,a1])(e:Blk w h U #[b0,b1,b2,b3,b4])(a:Bw w w'):(zL w' g 0 a0∧zL w' g 1 a1)∧(zL w' h 0 b0∧zL w' h 1 b1∧zL w' h 2 b2∧zL w' h 3 b3∧zL w' h 4 b4)∧g<w'.heap.size∧h<w'.heap.size:=⟨Lj b a,Dm (e.below a),(b.below a).lt,(e.below a).lt⟩
theorem WE(r anchor:Pt)(p:Am)(w:World)(H:Q4 p.turn)(E:inG p.at_) :
  CP 105 #[.agg #[zi r.1,zi r.2],.agg #[zi anchor.1,zi anchor.2],.agg #[zi p.shape,.bool p.turn.flip,zi p.turn.quarter,zi p.at_.1,zi p.at_.2]] w (zR (.bool (CH r anchor p)) w):=by
 obtain⟨R,t⟩:=zG (CH r anchor p);rw[t];obtain⟨W0,g⟩:=zG (((w.alloc (.cells #[zi r.1,zi r.2] 31)).alloc (.cells #[zi anchor.1,zi anchor.2] 56)).alloc (.cells #[zi p.shape,.bool p.turn.flip,zi p.turn.quarter,zi p.at_.1,zi p.at_.2] 87));have X1:Hid (Blk W0 w.heap.size 31 #[zi r.1,zi r.2]):=zH (by rw[<-g];exact((Blk.new _ _ _).alloc _).alloc _);have X2:Hid (Blk W0 (w.heap.size+1) 56 #[zi anchor.1,zi anchor.2]):=zH (by rw[<-g];exact(Blk.new' _ _ _ zP).alloc _);have X3:Hid (Blk W0 (w.heap.size+1+1) 87 #[zi p.shape,.bool p.turn.flip,zi p.turn.quarter,zi p.at_.1,zi p.at_.2]):=zH (by rw[<-g];exact Blk.new' _ _ _ zP);have m:Hid (Bw w W0):=zH (by rw[<-g];exact Below.alo (Below.alo (zA _) _) _);have F:Hid (W0.heap.size=w.heap.size+1+1+1):=zH (by rw[<-g];simp);have q:=zH (λW=>L0 anchor W)
 cases hout:Av anchor with
 | true=>
  have x:Hid (R=false):=zH (by rw[<-t,WC hout]);rw[hout]at q;rw[<-g]at m X2;clear t hout g H E X1 X3 F;go_enter func105,ntmps105;go_wp2_with(go_at_call 54;refine(q.o _).mono ?_;rintro e w1 ⟨rfl,b⟩;have j:=zH (zT m.o b);clear b)
  go_ret;exact⟨by rw[x.o];rfl,j.o⟩
 | false=>
  have y:inG anchor:=DZ.1 hout;have I:=zH (λW=>Kn p.turn anchor W H y);obtain⟨a,z⟩:=zG (BU p.turn anchor);obtain⟨a1,a2,a3,a4⟩:=JY p.turn anchor y;obtain⟨t1,t2,t3,t4⟩:=E;rw[z]at I a1 a2 a3 a4;have i1:IntKind.i64.wrap (a.1+p.at_.1)=a.1+p.at_.1:=zs5 _ zO;have i2:IntKind.i64.wrap (a.2+p.at_.2)=a.2+p.at_.2:=zs5 _ zO;have l:=zH (λW=>L0 (a.1+p.at_.1,a.2+p.at_.2) W);have J:=zH (λW=>oY r (a.1+p.at_.1,a.2+p.at_.2) (0,0) W);have B:Hid (Av (a.1+p.at_.1,a.2+p.at_.2)=true->R=false):=zH (λh=>by rw[<-t,WD hout (by rw[z];exact h)]);have C:Hid (Av (a.1+p.at_.1,a.2+p.at_.2)=false->R=decide (DJ r (a.1+p.at_.1,a.2+p.at_.2)=DJ r (0,0))):=zH (λh=>by rw[<-t,ZB hout (by rw[z];exact h),z]);rw[hout]at q;have M:Hid (∀u,Bw w u->∀o,Bw w (u.alloc o)):=zH (λu h o=>Below.alo h o);have e5:=λW=>gI (w':=W) X1.out X3.out
  have e6:=λW=>Lj (w':=W) X2.out
  have v:=zH e5;have K:=zH e6;rw[<-g]at m v K;clear t hout y g H z a1 a2 a3 a4 t1 t2 t3 t4 X1 X2 X3 F e5 e6
  cases hj:Av (a.1+p.at_.1,a.2+p.at_.2)with
  | true=>
   have x:=zH (B.o hj);rw[hj]at l;clear hj C B J;go_enter func105,ntmps105
   go_wp2_with(first
    | (go_at_call 54;first
      | (refine(q.o _).mono ?_;rintro e w1 ⟨rfl,b⟩;have j:=zH (zT m.o b);obtain⟨⟨k0,k1⟩,⟨k2,k3,k4,k5,k6⟩,k7,k8⟩:=v.o _ b;obtain⟨m0,m1⟩:=K.o _ b;have f:=zH b;clear b q)
      | (refine(l.o _).mono ?_;rintro e w3 ⟨rfl,k⟩;have s:=zH k;clear k l))
    | (go_at_call 62;refine(I.o _).mono ?_;rintro e w2 ⟨rfl,i⟩;have n:=zH (zT j.o i);obtain⟨⟨q0,q1⟩,⟨q2,q3,q4,q5,q6⟩,q7,q8⟩:=v.o _ (zT f.o i);clear i))
   go_ret;exact⟨by rw[x.o];rfl,(Below.alo n.o _).trans (s.o.mono (Below.alo n.o _).size)⟩
  | false=>
   have x:=zH (C.o hj);rw[hj]at l;clear hj C B;generalize decide (DJ r (a.1+p.at_.1,a.2+p.at_.2)=DJ r (0,0))=o at *
   go_enter func105,ntmps105
   go_wp2_with(first
    | (go_at_call 54;first
      | (refine(q.o _).mono ?_;rintro e w1 ⟨rfl,b⟩;have j:=zH (zT m.o b);obtain⟨⟨k0,k1⟩,⟨k2,k3,k4,k5,k6⟩,k7,k8⟩:=v.o _ b;obtain⟨m0,m1⟩:=K.o _ b;have f:=zH b;clear b q)
      | (refine(l.o _).mono ?_;rintro e w3 ⟨rfl,k⟩;have s:=zH k;obtain⟨⟨n0,n1⟩,_,n7,_⟩:=v.o _ ((zT f.o D.o).trans ((zA _ |>.trans (k.mono zP)).mono (zT f.o D.o).size));have m3:=(Blk.new w2 56 #[zi (a.1+p.at_.1),zi (a.2+p.at_.2)]).below k;obtain⟨m4,m5⟩:=AR m3;clear k l m3))
    | (go_at_call 62;refine(I.o _).mono ?_;rintro e w2 ⟨rfl,i⟩;have n:=zH (zT j.o i);obtain⟨⟨q0,q1⟩,⟨q2,q3,q4,q5,q6⟩,q7,q8⟩:=v.o _ (zT f.o i);have D:=zH i;clear i)
    | (go_at_call 146;refine(J.o _).mono ?_;rintro e w4 ⟨rfl,G⟩;have L:=zH (zT s.o G);clear G J))
   go_ret;exact⟨by rw[x.o];rfl,(Below.alo n.o _).trans (L.o.mono (Below.alo n.o _).size)⟩
def Fl(b:AG)(v:Pt):Bool:=decide (v.1<0)||(decide (b.length<v.1)||(decide (v.2<0)||decide (b.width<v.2)))
section
variable{b:AG}{ss:List Ae}{puts:List Am}{p:Am}
theorem pG(h:BV b=true):Bh b ss puts p=3:=by unfold Bh;rw[if_pos h]
theorem pH(h:BV b=false)(a:Af ss p=.error z):Bh b ss puts p=z:=by unfold Bh;rw[if_neg (by rw[h];decide),a]
theorem M9{r:lP}(a:Af ss p=.ok r):∃k s,p.shape=((k:Nat):Int)∧ss[k]?=some s:=by
 unfold Af at a;split at a
 ·cases a
 rename_i h;have f:0<=p.shape:=zO;have e:p.shape.toNat<ss.length:=zO;exact⟨p.shape.toNat,ss[p.shape.toNat],by omega,zq0 e⟩
variable{r:lP}{k:Nat}{s:Ae}
theorem ZC(h:BV b=false)(a:Af ss p=.ok r)(e:p.shape=(k:Int))(f:ss[k]?=some s)(g:BF s.grain false p.turn=false):Bh b ss puts p=12:=by
 unfold Bh;rw[if_neg (by rw[h];decide),a];simp only[e,Int.toNat_natCast,zq3,f,Option.getD_some];rw[if_pos g]
theorem pI(h:BV b=false)(a:Af ss p=.ok r)(e:p.shape=(k:Int))(f:ss[k]?=some s)(g:BF s.grain false p.turn=true)(i:r.any (Fl b)=true):Bh b ss puts p=13:=by
 unfold Bh;rw[if_neg (by rw[h];decide),a];simp only[e,Int.toNat_natCast,zq3,f,Option.getD_some];rw[if_neg (by rw[g];decide)];exact if_pos i
theorem ZD(h:BV b=false)(a:Af ss p=.ok r)(e:p.shape=(k:Int))(f:ss[k]?=some s)(g:BF s.grain false p.turn=true)(i:r.any (Fl b)=false)(j:s.match_=true)(l:CH (b.rx,b.ry) s.anchor p=false):Bh b ss puts p=15:=by
 unfold Bh;rw[if_neg (by rw[h];decide),a];simp only[e,Int.toNat_natCast,zq3,f,Option.getD_some];rw[if_neg (by rw[g];decide)];refine(if_neg (by show ¬(r.any (Fl b)=true);rw[i];decide)).trans ?_;rw[j,l];rfl
theorem gJ(h:BV b=false)(e:Af ss p=.ok r)(f:p.shape=(k:Int))(g:ss[k]?=some s)(i:BF s.grain false p.turn=true)(j:r.any (Fl b)=false)(a:s.match_=false∨CH (b.rx,b.ry) s.anchor p=true):Bh b ss puts p=Cu ss r puts:=by
 unfold Bh;rw[if_neg (by rw[h];decide),e];simp only[f,Int.toNat_natCast,zq3,g,Option.getD_some];rw[if_neg (by rw[i];decide)];refine(if_neg (by show ¬(r.any (Fl b)=true);rw[j];decide)).trans ?_;rw[if_neg];rcases a with a|a
 ·rw[a];simp
 rw[a];simp
theorem pJ{α : Type}{f : α->Bool}{l:List α}{x : α}(h:l[j]?=some x)(a:(l.take j).any f=false):(l.take (j+1)).any f=f x:=by
 rw[List.take_add_one,List.any_append,a,h];simp
theorem yK{α : Type}{f : α->Bool}{l:List α}{x : α}(h:l[j]?=some x)(a:f x=true):l.any f=true:=List.any_eq_true.2 ⟨x,zq2 h,a⟩
theorem ZE(h:Af ss q=.error z):Cu ss r (q::l)=z:=by rw[Cu,h]
theorem WF(h:Af ss q=.ok t)(a:BJ t r=.error z):Cu ss r (q::l)=z:=by rw[Cu,h];simp only[a]
theorem ZF(h:Af ss q=.ok t)(a:BJ t r=.ok true):Cu ss r (q::l)=14:=by rw[Cu,h];simp only[a]
theorem WG(h:Af ss q=.ok t)(a:BJ t r=.ok false):Cu ss r (q::l)=Cu ss r l:=by rw[Cu,h];simp only[a]
end
theorem Ik(h:Ab 5 Hs w A n l)(f:k<n):∃b a q,A=some ⟨b,a,none⟩∧b<w.heap.size∧l[k]?=some q∧zL w b (a+k*5) (zi q.shape)∧zL w b (a+k*5+1) (.bool q.turn.flip)∧zL w b (a+k*5+2) (zi q.turn.quarter)∧zL w b (a+k*5+3) (zi q.at_.1)∧zL w b (a+k*5+4) (zi q.at_.2):=by
 obtain⟨b,a,q,vs,rfl,g,i,rfl,e⟩:=h.at_ f;exact⟨b,a,q,rfl,g,i,e 0 _ rfl,e 1 _ rfl,e 2 _ rfl,e 3 _ rfl,e 4 _ rfl⟩
theorem Ez(h:Blk w g T #[a0,a1,a2,a3]):zL w g 0 a0∧zL w g 1 a1∧zL w g 2 a2∧zL w g 3 a3:=⟨h.c rfl,h.c rfl,h.c rfl,h.c rfl⟩
structure L3(w:World)(B:Nat)(A:oA)(n c:Nat)(l:lP):Prop where
 cell:w.cell? (ad B 0)=some (.slice A n c)
 lt:B<w.heap.size
 recs:Ab 2 Ad w A n l
 grid:∀p∈l,inG p
theorem L3.on{c:Nat}{l:lP}(h:L3 w B A n c l)(a:Bw w w'):L3 w' B A n c l:=
 ⟨(a.cell (p:=ad B 0) h.lt).trans h.cell,zs1 h.lt a.size,h.recs.on Aa a,h.grid⟩
theorem ZG{o1 o2 o3:Nat}{v d0 d1:Value}(b:B<w.heap.size)(e:g<w.heap.size)(h:zL w B 0 v∧(zL w g o1 a0∧zL w g (o1+1) a1)∧(zL w g o2 b0∧zL w g (o2+1) b1)∧(zL w g o3 d0∧zL w g (o3+1) d1))(a:Bw w w') :
  zL w' B 0 v∧(zL w' g o1 a0∧zL w' g (o1+1) a1)∧(zL w' g o2 b0∧zL w' g (o2+1) b1)∧(zL w' g o3 d0∧zL w' g (o3+1) d1):=
 ⟨(a.cell (p:=ad B 0) b).trans h.1,RX e h.2 a⟩
theorem L4(B n c i:Nat)(A:oA)(l:lP)(w:World)(h:L3 w B A n c l)(hi:i<n)(K:n<=1000) :
  CP 90 #[zi (i:Int),.pointer (sa B 0)] w (zR (.tuple #[.agg #[zi (DB l i).1,zi (DB l i).2],.agg #[zi (vtx l i).1,zi (vtx l i).2],.agg #[zi (vtx l (i+1)).1,zi (vtx l (i+1)).2]]) w):=by
 obtain⟨m1,j⟩:=zG ((i+n-1)%n);obtain⟨m2,k⟩:=zG ((i+1)%n);have l1:m1<n:=by rw[<-j];exact Nat.mod_lt _ zO
 have l2:m2<n:=by rw[<-k];exact Nat.mod_lt _ zO
 have g:=h.recs;obtain⟨b,a,p,rfl,s,t,c0,c1⟩:=Ap g l1;obtain⟨b2,o,q,f,_,C,c2,c3⟩:=Ap g hi;injection f with f
 injection f with e1 e2
 subst e1;subst e2;obtain⟨b2,o,r,f,_,D,c4,c5⟩:=Ap g l2;injection f with f
 injection f with e1 e2
 subst e1;subst e2;have e1:DB l i=p:=by rw[DB,Dl g.len (by rw[g.len];exact j) t]
 have e2:vtx l i=q:=Dl g.len (Nat.mod_eq_of_lt hi) C;have e3:vtx l (i+1)=r:=Dl g.len k D;rw[e1,e2,e3];have I:Hid (Bw w (zw (zw (zw w #[zi 0,zi 0] 56) #[zi 0,zi 0] 56) #[zi 0,zi 0] 56)):=((zA _).alloc zP _).alloc zQ _;have F:=λw'=>zH (ZG (w':=w') h.lt s ⟨h.cell,⟨c0,c1⟩,⟨c2,c3⟩,c4,c5⟩)
 have J:=h.lt;have G:B<w.heap.size+1:=zO;have H:B<w.heap.size+1+1:=zO;have E:=h.cell;obtain⟨i1,i2⟩:=zI (k:=i) (n:=n) (by omega);have i3:IntKind.i64.wrap ((i:Int)+(n:Int))=((i+n:Nat):Int):=by rw[zs5 _ zO];omega
 have i4:IntKind.i64.wrap (((i+n:Nat):Int)-1)=((i+n-1:Nat):Int):=by rw[zs5 _ zO];omega
 have i5:IntKind.i64.wrap ((i:Int)+1)=((i+1:Nat):Int):=by rw[zs5 _ zO];omega
 have i6:(((i+n-1:Nat):Int)).tmod (n:Int)=(m1:Int):=by rw[<-j];rfl
 have i7:(((i+1:Nat):Int)).tmod (n:Int)=(m2:Int):=by rw[<-k];rfl
 have i8:¬(n:Int)=0:=zO;have i8b:¬n=0:=zO;obtain⟨i9,i10⟩:=zI (k:=m1) (n:=n) (by omega);obtain⟨i11,i12⟩:=zI (k:=m2) (n:=n) (by omega);clear j k g t C D c0 c1 c2 c3 c4 c5 h e1 e2 e3;generalize(i+n:Nat)=x at *
 generalize(x-1:Nat)=y at *
 generalize(i+1:Nat)=z at *
 go_enter func90,ntmps90
 go_wp2_with fail
 go_region_held3(λw'=>w'.cell? (ad B 0)=some (.slice (sa b a) n c)∧(w'.cell? (ad b (a+m1*2))=some (zi p.1)∧w'.cell? (ad b (a+m1*2+1))=some (zi p.2))∧(w'.cell? (ad b (a+i*2))=some (zi q.1)∧w'.cell? (ad b (a+i*2+1))=some (zi q.2))∧(w'.cell? (ad b (a+m2*2))=some (zi r.1)∧w'.cell? (ad b (a+m2*2+1))=some (zi r.2)))
  ((refine(F _).out ?_;repeat(first|(with_reducible exact zJ)|(with_reducible refine Below.drew ?_)|(with_reducible refine Below.alo ?_ _)|(with_reducible refine Below.setCell ?_ zP _))))
  (fail)
 all_goals
  go_wp2_with fail
 refine bodyPost_ret (v:=.tuple #[.agg #[zi p.1,zi p.2],.agg #[zi q.1,zi q.2],.agg #[zi r.1,zi r.2]]) (by simp[results,results90,go_sem]) rfl ⟨rfl,?_⟩;exact(((zA _).alloc zP _).alloc zQ _).drew
def Jn(w:World)(C B:Nat):Prop:=w.cell? (ad C 0)=some (.func (.func 90) #[] #[.pointer (sa B 0)])∧C<w.heap.size
theorem Jn.on(h:Jn w C B)(a:Bw w w'):Jn w' C B:=⟨(a.cell (p:=ad C 0) h.2).trans h.1,zs1 h.2 a.size⟩
theorem Uu(B C n c i:Nat)(A:oA)(l:lP)(w:World)(h:L3 w B A n c l)(g:Jn w C B)(hi:i<n)(p:n<=1000) :
  CP 91 #[zi (i:Int),.pointer (sa C 0)] w (zR (.bool (El l i)) w):=by
 have a:0<l.length:=by rw[h.recs.len];omega
 have j:=zH (L4 B n c i A l w h hi p);have k:=zH (λW=>DQ (DB l i) (vtx l i) (vtx l (i+1)) W (Cy h.grid a _) (Cy h.grid a _) (Cy h.grid a _));have q:Hid (El l i=(Ao (DB l i) (vtx l i) (vtx l (i+1)) == 0)):=by rw[Hid,El,Xz]
 have eg:=enters_of func90 zk rfl;have r:=g.1;clear h g;go_enter func91,ntmps91
 go_wp2_with(first
  | (go_at_call 90;refine j.o.mono ?_;rintro e w1 ⟨rfl,b⟩;have f:=zH b;clear b)
  | (go_at_call 92;refine(k.o _).mono ?_;rintro e w2 ⟨rfl,b⟩;have m:=zH (zT f.o b);clear b))
 go_ret;exact⟨by rw[q.o];rfl,m.o⟩
structure Aao(g:Nat)(caps:aV)(n:Nat)(f:Nat->Bool)(w:World):Prop where
 calls:∀(i:Nat)(W:World),i<n->Bw w W->Calls prog g (#[zi (i:Int)]++caps) W (zR (.bool (f i)) W)
 enters:∀args w,(callFunc g args).run prog w=.ok (.enter g args) w
def FM(n:Nat)(f:Nat->Bool):Int:=match(List.range n).find? f with|some i=>(i:Int)|none=>-1
theorem gK{f:Nat->Bool}(a:k<n)(b:f k=true)(h:∀j,j<k->f j=false):FM n f=(k:Int):=by
 unfold FM
 have:(List.range n).find? f=some k:=by
  rw[List.find?_eq_some_iff_getElem];refine⟨b,k,by simpa using a,by simp,λj e=>?_⟩;simp[h j e]
 rw[this]
theorem WH{f:Nat->Bool}(h:∀j,j<n->f j=false):FM n f = -1:=by
 unfold FM
 have:(List.range n).find? f=none:=by
  rw[List.find?_eq_none];intro j a;rw[zt8]at a;simp[h j a]
 rw[this]
theorem R8(g:Nat)(v:aV)(n:Nat)(f:Nat->Bool)(w:World)(h:Aao g v n f w)(y:n<=1000000) :
  CP 95 #[zi (n:Int),.func (.func g) #[] v] w (zR (zi (FM n f)) w):=by
 have eg:=h.enters;have t:=zH h.calls;clear h;go_enter func95,ntmps95
 go_wp2_with fail
 go_loopw[5,7,9,10,11,12] (λ_ i _ _ _ _ wr=>∃k:Nat,k<=n∧i=zi (k:Int)∧Hid (∀j,j<k->f j=false)∧Hid (Bw w wr)) (λ_ i _ _ _ _ _=>n-(intOf i).toNat)
 case atStart=>exact⟨0,zs3 _,rfl,(λj x=>by omega),zJ⟩
 case round=>
  obtain⟨k,z,rfl,a,b⟩:=hrel;by_cases r:k<n
  ·have l:=t.o k wr r b.o;have i1:(k:Int)<(n:Int):=zO
   cases hq:f k
   ·rw[hq]at l;have s:=zH l
    have m:Hid (∀j,j<k+1->f j=false):=λj x=>by
     by_cases e:j=k
     ·subst e;exact hq
     exact a.out j zO
    clear l hq;go_wp2_with(go_at_fn g;refine s.o.mono ?_;rintro e w1 ⟨rfl,p⟩;have q:=zH (zT b.o p);clear p)
    go_roundw
    case rel=>exact⟨k+1,by omega,by go_num,m,q.o⟩
    case measure=>exact zM
   rw[hq]at l;have s:=zH l;have m:Hid (FM n f=(k:Int)):=gK r hq a.out;clear l hq;go_wp2_with(go_at_fn g;refine s.o.mono ?_;rintro e w1 ⟨rfl,p⟩;have q:=zH (zT b.o p);clear p)
   go_ret;exact⟨by rw[m.o];rfl,q.o⟩
  obtain rfl:k=n:=zO;have m:Hid (FM k f = -1):=WH a.out
  go_wp2_with fail
  go_ret;exact⟨by rw[m.o];rfl,b.o⟩
def IF(a b c q:Pt):Bool:=decide (q=a)||(decide (q=b)||(decide (q=c)||decide (IQ a b c q<0)))
theorem uR(l:lP)(i:Nat):Iz l i=(decide (0<Ao (DB l i) (vtx l i) (vtx l (i+1)))&&l.all (IF (DB l i) (vtx l i) (vtx l (i+1)))):=rfl
theorem pK{q:Pt}(e:q≠a)(f:q≠b)(g:q≠c):IF a b c q=decide (IQ a b c q<0):=by
 unfold IF;rw[zu0 e,zu0 f,zu0 g];rfl
theorem gL(e:Bw (zw (zw (zw w #[zi a.1,zi a.2] 56) #[zi b.1,zi b.2] 56) #[zi c.1,zi c.2] 56) w') :
  Blk w' w.heap.size 56 #[zi a.1,zi a.2]∧Blk w' (w.heap.size+1) 56 #[zi b.1,zi b.2]∧Blk w' (w.heap.size+1+1) 56 #[zi c.1,zi c.2]∧Bw w w':=
 ⟨(((Blk.new w _ _).alloc _).alloc _).below e,((Blk.new' _ _ _ zP).alloc _).below e,(Blk.new' _ _ _ zP).below e,Ag (ON w a b c) e⟩
theorem pL(B C n c' i:Nat)(A:oA)(l:lP)(w:World)(h:L3 w B A n c' l)(hC:Jn w C B)(hi:i<n)(hn:n<=1000) :
  CP 93 #[zi (i:Int),.pointer (sa C 0),.pointer (sa B 0)] w (zR (.bool (Iz l i)) w):=by
 have E:0<l.length:=by rw[h.recs.len];omega
 have HA:=zH h;have HL:=zH h.recs.len;have Q:=zH (L4 B n c' i A l w h hi hn);have v:=zH (uR l i);have F:=zH (Cy h.grid E (i+l.length-1));have R:=zH (Cy h.grid E i);have S:=zH (Cy h.grid E (i+1));change Hid (inG (DB l i))at F;generalize DB l i=a at *
 generalize vtx l i=b at *
 generalize vtx l (i+1)=c at *
 have G:=zH (λW=>DQ a b c W F.o R.o S.o);have eg:=enters_of func90 zk rfl;have hc:=hC.1;have a7:=h.lt;obtain⟨X,O⟩:=zG (Ao a b c);rw[O]at G v;clear h hC O;by_cases hx:X<=0
 ·have r:Hid (Iz l i=false):=by rw[Hid,v.o,zu0 zO];rfl
  go_enter func93,ntmps93
  go_wp2_with(first
   | (go_at_call 90;refine Q.o.mono ?_;rintro e w1 ⟨rfl,m⟩;have t:=zH m;clear m)
   | (go_at_call 92;refine(G.o _).mono ?_;rintro e w2 ⟨rfl,m⟩;have f:=zH (t.o.trans (Ag (((zA (.cells #[zi a.1,zi a.2] 56)).alloc zP (.cells #[zi b.1,zi b.2] 56)).alloc zQ (.cells #[zi c.1,zi c.2] 56)) m |>.mono t.o.size));clear m))
  go_ret;exact⟨by rw[r.o];rfl,f.o⟩
 go_enter func93,ntmps93
 go_wp2_with(first
  | (go_at_call 90;refine Q.o.mono ?_;rintro e w1 ⟨rfl,m⟩;have t:=zH m;clear m)
  | (go_at_call 92;refine(G.o _).mono ?_;rintro e w2 ⟨rfl,m⟩;have H:=zH (gL m);have I:=zH (t.o.trans ((gL m).2.2.2.mono t.o.size));have a2:=(HA.o.on I.o).cell;clear m))
 clear a2
 go_loopw[9,24,26,27,28,29,30,31,32,33,34,35,36,37,38,39,40,41,42,43,44,45,46,47,48,49] (λ_ i _ _ _ _ _ _ _ _ _ _ _ _ _ _ _ _ _ _ _ _ _ _ _ _ wr=>∃k:Nat,k<=n∧i=zi (k:Int)∧Hid (∀(j:Nat)(q:Pt),j<k->l[j]?=some q->IF a b c q=true)∧Hid (Bw w2 wr)) (λ_ i _ _ _ _ _ _ _ _ _ _ _ _ _ _ _ _ _ _ _ _ _ _ _ _ _=>n-(intOf i).toNat)
 case atStart=>exact⟨0,zs3 _,rfl,(λj q P=>by omega),zJ⟩
 case round=>
  obtain⟨k,hk,rfl,J,f⟩:=hrel;have x:=zH (zT I.o f.o);by_cases a3:k<n
  ·obtain⟨b1,a8,q,rfl,a9,K,c0,c1⟩:=Ap (HA.o.on x.o).recs a3;have HQ:=zH K;have a4:=zH (HA.o.grid q (zq2 K));have U:=zH (H.o.1.below f.o);have V:=zH (H.o.2.1.below f.o);have Y:=zH (H.o.2.2.1.below f.o);obtain⟨x0,x1⟩:=AR U.o;obtain⟨x2,x3⟩:=AR V.o;obtain⟨x4,x5⟩:=AR Y.o;have xl:=U.o.lt;have xl1:=V.o.lt;have xl2:=Y.o.lt;have s:Hid (Bw wr (zw wr #[zi q.1,zi q.2] 56)):=zA _;have L:=zH (λW g T (O:Blk W g T #[zi a.1,zi a.2,zi b.1,zi b.2,zi c.1,zi c.2])=>gH g T a b c q W O F.o R.o S.o a4.o);obtain⟨i1,i2⟩:=zI (k:=k) (n:=n) (by omega)
   have y:Hid (IF a b c q=true->∀(j:Nat)(p:Pt),j<k+1->l[j]?=some p->IF a b c p=true):=λhf j p P hp=>by
    by_cases e:j=k
    ·subst e;rw[HQ.o]at hp;rw[<-zs6 hp];exact hf
    exact J.out j p zO hp
   have Z:=λW=>CL q a W
   have M:=λW=>CL q b W
   have D:=λW=>CL q c W
   clear K;by_cases ea:q=a
   ·have r:=zH (y.o (by unfold IF;rw[zu1 ea];rfl));simp only[zu1 ea]at Z;clear ea M D
    go_wp2_with fail
    go_roundw
    case rel=>
     refine⟨k+1,by omega,by go_num,r,?_⟩;exact zT f.o s.o
    case measure=>exact zM
   simp only[zu0 ea]at Z;by_cases eb:q=b
   ·have r:=zH (y.o (by unfold IF;rw[zu1 eb,Bool.true_or,Bool.or_true]));simp only[zu1 eb]at M;clear ea eb D
    go_wp2_with fail
    go_roundw
    case rel=>
     refine⟨k+1,by omega,by go_num,r,?_⟩;exact zT f.o s.o
    case measure=>exact zM
   simp only[zu0 eb]at M;by_cases ec:q=c
   ·have r:=zH (y.o (by unfold IF;rw[zu1 ec,Bool.true_or,Bool.or_true,Bool.or_true]));simp only[zu1 ec]at D;clear ea eb ec
    go_wp2_with fail
    go_roundw
    case rel=>
     refine⟨k+1,by omega,by go_num,r,?_⟩;exact zT f.o s.o
    case measure=>exact zM
   simp only[zu0 ec]at D;have N:=zH (pK ea eb ec);obtain⟨z,hz⟩:=zG (IQ a b c q);rw[hz]at N;simp only[hz]at L;clear ea eb ec hz;have a0:Hid (∀o w',Bw ((zw wr #[zi q.1,zi q.2] 56).alloc o) w'->Bw wr w'):=λo w' hb=>Ag ((zA (.cells #[zi q.1,zi q.2] 56)).alloc zP o) hb
   by_cases a1:z<0
   ·have r:=zH (y.o (by rw[N.o,zu1 a1]));have a5:¬(0<=z):=zO;go_wp2_with(go_at_call 94;refine(L.o _ _ _ (by exact Blk.new' _ _ _ zP)).mono ?_;rintro e w5 ⟨rfl,m⟩;have s:=zH (a0.o _ _ m);clear m)
    go_roundw
    case rel=>
     refine⟨k+1,by omega,by go_num,r,?_⟩;exact zT f.o s.o
    case measure=>exact zM
   have r:Hid (Iz l i=false):=by
    have a6:IF a b c q=false:=by rw[N.o,zu0 a1]
    rw[Hid,v.o,Bool.and_eq_false_iff];right;rw[List.all_eq_false];exact⟨q,zq2 HQ.o,by rw[a6];simp⟩
   have a5:0<=z:=zO;go_wp2_with(go_at_call 94;refine(L.o _ _ _ (by exact Blk.new' _ _ _ zP)).mono ?_;rintro e w5 ⟨rfl,m⟩;have s:=zH (a0.o _ _ m);clear m)
   go_ret;exact⟨by rw[r.o];rfl,zT x.o s.o⟩
  obtain rfl:k=n:=zO
  have r:Hid (Iz l i=true):=by
   rw[Hid,v.o,zu1 zO,Bool.true_and,List.all_eq_true];intro q K;obtain⟨j,P⟩:=List.getElem?_of_mem K;exact J.out j q (by have:=(zq1.1 P).1;rw[HL.o]at this;exact this) P
  go_wp2_with fail
  go_ret;exact⟨by rw[r.o];rfl,x.o⟩
end Go.Proofs.YteafekbddckemaaGreatDoor
