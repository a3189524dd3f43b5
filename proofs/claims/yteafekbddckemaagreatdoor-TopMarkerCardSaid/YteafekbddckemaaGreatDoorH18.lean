/- Parts of the proof. -/
import Derived.Test.YteafekbddckemaaGreatDoorH17
set_option maxRecDepth 100000
set_option maxHeartbeats 40000000
namespace Go.Proofs.YteafekbddckemaaGreatDoor
open Tryz Go.RowKit
open Go.Lib hiding intOf
variable{A:oA}{T t:TypeId}{a b:Pt}{g k n:Nat}{l ss:List Ae}{p:Am}{r:lP}{s:Ae}{w w' w1 w2:World}{z:Int}{α β:Type}
def loP(l:Pt)(s:Pt):Pt:=(min l.1 s.1,min l.2 s.2)
def hiP(l:Pt)(s:Pt):Pt:=(max l.1 s.1,max l.2 s.2)
theorem Up{p:lP}(h:An p=0):EK p=.ok ⟨(p.foldl loP (vtx p 0)).1,(p.foldl loP (vtx p 0)).2,(p.foldl hiP (vtx p 0)).1-(p.foldl loP (vtx p 0)).1,(p.foldl hiP (vtx p 0)).2-(p.foldl loP (vtx p 0)).2⟩:=by
 unfold EK;rw[if_neg (by simpa using h)];rfl
theorem RY(f : α->β->α)(a : α){l:List β}{x : β}(h:l[k]?=some x):(l.take (k+1)).foldl f a=f ((l.take k).foldl f a) x:=by
 rw[List.take_add_one,h,List.foldl_append];rfl
theorem yG(e:inG a)(f:inG b):inG (loP a b):=by
 obtain⟨a1,a2,a3,a4⟩:=e;obtain⟨b1,b2,b3,b4⟩:=f;refine⟨?_,?_,?_,?_⟩ <;> simp only[loP] <;> omega
theorem yH(e:inG a)(f:inG b):inG (hiP a b):=by
 obtain⟨a1,a2,a3,a4⟩:=e;obtain⟨b1,b2,b3,b4⟩:=f;refine⟨?_,?_,?_,?_⟩ <;> simp only[hiP] <;> omega
def J3(p:lP)(w:World)(e:Ending)(w':World):Prop:=Bw w w'∧match EK p with
 | .ok k=>e=.returned (.tuple #[.agg #[zi k.x,zi k.y,zi k.w,zi k.h],zi 0])
 | .error z=>e=.returned (.tuple #[.agg #[zi 0,zi 0,zi 0,zi 0],zi z])
theorem XD(A:oA)(n c:Nat)(l:lP)(w:World)(K:Ab 2 Ad w A n l)(hc:n<=c)(hn:n<=1000000) :
  CP 68 #[.slice A n c] w (J3 l w):=by
 have HA:=zH K;have H:Bw w (zw w #[zi 0,zi 0,zi 0,zi 0] 156):=zA _;have HF:=zH (FJ A n c l _ (K.on Aa H) hc hn);have V:=zH (Blk.new w 156 #[zi 0,zi 0,zi 0,zi 0]);have I:=zH H;obtain⟨E,L⟩:=zG (An l);rw[L]at HF;by_cases S:E=0
 ·subst S;obtain⟨k1,k2,k3,k4⟩:=DN L;rw[K.len]at k1 k2;have hg:∀p∈l,inG p:=λp T=>DZ.1 (by rw[List.any_eq_false]at k3;simpa using k3 p T)
  have HG:=zH hg;have HL:=zH K.len;obtain⟨Q,D⟩:=zG (J3 l w)
  have HQ:Hid (Q=λe w'=>Bw w w'∧e=.returned (.tuple #[.agg #[zi (l.foldl loP (vtx l 0)).1,zi (l.foldl loP (vtx l 0)).2,zi ((l.foldl hiP (vtx l 0)).1-(l.foldl loP (vtx l 0)).1),zi ((l.foldl hiP (vtx l 0)).2-(l.foldl loP (vtx l 0)).2)],zi 0])):=by
   rw[Hid,<-D];funext e w';unfold J3;rw[Up L]
  rw[D];clear K L k3 k4 hg H D;go_enter func68,ntmps68
  go_upto_region 4 with(go_at_call 55;refine HF.o.mono ?_;rintro e w1 ⟨rfl,t⟩;have C:=zH (zT I.o t);have f:=zH (V.o.below t);clear t)
  obtain⟨b,J,p,rfl,W,T,c0,c1⟩:=Ap (HA.o.on Aa C.o) (j:=0) zO;have HP:=zH T;have ae:=f.o.lt;have i2:(0:Int)<(n:Int):=zO;have i3:0<n:=zO;simp only[Nat.zero_mul,Nat.add_zero]at c0 c1;clear T
  go_cut [5,6] (λs5 s6 wx=>∃g h:Nat,s5=.pointer (sa g 0)∧s6=.pointer (sa h 0)∧g≠h∧w1.heap.size<=g∧w1.heap.size<=h∧Blk wx g 56 #[zi p.1,zi p.2]∧Blk wx h 56 #[zi p.1,zi p.2]∧Bw w1 wx)
  case first=>
   have HK:=λw'=>zH (λ(hb:Bw w1 w')=>zu2 ((hb.cell (p:=ad b J) W).trans c0) ((hb.cell (p:=ad b (J+1)) W).trans c1))
   go_region_held3(λw'=>w'.cell? (ad b J)=some (zi p.1)∧w'.cell? (ad b (J+1))=some (zi p.2))
    ((refine(HK _).out ?_;repeat(first|(with_reducible exact zJ)|(with_reducible refine Below.drew ?_)|(with_reducible refine Below.alo ?_ _)|(with_reducible refine Below.setCell ?_ zP _))))
    (fail)
   all_goals
    go_wp2_with fail
    go_meet
   all_goals
    refine⟨_,_,rfl,rfl,by omega,by omega,by omega,?_,?_,?_⟩
    ·first|(exact(Blk.new w1 _ _).alloc _)|(exact Blk.new' _ _ _ zP)
    ·first|(exact(Blk.new w1 _ _).alloc _)|(exact Blk.new' _ _ _ zP)
    repeat(first|(with_reducible exact zJ)|(with_reducible refine Ai ?_ _)|(with_reducible refine Below.drew ?_)|(with_reducible refine Below.alo ?_ _)|(with_reducible refine Below.setCell ?_ zP _))
  case rest=>
   obtain⟨g,h,rfl,rfl,M,af,ag,m,r,N⟩:=hcut;have a5:=zH (zT C.o N);have a6:=zH (f.o.below N);have X:=zH (zu2 m r);have a7:Hid (vtx l 0=p):=Dl HL.o (Nat.zero_mod n) HP.o;have O:=HG.o p (zq2 HP.o);have Y:=zH O;have ah:=f.o.lt;clear m r N c0 c1 O
   go_wp2_with fail
   go_loopw[8,23,25,26,27,28,29,30,31,32,33,34,35,36,37,38,39,40,41,42,43,44,45,46,47,48] (λ_ i _ _ _ _ _ _ _ _ _ _ _ _ _ _ _ _ _ _ _ _ _ _ _ _ wr=>∃k:Nat,k<=n∧i=zi (k:Int)∧∃a z:Pt,Hid ((l.take k).foldl loP p=a∧(l.take k).foldl hiP p=z∧inG a∧inG z)∧Blk wr g 56 #[zi a.1,zi a.2]∧Blk wr h 56 #[zi z.1,zi z.2]∧Blk wr w.heap.size 156 #[zi 0,zi 0,zi 0,zi 0]∧Bw w wr) (λ_ i _ _ _ _ _ _ _ _ _ _ _ _ _ _ _ _ _ _ _ _ _ _ _ _ _=>n-(intOf i).toNat)
   case atStart=>exact⟨0,zs3 _,rfl,p,p,⟨rfl,rfl,Y.o,Y.o⟩,X.o.1,X.o.2,a6.o,a5.o⟩
   case round=>
    obtain⟨k,hk,rfl,a,z,x,m,r,s,y⟩:=hrel;have HB:=zH y;have P:=zH (zu2 m (zu2 r s));obtain⟨_,_,F,G⟩:=x.o;by_cases a8:k<n
    ·obtain⟨b2,ab,q,R,ac,U,d0,d1⟩:=Ap (HA.o.on Aa y) a8;injection R with R
     injection R with e1 e2
     subst e1;subst e2;have a9:=zH (RY loP p U);have aa:=zH (RY hiP p U);have Z:=zH (HG.o q (zq2 U));have f0:=m.c (i:=0) rfl;have f1:=m.c (i:=1) rfl;have f2:=m.frozen 0;have f3:=m.frozen 1;have f4:=m.lt;have k0:=r.c (i:=0) rfl;have k1:=r.c (i:=1) rfl;have k2:=r.frozen 0;have k3:=r.frozen 1;have k4:=r.lt;obtain⟨j1,j2⟩:=zI (k:=k) (n:=n) (by omega);have a0:h≠g:=λe=>M e.symm
     clear U m r s y F G
     go_wp2_with fail
     go_roundw
     case rel=>
      refine⟨k+1,by omega,by go_num,(min a.1 q.1,min a.2 q.2),(max z.1 q.1,max z.2 q.2),⟨?_,?_,yG x.o.2.2.1 Z.o,yH x.o.2.2.2 Z.o⟩,?_,?_,?_,?_⟩
      ·rw[a9.o,x.o.1];rfl
      ·rw[aa.o,x.o.2.1];rfl
      ·exact((((FI P.o.1 _ _).far (by simpa using M) _).far (by simpa using M) _).alloc _)
      ·exact(FI ((P.o.2.1.far (by simpa using a0) _).far (by simpa using a0) _) _ _).alloc _
      ·exact((((P.o.2.2.far zQ _).far zQ _).far zQ _).far zQ _).alloc _
      exact((((HB.o.setCell zQ _).setCell zQ _).setCell zQ _).setCell zQ _).alloc (by simp;exact HB.o.size) _
     case measure=>exact zM
    obtain rfl:k=n:=zO;have f0:=m.c (i:=0) rfl;have f1:=m.c (i:=1) rfl;have f4:=m.lt;have k0:=r.c (i:=0) rfl;have k1:=r.c (i:=1) rfl;have k4:=r.lt;have y0:=s.c (i:=0) rfl;have y1:=s.c (i:=1) rfl;have y2:=s.c (i:=2) rfl;have y3:=s.c (i:=3) rfl;have y4:=s.frozen 0;have y5:=s.frozen 1;have y6:=s.frozen 2;have y7:=s.frozen 3;have y8:=s.lt;obtain⟨⟨a1,a2,a3,a4⟩,z1,z2,z3,z4⟩:=zu2 F G;have w1':IntKind.i64.wrap (z.1-a.1)=z.1-a.1:=zs5 _ zO;have w2':IntKind.i64.wrap (z.2-a.2)=z.2-a.2:=zs5 _ zO
    have HE:Hid (l.foldl loP (vtx l 0)=a∧l.foldl hiP (vtx l 0)=z):=by
     have h1:=x.o.1;have h2:=x.o.2.1;rw[zq4 (by rw[HL.o];exact zs2 _)]at h1 h2;rw[a7.o];exact⟨h1,h2⟩
    have B:Hid (Blk ((((wr.setCell (ad w.heap.size 0) (zi a.1)).setCell (ad w.heap.size 1) (zi a.2)).setCell (ad w.heap.size 2) (zi (z.1-a.1))).setCell (ad w.heap.size 3) (zi (z.2-a.2))) w.heap.size 156 #[zi a.1,zi a.2,zi (z.1-a.1),zi (z.2-a.2)]):=by
     have:=(((s.set_ 0 (zi a.1)).set_ 1 (zi a.2)).set_ 2 (zi (z.1-a.1))).set_ 3 (zi (z.2-a.2));refine zH ?_;simpa using this
    clear a1 a2 a3 a4 z1 z2 z3 z4 m r s y F G
    go_wp2_with fail
    have v0:=B.o.c (i:=0) rfl;have v1:=B.o.c (i:=1) rfl;have v2:=B.o.c (i:=2) rfl;have v3:=B.o.c (i:=3) rfl;refine bodyPost_ret (v:=.tuple #[.agg #[zi a.1,zi a.2,zi (z.1-a.1),zi (z.2-a.2)],zi 0]) (by simp[results,results68,go_sem,v0,v1,v2,v3]) rfl ?_;rw[HQ.o,HE.o.1,HE.o.2];exact⟨(((HB.o.setCell zP _).setCell zP _).setCell zP _).setCell zP _,rfl⟩
 have ai:(E != 0)=true:=by simpa using S
 obtain⟨Q,D⟩:=zG (J3 l w)
 have HQ:Hid (Q=λe w'=>Bw w w'∧e=.returned (.tuple #[.agg #[zi 0,zi 0,zi 0,zi 0],zi E])):=by
  rw[Hid,<-D];funext e w';unfold J3 EK;rw[L,if_pos S]
 rw[D];clear K L H D S;go_enter func68,ntmps68;go_wp2_with(go_at_call 55;refine HF.o.mono ?_;rintro e w1 ⟨rfl,t⟩;have C:=zH (zT I.o t);have f:=zH (V.o.below t);have y0:=f.o.c (i:=0) rfl;have y1:=f.o.c (i:=1) rfl;have y2:=f.o.c (i:=2) rfl;have y3:=f.o.c (i:=3) rfl;have y4:=f.o.frozen 0;have y5:=f.o.frozen 1;have y6:=f.o.frozen 2;have y7:=f.o.frozen 3;have y8:=f.o.lt;clear t)
 have B:Hid (Blk ((((w1.setCell (ad w.heap.size 0) (zi 0)).setCell (ad w.heap.size 1) (zi 0)).setCell (ad w.heap.size 2) (zi 0)).setCell (ad w.heap.size 3) (zi 0)) w.heap.size 156 #[zi 0,zi 0,zi 0,zi 0]):=by
  have:=(((f.o.set_ 0 (zi 0)).set_ 1 (zi 0)).set_ 2 (zi 0)).set_ 3 (zi 0);refine zH ?_;simpa using this
 have v0:=B.o.c (i:=0) rfl;have v1:=B.o.c (i:=1) rfl;have v2:=B.o.c (i:=2) rfl;have v3:=B.o.c (i:=3) rfl;refine bodyPost_ret (v:=.tuple #[.agg #[zi 0,zi 0,zi 0,zi 0],zi E]) (by simp[results,results68,go_sem,v0,v1,v2,v3]) rfl ?_;rw[HQ.o];exact⟨(((C.o.setCell zP _).setCell zP _).setCell zP _).setCell zP _,rfl⟩
theorem Zt(p:Pt)(w:World):CP 132 #[.agg #[zi p.1,zi p.2]] w (zR (.bool (Av p)) w):=by
 have a:=zH (CW p w);obtain⟨x,y⟩:=p;simp only at a⊢
 by_cases b:x < -1048576
 ·go_enter func132,ntmps132;go_wp2;go_ret;exact⟨by simp[Av,b],a.o⟩
 by_cases f:1048576<x
 ·go_enter func132,ntmps132;go_wp2;go_ret;exact⟨by simp[Av,f],a.o⟩
 by_cases g:y < -1048576
 ·go_enter func132,ntmps132;go_wp2;go_ret;exact⟨by simp[Av,g],a.o⟩
 have i:Hid (Av (x,y)=decide (1048576<y)):=by
  unfold Av;simp only;rw[zu0 b,zu0 f,zu0 g];rfl
 go_enter func132,ntmps132;go_wp2;go_ret;exact⟨by rw[i.o];rfl,a.o⟩
theorem L0(p:Pt)(w:World):CP 54 #[.agg #[zi p.1,zi p.2]] w (zR (.bool (Av p)) w):=by
 have a:=zH (CW p w);obtain⟨x,y⟩:=p;simp only at a⊢
 by_cases b:x < -1048576
 ·go_enter func54,ntmps54;go_wp2;go_ret;exact⟨by simp[Av,b],a.o⟩
 by_cases f:1048576<x
 ·go_enter func54,ntmps54;go_wp2;go_ret;exact⟨by simp[Av,f],a.o⟩
 by_cases g:y < -1048576
 ·go_enter func54,ntmps54;go_wp2;go_ret;exact⟨by simp[Av,g],a.o⟩
 have i:Hid (Av (x,y)=decide (1048576<y)):=by
  unfold Av;simp only;rw[zu0 b,zu0 f,zu0 g];rfl
 go_enter func54,ntmps54;go_wp2;go_ret;exact⟨by rw[i.o];rfl,a.o⟩
theorem PU(p:Pt)(w:World):CP 142 #[.agg #[zi p.1,zi p.2]] w (zR (.bool (Av p)) w):=by
 have a:=zH (CW p w);obtain⟨x,y⟩:=p;simp only at a⊢
 by_cases b:x < -1048576
 ·go_enter func142,ntmps142;go_wp2;go_ret;exact⟨by simp[Av,b],a.o⟩
 by_cases f:1048576<x
 ·go_enter func142,ntmps142;go_wp2;go_ret;exact⟨by simp[Av,f],a.o⟩
 by_cases g:y < -1048576
 ·go_enter func142,ntmps142;go_wp2;go_ret;exact⟨by simp[Av,g],a.o⟩
 have i:Hid (Av (x,y)=decide (1048576<y)):=by
  unfold Av;simp only;rw[zu0 b,zu0 f,zu0 g];rfl
 go_enter func142,ntmps142;go_wp2;go_ret;exact⟨by rw[i.o];rfl,a.o⟩
theorem Zu(p:Pt)(w:World):CP 274 #[.agg #[zi p.1,zi p.2]] w (zR (.bool (Em p)) w):=by
 have a:=zH (CW p w);obtain⟨x,y⟩:=p;simp only at a⊢
 by_cases b:x < -4194304
 ·go_enter func274,ntmps274;go_wp2;go_ret;exact⟨by simp[Em,b],a.o⟩
 by_cases f:4194304<x
 ·go_enter func274,ntmps274;go_wp2;go_ret;exact⟨by simp[Em,f],a.o⟩
 by_cases g:y < -4194304
 ·go_enter func274,ntmps274;go_wp2;go_ret;exact⟨by simp[Em,g],a.o⟩
 have i:Hid (Em (x,y)=decide (4194304<y)):=by
  unfold Em;simp only;rw[zu0 b,zu0 f,zu0 g];rfl
 go_enter func274,ntmps274;go_wp2;go_ret;exact⟨by rw[i.o];rfl,a.o⟩
theorem XE:Ps 274 Em:=⟨Zu,enters_of func274 zk rfl⟩
def inC(p:Pt):Prop:=-4194304<=p.1∧p.1<=4194304∧-4194304<=p.2∧p.2<=4194304
theorem Q5{p:Pt}:Em p=false↔inC p:=by
 unfold Em inC;simp only[Bool.or_eq_false_iff,decide_eq_false_iff_not];omega
theorem inG.c{p:Pt}(h:inG p):inC p:=by
 obtain⟨a,b,e,f⟩:=h;exact⟨by omega,by omega,by omega,by omega⟩
theorem DQ(a b c:Pt)(w:World)(f:inG a)(g:inG b)(i:inG c) :
  CP 92 #[.agg #[zi a.1,zi a.2],.agg #[zi b.1,zi b.2],.agg #[zi c.1,zi c.2]] w (zR (zi (Ao a b c)) w):=by
 have j:=zH (ON w a b c);have k:=OJ f g i;have l:Hid (Ao a b c=(b.1-a.1)*(c.2-a.2)-(b.2-a.2)*(c.1-a.1)):=rfl;obtain⟨a1,a2⟩:=a;obtain⟨b1,b2⟩:=b;obtain⟨c1,c2⟩:=c;obtain⟨q1,q2,q3,q4⟩:=f;obtain⟨q5,q6,q7,q8⟩:=g;obtain⟨q9,q10,q11,q12⟩:=i;obtain⟨⟨x1,x2⟩,x3,x4⟩:=k;simp only at *
 go_enter func92,ntmps92;go_wp2;go_ret;exact⟨by rw[l.o];rfl,j.o⟩
def Gr(w w':World):Prop:=∃q os,w'=Go.Sort.grow (w.drewN q) os
theorem Gr.refl(w:World):Gr w w:=⟨0,#[],by simp[Go.Sort.grow,World.drewN]⟩
theorem Gr.drew(h:Gr w w'):Gr w w'.drew:=by
 obtain⟨q,os,rfl⟩:=h;exact⟨q+1,os,by simp[Go.Sort.grow,World.drewN,World.drew,Nat.add_assoc]⟩
theorem Gr.drewN(h:Gr w w')(n:Nat):Gr w (w'.drewN n):=by
 obtain⟨q,os,rfl⟩:=h;exact⟨q+n,os,by simp[Go.Sort.grow,World.drewN,Nat.add_assoc]⟩
theorem Gr.alloc(h:Gr w w')(o:Obj):Gr w (w'.alloc o):=by
 obtain⟨q,os,rfl⟩:=h;exact⟨q,os ++ #[o],by rw[Go.Sort.alloc_eq_grow,Go.Sort.grow_grow]⟩
theorem Gr.trans(h:Gr w w1)(a:Gr w1 w2):Gr w w2:=by
 obtain⟨q,os,rfl⟩:=h;obtain⟨q2,os2,rfl⟩:=a;exact⟨q+q2,os++os2,by simp[Go.Sort.grow,World.drewN,Nat.add_assoc,Array.append_assoc]⟩
theorem Gr.below(h:Gr w w'):Bw w w':=by
 obtain⟨q,os,rfl⟩:=h;exact⟨rfl,rfl,rfl,by simp[Go.Sort.grow,World.drewN],λi hi=>by simp[Go.Sort.grow,World.drewN,Array.getElem?_append,hi]⟩
def D6(w:World)(s:Ae)(vs:lV):Prop:=∃A n c,vs=[.slice A n c,zi s.grain,.bool s.match_,zi s.anchor.1,zi s.anchor.2]∧Ab 2 Ad w A n s.poly∧n<=c
theorem Bz:GC D6:=λ_ _ _ _ a ⟨A,n,c,b,e,f⟩=>⟨A,n,c,b,e.on Aa a,f⟩
def GK(p:Am):List Value:=[zi p.shape,.bool p.turn.flip,zi p.turn.quarter,zi p.at_.1,zi p.at_.2]
def Hs(_:World)(p:Am)(vs:lV):Prop:=vs=GK p
theorem D7:GC Hs:=λ_ _ _ _ _ h=>h
theorem J4(h:Ab 5 D6 w A n l)(f:k<n):∃b a s B m c,A=some ⟨b,a,none⟩∧b<w.heap.size∧l[k]?=some s∧zL w b (a+k*5) (.slice B m c)∧zL w b (a+k*5+1) (zi s.grain)∧zL w b (a+k*5+2) (.bool s.match_)∧zL w b (a+k*5+3) (zi s.anchor.1)∧zL w b (a+k*5+4) (zi s.anchor.2)∧Ab 2 Ad w B m s.poly∧m<=c:=by
 obtain⟨b,a,x,vs,rfl,g,i,⟨B,m,c,rfl,j,o⟩,e⟩:=h.at_ f;exact⟨b,a,x,B,m,c,rfl,g,i,e 0 _ rfl,e 1 _ rfl,e 2 _ rfl,e 3 _ rfl,e 4 _ rfl,j,o⟩
def Kw(x:Except Int (List Pt))(w:World)(e:Ending)(w':World):Prop:=Bw w w'∧match x with
 | .ok r=>∃g,e=.returned (.tuple #[.slice (sa g 0) r.length r.length,zi 0])∧w.heap.size<=g∧Ab 2 Ad w' (sa g 0) r.length r
 | .error z=>e=.returned (.tuple #[zn,zi z])
theorem Q6(h:p.shape<0∨(ss.length:Int)<=p.shape∨Av p.at_=true):Af ss p=.error 3:=by unfold Af;rw[if_pos h]
theorem Lk(h:ss[k]?=some s):(ss.map (·.poly)).getD k []=s.poly:=by
 rw[zq3,zr5,h];rfl
theorem pA(h:¬(p.shape<0∨(ss.length:Int)<=p.shape∨Av p.at_=true))(b:ss[p.shape.toNat]?=some s)(a:An s.poly=z)(e:z≠0):Af ss p=.error z:=by
 unfold Af;rw[if_neg h];simp only[Lk b];rw[if_pos (by rw[a];exact e),a]
theorem pB(h:¬(p.shape<0∨(ss.length:Int)<=p.shape∨Av p.at_=true))(b:ss[p.shape.toNat]?=some s)(e:An s.poly=0)(a:An (DA (AU p.turn s.poly) p.at_)=z)(f:z≠0):Af ss p=.error z:=by
 unfold Af;rw[if_neg h];simp only[Lk b];rw[if_neg (by rw[e];simp),if_pos (by rw[a];exact f),a]
theorem yI(h:¬(p.shape<0∨(ss.length:Int)<=p.shape∨Av p.at_=true))(a:ss[p.shape.toNat]?=some s)(b:An s.poly=0)(e:An (DA (AU p.turn s.poly) p.at_)=0):Af ss p=.ok (DA (AU p.turn s.poly) p.at_):=by
 unfold Af;rw[if_neg h];simp only[Lk a];rw[if_neg (by rw[b];simp),if_neg (by rw[e];simp)]
theorem Fs{l:lP}(h:An l=0):(∀p∈l,inG p)∧l.length<=40∧3<=l.length:=by
 obtain⟨b,e,a,_⟩:=DN h;exact⟨λp f=>DZ.1 (by rw[List.any_eq_false]at a;simpa using a p f),b,e⟩
theorem RZ(t:Az)(l:lP):(AU t l).length=l.length:=by
 unfold AU;split <;> simp
theorem Ht(h:Af ss p=.ok r):(∀q∈r,inG q)∧r.length<=40∧3<=r.length∧An r=0:=by
 unfold Af at h;split at h
 ·cases h
 simp only at h;split at h
 ·cases h
 split at h
 ·cases h
 rename_i b;injection h with h
 subst h;have a:=Decidable.not_not.1 b;obtain⟨q1,q2,q3⟩:=Fs a;exact⟨q1,q2,q3,a⟩
theorem Ey(h:Af ss p=.error z):z≠0:=by
 unfold Af at h;split at h
 ·injection h with h
  omega
 simp only at h;split at h
 ·rename_i a;injection h with h
  rw[<-h];exact a
 split at h
 ·rename_i a;injection h with h
  rw[<-h];exact a
 cases h
theorem Dm{a0 a1 a2 a3 a4:Value}(h:Blk w g T #[a0,a1,a2,a3,a4]):zL w g 0 a0∧zL w g 1 a1∧zL w g 2 a2∧zL w g 3 a3∧zL w g 4 a4:=⟨h.c rfl,h.c rfl,h.c rfl,h.c rfl,h.c rfl⟩
theorem uL(p:Am)(w:World):Bw w (zw w #[zi p.shape,.bool p.turn.flip,zi p.turn.quarter,zi p.at_.1,zi p.at_.2] 87):=zA _
theorem FL(A:oA)(n c:Nat)(ss:List Ae)(p:Am)(w:World)(I:Ab 5 D6 w A n ss)(Z:∀s∈ss,s.poly.length<=1000000)(f:Q4 p.turn) :
  CP 33 #[.slice A n c,.agg #[zi p.shape,.bool p.turn.flip,zi p.turn.quarter,zi p.at_.1,zi p.at_.2]] w (Kw (Af ss p) w):=by
 have l:=zH (uL p w);have HX:=zH (Blk.new w 87 #[zi p.shape,.bool p.turn.flip,zi p.turn.quarter,zi p.at_.1,zi p.at_.2]);have J:=I.len;have ai:w.heap.size<w.heap.size+1:=zO;obtain⟨Q,y⟩:=zG (Kw (Af ss p) w);rw[y];by_cases h1:p.shape<0
 ·have C:Hid (Q=Kw (.error 3) w):=zH (by rw[<-y,Q6 (.inl h1)]);clear y Z I f;go_enter func33,ntmps33;go_wp2;rw[C.o];exact⟨l.o,rfl⟩
 obtain⟨k,hk⟩:∃k:Nat,p.shape=(k:Int):=⟨p.shape.toNat,by omega⟩;by_cases h2:n<=k
 ·have C:Hid (Q=Kw (.error 3) w):=zH (by rw[<-y,Q6 (.inr (.inl zO))]);have aj:(n:Int)<=(k:Int):=zO;clear y Z I f J;obtain⟨sh,tu,at0⟩:=p;simp only at *
  subst hk;go_enter func33,ntmps33;go_wp2;rw[C.o];exact⟨l.o,rfl⟩
 have H:=zH (λW=>L0 p.at_ W);obtain⟨i1,i2⟩:=zI (k:=k) (n:=n) (by omega)
 cases hout:Av p.at_ with
 | true=>
  have C:Hid (Q=Kw (.error 3) w):=zH (by rw[<-y,Q6 (.inr (.inr hout))]);rw[hout]at H;clear y Z I f J hout;obtain⟨sh,tu,at0⟩:=p;simp only at *
  subst hk;go_enter func33,ntmps33;go_wp2_with(go_at_call 54;refine(H.o _).mono ?_;rintro e w1 ⟨rfl,i⟩;have a:=zH (zT l.o i);clear i)
  rw[C.o];exact⟨a.o,rfl⟩
 | false=>
  have K:¬(p.shape<0∨(ss.length:Int)<=p.shape∨Av p.at_=true):=by
   rw[hout,J];simp;omega
  have U:inG p.at_:=DZ.1 hout;rw[hout]at H;have HA:=zH I;obtain⟨b,a0,s,B,m,cs,rfl,hb,X,d0,_,_,_,_,N,hm⟩:=J4 I (by omega:k<n);have D:ss[p.shape.toNat]?=some s:=by rw[hk];exact X
  have af:m<=1000000:=by rw[<-N.len];exact Z s (zq2 X)
  have HR:=zH N;have v:=zH (λW (h:Bw w W)=>FJ B m cs s.poly W (HR.o.on Aa h) hm af);by_cases V:An s.poly=0
  ·obtain⟨g1,g2,g3⟩:=Fs V;have ae:m<=1000:=by rw[<-N.len];omega
   have HT:=zH (λW (h:Bw w W)=>RJ p.turn B m cs s.poly W (HR.o.on Aa h) f ae g1);have a1:Hid ((AU p.turn s.poly).length<=1000):=zH (by rw[RZ];omega);have aa:=zH (eS p.turn g1);have HM:=zH (λW g (h:Ab 2 Ad W (sa g 0) (AU p.turn s.poly).length (AU p.turn s.poly))=>Zr (sa g 0) _ (AU p.turn s.poly).length _ p.at_ W h a1.o aa.o U);have a2:Hid ((DA (AU p.turn s.poly) p.at_).length<=1000000):=zH (by unfold DA;rw[zq6];exact zs0 a1.o zD);have E:=zH (λW g (h:Ab 2 Ad W (sa g 0) (DA (AU p.turn s.poly) p.at_).length (DA (AU p.turn s.poly) p.at_))=>FJ (sa g 0) _ (DA (AU p.turn s.poly) p.at_).length _ W h (zs2 _) a2.o);rw[V]at v;obtain⟨z,t⟩:=zG (An (DA (AU p.turn s.poly) p.at_));have O:Hid (z=0->Q=Kw (.ok (DA (AU p.turn s.poly) p.at_)) w):=zH (λh0=>by rw[<-y,yI K D V (by rw[t];exact h0)]);have a3:Hid (z≠0->Q=Kw (.error z) w):=zH (λh0=>by rw[<-y,pB K D V t h0]);rw[t]at E;obtain⟨L,hL⟩:=zG (AU p.turn s.poly);rw[hL]at HT HM a1 aa a2 O E;obtain⟨M,hM⟩:=zG (DA L p.at_);rw[hM]at HM a2 O E;clear y Z I f J hout K U X D N g1 g2 g3 V t hL hM;obtain⟨sh,tu,at0⟩:=p;simp only at *
   subst hk;by_cases x:z=0
   ·subst x;have C:=zH (O.o rfl);clear O a3;go_enter func33,ntmps33
    go_wp2_with(first
     | (go_at_call 54;refine(H.o _).mono ?_;rintro e w1 ⟨rfl,i⟩;have a:=zH (zT l.o i);have q:=(HX.o.below i);have a4:=zH q;obtain⟨k0,k1,k2,k3,k4⟩:=Dm q;have Y:=(a.o.cell (p:=ad b (a0+k*5)) hb).trans d0;clear i q H)
     | (go_at_call 55;refine(v.o _ a.o).mono ?_;rintro e w2 ⟨rfl,r⟩;have j:=zH (zT a.o r);have a5:=zH (a4.o.below r);clear r v))
    have a6:=zH (λW (h:Bw w2 W)=>Dm (a5.o.below h));have f:=Below.refl w2.heap.size w2;clear k0 k1 k2 k3 k4 Y d0
    go_region_held3(λw'=>w'.cell? (ad w.heap.size 0)=some (zi (k:Int))∧w'.cell? (ad w.heap.size 1)=some (.bool tu.flip)∧w'.cell? (ad w.heap.size 2)=some (zi tu.quarter)∧w'.cell? (ad w.heap.size 3)=some (zi at0.1)∧w'.cell? (ad w.heap.size 4)=some (zi at0.2))
     ((refine a6.o _ ?_;repeat(first|(with_reducible exact zJ)|(with_reducible exact f)|(with_reducible refine Below.drew ?_))))
     (first
      | (go_at_call 57;go_must((refine(HT.o _ (by repeat(first|(with_reducible exact j.o)|(with_reducible refine Below.drew ?_)))).mono ?_);rintro e w3 ⟨g3,rfl,ag,P,F⟩;replace f:=Ag f F;have a7:=zH P;clear F P))
      | (go_at_call 56;go_must((refine(HM.o _ _ (a7.o.on Aa zB)).mono ?_);rintro e w4 ⟨g4,rfl,a8,R,F⟩;have ab:=zH (zs0 j.o.size (zs0 f.size a8));replace f:=Ag f F;have S:=zH R;clear F R)))
    all_goals
     have T:=zH (zT j.o f);clear f;go_wp2_with(go_at_call 55;refine(E.o _ _ S.o).mono ?_;rintro e w5 ⟨rfl,G⟩;have a9:=zH (zT T.o G);have ac:=zH (S.o.on Aa G);clear G E)
     rw[C.o];exact⟨a9.o,_,rfl,ab.o,ac.o⟩
   have C:=zH (a3.o x);have ah:(z != 0)=true:=by simpa using x
   clear O a3 x;go_enter func33,ntmps33
   go_wp2_with(first
    | (go_at_call 54;refine(H.o _).mono ?_;rintro e w1 ⟨rfl,i⟩;have a:=zH (zT l.o i);have q:=(HX.o.below i);have a4:=zH q;obtain⟨k0,k1,k2,k3,k4⟩:=Dm q;have Y:=(a.o.cell (p:=ad b (a0+k*5)) hb).trans d0;clear i q H)
    | (go_at_call 55;refine(v.o _ a.o).mono ?_;rintro e w2 ⟨rfl,r⟩;have j:=zH (zT a.o r);have a5:=zH (a4.o.below r);clear r v))
   have a6:=zH (λW (h:Bw w2 W)=>Dm (a5.o.below h));have f:=Below.refl w2.heap.size w2;clear k0 k1 k2 k3 k4 Y d0
   go_region_held3(λw'=>w'.cell? (ad w.heap.size 0)=some (zi (k:Int))∧w'.cell? (ad w.heap.size 1)=some (.bool tu.flip)∧w'.cell? (ad w.heap.size 2)=some (zi tu.quarter)∧w'.cell? (ad w.heap.size 3)=some (zi at0.1)∧w'.cell? (ad w.heap.size 4)=some (zi at0.2))
    ((refine a6.o _ ?_;repeat(first|(with_reducible exact zJ)|(with_reducible exact f)|(with_reducible refine Below.drew ?_))))
    (first
     | (go_at_call 57;go_must((refine(HT.o _ (by repeat(first|(with_reducible exact j.o)|(with_reducible refine Below.drew ?_)))).mono ?_);rintro e w3 ⟨g3,rfl,ag,P,F⟩;replace f:=Ag f F;have a7:=zH P;clear F P))
     | (go_at_call 56;go_must((refine(HM.o _ _ (a7.o.on Aa zB)).mono ?_);rintro e w4 ⟨g4,rfl,a8,R,F⟩;have ab:=zH (zs0 j.o.size (zs0 f.size a8));replace f:=Ag f F;have S:=zH R;clear F R)))
   all_goals
    have T:=zH (zT j.o f);clear f;go_wp2_with(go_at_call 55;refine(E.o _ _ S.o).mono ?_;rintro e w5 ⟨rfl,G⟩;have a9:=zH (zT T.o G);have ac:=zH (S.o.on Aa G);clear G E)
    rw[C.o];exact⟨a9.o,rfl⟩
  obtain⟨z,t⟩:=zG (An s.poly);have x:z≠0:=by rw[<-t];exact V
  have ah:(z != 0)=true:=by simpa using x
  have C:Hid (Q=Kw (.error z) w):=zH (by rw[<-y,pA K D t x]);rw[t]at v;clear y Z I f J hout K U X D N V t x;obtain⟨sh,tu,at0⟩:=p;simp only at *
  subst hk;go_enter func33,ntmps33
  go_wp2_with(first
   | (go_at_call 54;refine(H.o _).mono ?_;rintro e w1 ⟨rfl,i⟩;have a:=zH (zT l.o i);have q:=(HX.o.below i);obtain⟨k0,k1,k2,k3,k4⟩:=Dm q;have Y:=(a.o.cell (p:=ad b (a0+k*5)) hb).trans d0;clear i q H)
   | (go_at_call 55;refine(v.o _ a.o).mono ?_;rintro e w2 ⟨rfl,r⟩;have j:=zH (zT a.o r);clear r v))
  rw[C.o];exact⟨j.o,rfl⟩
def orL(xs:List Int):Int:=(xs.find? λx=>decide (x≠0)).getD 0
theorem PV(A:oA)(n c:Nat)(xs:List Int)(w:World)(h:Sl w w.heap.size A n (Ar xs))(D:n<=1000000) :
  CP 106 #[.slice A n c] w λe w'=>e=.returned (zi (orL xs))∧w'=w:=by
 have v:=zH h;have z:=zH h.ilen;clear h;go_enter func106,ntmps106
 go_wp2_with fail
 go_loopw[5,8,10,11,12,13,14] (λ_ i _ _ _ _ _ wr=>∃k:Nat,k<=n∧i=zi (k:Int)∧wr=w∧Hid (∀(j:Nat)(x:Int),j<k->xs[j]?=some x->x=0)) (λ_ i _ _ _ _ _ _=>n-(intOf i).toNat)
 case atStart=>exact⟨0,zs3 _,rfl,rfl,λj x f=>by omega⟩
 case round=>
  obtain⟨k,E,rfl,rfl,a⟩:=hrel;by_cases q:k<n
  ·obtain⟨b,B,x,rfl,F,m,c1⟩:=v.o.int_ q;have r:=zH m;obtain⟨i1,i2⟩:=zI (k:=k) (n:=n) (by omega);clear m;by_cases g:x=0
   ·have l:Hid (∀(j:Nat)(x:Int),j<k+1->xs[j]?=some x->x=0):=λj y f p=>by
     by_cases e:j=k
     ·subst e;rw[r.o]at p;rw[<-zs6 p];exact g
     exact a.out j y zO p
    subst g
    go_wp2_with fail
    go_roundw
    case rel=>exact⟨k+1,by omega,by go_num,by trivial,l⟩
    case measure=>exact zM
   have l:Hid (orL xs=x):=by
    rw[Hid,orL]
    have:xs.find? (λx=>decide (x≠0))=some x:=by
     rw[List.find?_eq_some_iff_getElem];obtain⟨s,t⟩:=zq1.1 r.o;refine⟨by simpa using g,k,s,t,λj f=>?_⟩;have:=a.out j xs[j] f (zq0 zO);simp[this]
    rw[this];rfl
   have C:(x != 0)=true:=by simpa using g
   clear g
   go_wp2_with fail
   go_ret;exact⟨by rw[l.o];rfl,rfl⟩
  obtain rfl:n=k:=zO
  have l:Hid (orL xs=0):=by
   rw[Hid,orL]
   have:xs.find? (λx=>decide (x≠0))=none:=by
    rw[List.find?_eq_none];intro x m;obtain⟨j,f⟩:=List.getElem?_of_mem m;have:=a.out j x (by have:=(zq1.1 f).1;rw[z.o]at this;exact this) f;simp[this]
   rw[this];rfl
  go_wp2_with fail
  go_ret;exact⟨by rw[l.o];rfl,rfl⟩
def CG(x y:Pt):Int:=orL [Lib.compareInt x.1 y.1,Lib.compareInt x.2 y.2]
theorem OX{a b:Int}(h:Blk w g t #[zi a,zi b]):Sl w w.heap.size (sa g 0) 2 (Ar [a,b]):=by
 refine⟨rfl,λ_=>⟨g,0,rfl,h.lt,λj u e=>?_⟩⟩;rw[Nat.zero_add]
 match j,e with
 | 0,e=>obtain rfl:zi a=u:=(by simpa[Ar]using e);exact h.c rfl
 | 1,e=>obtain rfl:zi b=u:=(by simpa[Ar]using e);exact h.c rfl
 | j+2,e=>simp[Ar]at e
theorem M8{w w':World}{a b:Pt}(h:Bw (zw (zw w #[zi a.1,zi a.2] 56) #[zi b.1,zi b.2] 56) w') :
  (zL w' w.heap.size 0 (zi a.1)∧zL w' w.heap.size 1 (zi a.2))∧(zL w' (w.heap.size+1) 0 (zi b.1)∧zL w' (w.heap.size+1) 1 (zi b.2)):=by
 have X1:=((Blk.new w 56 #[zi a.1,zi a.2]).alloc (.cells #[zi b.1,zi b.2] 56)).below h;have X2:=(Blk.new' (zw w #[zi a.1,zi a.2] 56) 56 #[zi b.1,zi b.2] (g:=w.heap.size+1) zP).below h;exact⟨⟨X1.c rfl,X1.c rfl⟩,X2.c rfl,X2.c rfl⟩
theorem Zv(a b:Pt)(w:World) :
  CP 291 #[.agg #[zi a.1,zi a.2],.agg #[zi b.1,zi b.2]] w λe w'=>e=.returned (zi (CG a b))∧Gr w w':=by
 have f:Hid (∀W,CP 107 #[zi a.1,zi b.1] W λe w'=>e=.returned (zi (Lib.compareInt a.1 b.1))∧W=w'):=λW=>(Tryz.cmp_Compare_int a.1 b.1 W).mono λ_ _ h=>⟨h.1,h.2.symm⟩
 have i:Hid (∀W,CP 107 #[zi a.2,zi b.2] W λe w'=>e=.returned (zi (Lib.compareInt a.2 b.2))∧W=w'):=λW=>(Tryz.cmp_Compare_int a.2 b.2 W).mono λ_ _ h=>⟨h.1,h.2.symm⟩
 have j:Hid (CG a b=orL [Lib.compareInt a.1 b.1,Lib.compareInt a.2 b.2]):=rfl;have k:=λw'=>zH (@M8 w w' a b)
 have l:Hid (Gr w (zw (zw w #[zi a.1,zi a.2] 56) #[zi b.1,zi b.2] 56)):=((Gr.refl w).alloc _).alloc _;generalize Lib.compareInt a.1 b.1=x at *
 generalize Lib.compareInt a.2 b.2=y at *
 have m:=zH (λW g (h:Sl W W.heap.size (sa g 0) 2 (Ar [x,y]))=>PV (sa g 0) 2 2 [x,y] W h zO);go_enter func291,ntmps291
 go_wp2_with fail
 go_region_held3(λw'=>(w'.cell? (ad w.heap.size 0)=some (zi a.1)∧w'.cell? (ad w.heap.size 1)=some (zi a.2))∧(w'.cell? (ad (w.heap.size+1) 0)=some (zi b.1)∧w'.cell? (ad (w.heap.size+1) 1)=some (zi b.2)))
  ((refine(k _).out ?_;repeat(first|(with_reducible exact zJ)|(with_reducible refine Below.drew ?_)|(with_reducible refine Below.alo ?_ _))))
  (first
   | (go_at_call 107;go_must((first|(with_reducible refine(f.o _).mono ?_)|(with_reducible refine(i.o _).mono ?_));rintro e w1 ⟨rfl,rfl⟩))
   | (go_at_call 106;go_must((refine(m.o _ _ (by exact OX (Blk.new' _ _ _ zP))).mono ?_);rintro e w1 ⟨rfl,rfl⟩)))
 all_goals
  go_wp2_with fail
  go_ret;exact⟨by rw[j.o];rfl,by repeat(first|(with_reducible exact l.o)|(with_reducible refine Gr.drew ?_)|(with_reducible refine Gr.drewN ?_ _)|(with_reducible refine Gr.alloc ?_ _))⟩
theorem Zw(a b:Pt)(w:World) :
  CP 104 #[.agg #[zi a.1,zi a.2],.agg #[zi b.1,zi b.2]] w λe w'=>e=.returned (zi (CG a b))∧Gr w w':=by
 have f:Hid (∀W,CP 107 #[zi a.1,zi b.1] W λe w'=>e=.returned (zi (Lib.compareInt a.1 b.1))∧W=w'):=λW=>(Tryz.cmp_Compare_int a.1 b.1 W).mono λ_ _ h=>⟨h.1,h.2.symm⟩
 have i:Hid (∀W,CP 107 #[zi a.2,zi b.2] W λe w'=>e=.returned (zi (Lib.compareInt a.2 b.2))∧W=w'):=λW=>(Tryz.cmp_Compare_int a.2 b.2 W).mono λ_ _ h=>⟨h.1,h.2.symm⟩
 have j:Hid (CG a b=orL [Lib.compareInt a.1 b.1,Lib.compareInt a.2 b.2]):=rfl;have k:=λw'=>zH (@M8 w w' a b)
 have l:Hid (Gr w (zw (zw w #[zi a.1,zi a.2] 56) #[zi b.1,zi b.2] 56)):=((Gr.refl w).alloc _).alloc _;generalize Lib.compareInt a.1 b.1=x at *
 generalize Lib.compareInt a.2 b.2=y at *
 have m:=zH (λW g (h:Sl W W.heap.size (sa g 0) 2 (Ar [x,y]))=>PV (sa g 0) 2 2 [x,y] W h zO);go_enter func104,ntmps104
 go_wp2_with fail
 go_region_held3(λw'=>(w'.cell? (ad w.heap.size 0)=some (zi a.1)∧w'.cell? (ad w.heap.size 1)=some (zi a.2))∧(w'.cell? (ad (w.heap.size+1) 0)=some (zi b.1)∧w'.cell? (ad (w.heap.size+1) 1)=some (zi b.2)))
  ((refine(k _).out ?_;repeat(first|(with_reducible exact zJ)|(with_reducible refine Below.drew ?_)|(with_reducible refine Below.alo ?_ _))))
  (first
   | (go_at_call 107;go_must((first|(with_reducible refine(f.o _).mono ?_)|(with_reducible refine(i.o _).mono ?_));rintro e w1 ⟨rfl,rfl⟩))
   | (go_at_call 106;go_must((refine(m.o _ _ (by exact OX (Blk.new' _ _ _ zP))).mono ?_);rintro e w1 ⟨rfl,rfl⟩)))
 all_goals
  go_wp2_with fail
  go_ret;exact⟨by rw[j.o];rfl,by repeat(first|(with_reducible exact l.o)|(with_reducible refine Gr.drew ?_)|(with_reducible refine Gr.drewN ?_ _)|(with_reducible refine Gr.alloc ?_ _))⟩
theorem Zx(a b:Pt)(w:World) :
  CP 185 #[.agg #[zi a.1,zi a.2],.agg #[zi b.1,zi b.2]] w λe w'=>e=.returned (zi (CG a b))∧Gr w w':=by
 have f:Hid (∀W,CP 107 #[zi a.1,zi b.1] W λe w'=>e=.returned (zi (Lib.compareInt a.1 b.1))∧W=w'):=λW=>(Tryz.cmp_Compare_int a.1 b.1 W).mono λ_ _ h=>⟨h.1,h.2.symm⟩
 have i:Hid (∀W,CP 107 #[zi a.2,zi b.2] W λe w'=>e=.returned (zi (Lib.compareInt a.2 b.2))∧W=w'):=λW=>(Tryz.cmp_Compare_int a.2 b.2 W).mono λ_ _ h=>⟨h.1,h.2.symm⟩
 have j:Hid (CG a b=orL [Lib.compareInt a.1 b.1,Lib.compareInt a.2 b.2]):=rfl;have k:=λw'=>zH (@M8 w w' a b)
 have l:Hid (Gr w (zw (zw w #[zi a.1,zi a.2] 56) #[zi b.1,zi b.2] 56)):=((Gr.refl w).alloc _).alloc _;generalize Lib.compareInt a.1 b.1=x at *
 generalize Lib.compareInt a.2 b.2=y at *
 have m:=zH (λW g (h:Sl W W.heap.size (sa g 0) 2 (Ar [x,y]))=>PV (sa g 0) 2 2 [x,y] W h zO);go_enter func185,ntmps185
 go_wp2_with fail
 go_region_held3(λw'=>(w'.cell? (ad w.heap.size 0)=some (zi a.1)∧w'.cell? (ad w.heap.size 1)=some (zi a.2))∧(w'.cell? (ad (w.heap.size+1) 0)=some (zi b.1)∧w'.cell? (ad (w.heap.size+1) 1)=some (zi b.2)))
  ((refine(k _).out ?_;repeat(first|(with_reducible exact zJ)|(with_reducible refine Below.drew ?_)|(with_reducible refine Below.alo ?_ _))))
  (first
   | (go_at_call 107;go_must((first|(with_reducible refine(f.o _).mono ?_)|(with_reducible refine(i.o _).mono ?_));rintro e w1 ⟨rfl,rfl⟩))
   | (go_at_call 106;go_must((refine(m.o _ _ (by exact OX (Blk.new' _ _ _ zP))).mono ?_);rintro e w1 ⟨rfl,rfl⟩)))
 all_goals
  go_wp2_with fail
  go_ret;exact⟨by rw[j.o];rfl,by repeat(first|(with_reducible exact l.o)|(with_reducible refine Gr.drew ?_)|(with_reducible refine Gr.drewN ?_ _)|(with_reducible refine Gr.alloc ?_ _))⟩
end Go.Proofs.YteafekbddckemaaGreatDoor
