/- Parts of the proof. -/
import Derived.Test.YteafekbddckemaaGreatDoorH09
set_option maxRecDepth 100000
set_option maxHeartbeats 40000000
namespace Go.Proofs.YteafekbddckemaaGreatDoor
open Tryz Go.RowKit
open Go.Lib hiding intOf
variable{A:oA}{a b p q:Pt}{a0 a1 e0 e1 e2 u0 u1 u2:Value}{cs:aV}{e:Bool}{g g1 g2 h j k m n o o1 r:Nat}{i:Int}{l:List As}{ps:lP}{s t:TypeId}{w w' w2:World}
theorem tX{c:Pt}(e:inG a)(f:inG b)(g:inG c):(-4398046511104<=(a.1-b.1)*(c.1-b.1)∧(a.1-b.1)*(c.1-b.1)<=4398046511104)∧(-4398046511104<=(a.2-b.2)*(c.2-b.2)∧(a.2-b.2)*(c.2-b.2)<=4398046511104):=by
 obtain⟨a1,a2,a3,a4⟩:=e;obtain⟨b1,b2,b3,b4⟩:=f;obtain⟨c1,c2,c3,c4⟩:=g;exact⟨FE (a:=2097152) (b:=2097152) ⟨by omega,by omega⟩ ⟨by omega,by omega⟩,FE (a:=2097152) (b:=2097152) ⟨by omega,by omega⟩ ⟨by omega,by omega⟩⟩
theorem nV(a b c d:Pt)(w:World)(g:inG a)(i:inG b)(j:inG c)(hd:inG d) :
  CP 128 #[.agg #[zi a.1,zi a.2],.agg #[zi b.1,zi b.2],.agg #[zi c.1,zi c.2],.agg #[zi d.1,zi d.2]] w (zR (.bool (Iu a b c d)) w):=by
 have s:=zH (xW w a b c d);have l:=λW=>NM a b c W g i j
 have m:=λW=>NM a b d W g i hd
 have n:=λW=>NM c d a W j hd g
 have p:=λW=>NM c d b W j hd i
 have q:=λW=>Pu a b c d W g i j hd
 have r:=λW=>Pu c d a b W j hd g i
 have t:Hid (Iu a b c d=(onP a b c||(onP a b d||(onP c d a||(onP c d b||(GU a b c d&&GU c d a b)))))):=rfl;generalize onP a b c=m1 at *
 generalize onP a b d=m2 at *
 generalize onP c d a=m3 at *
 generalize onP c d b=m4 at *
 generalize GU a b c d=m5 at *
 generalize GU c d a b=m6 at *
 have f:=zH (Below.refl (zw (zw (zw (zw w #[zi a.1,zi a.2] 56) #[zi b.1,zi b.2] 56) #[zi c.1,zi c.2] 56) #[zi d.1,zi d.2] 56).heap.size (zw (zw (zw (zw w #[zi a.1,zi a.2] 56) #[zi b.1,zi b.2] 56) #[zi c.1,zi c.2] 56) #[zi d.1,zi d.2] 56));clear g i j hd
 have v:m1=true∨(m1=false∧m2=true)∨(m1=false∧m2=false∧m3=true)∨(m1=false∧m2=false∧m3=false∧m4=true)∨(m1=false∧m2=false∧m3=false∧m4=false∧m5=false)∨(m1=false∧m2=false∧m3=false∧m4=false∧m5=true):=by
  cases m1 <;> cases m2 <;> cases m3 <;> cases m4 <;> cases m5 <;> simp
 rcases v with rfl|⟨rfl,rfl⟩|⟨rfl,rfl,rfl⟩|⟨rfl,rfl,rfl,rfl⟩|⟨rfl,rfl,rfl,rfl,rfl⟩|⟨rfl,rfl,rfl,rfl,rfl⟩
 all_goals
  have l:=zH l;have m:=zH m;have n:=zH n;have p:=zH p;have q:=zH q;have r:=zH r;go_enter func128,ntmps128
  go_wp2_with(first
   | (go_at_call 174;(first|(with_reducible refine(l.o _).mono ?_)|(with_reducible refine(m.o _).mono ?_)|(with_reducible refine(n.o _).mono ?_)|(with_reducible refine(p.o _).mono ?_));rintro e w1 ⟨rfl,k⟩;replace f:=zH (Ag f.out k);clear k;obtain⟨⟨p0,p1⟩,⟨p2,p3⟩,⟨p4,p5⟩,p6,p7⟩:=Kj f.out)
   | (go_at_call 175;(first|(with_reducible refine(q.o _).mono ?_)|(with_reducible refine(r.o _).mono ?_));rintro e w1 ⟨rfl,k⟩;replace f:=zH (Ag f.out k);clear k;obtain⟨⟨p0,p1⟩,⟨p2,p3⟩,⟨p4,p5⟩,p6,p7⟩:=Kj f.out))
  go_ret;exact⟨by rw[t.o];rfl,zT s.o f.out⟩
theorem YQ(a b c:Pt)(w:World)(k:inG a)(l:inG b)(m:inG c) :
  CP 127 #[.agg #[zi a.1,zi a.2],.agg #[zi b.1,zi b.2],.agg #[zi c.1,zi c.2]] w (zR (.bool (Ed a b c)) w):=by
 have i:=zH (ON w a b c);have n:=zH (λW=>IP a b c W k l m);obtain⟨x,p⟩:=zG (Ao a b c);simp only[p]at n;have q:Hid (Ed a b c=(decide (x=0)&&decide (0<(a.1-b.1)*(c.1-b.1)+(a.2-b.2)*(c.2-b.2)))):=by rw[Hid,Ed,p]
 have t:=tX k l m;clear p;obtain⟨a1,a2⟩:=a;obtain⟨b1,b2⟩:=b;obtain⟨c1,c2⟩:=c;obtain⟨q1,q2,q3,q4⟩:=k;obtain⟨q5,q6,q7,q8⟩:=l;obtain⟨q9,q10,q11,q12⟩:=m;obtain⟨⟨x1,x2⟩,x3,x4⟩:=t;simp only at *
 by_cases j:x=0
 ·subst j;go_enter func127,ntmps127;go_wp2_with(go_at_call 173;refine(n.o _).mono ?_;rintro e w' ⟨rfl,f⟩;obtain⟨r,s⟩:=Cc f;have g:=zH f;clear f)
  go_ret;exact⟨by rw[q.o];rfl,zT i.o g.o⟩
 have v:Hid (Ed (a1,a2) (b1,b2) (c1,c2)=false):=by rw[Hid,q.o,zu0 j];rfl
 have y:(x == 0)=false:=by simpa using j
 clear j;go_enter func127,ntmps127;go_wp2_with(go_at_call 173;refine(n.o _).mono ?_;rintro e w' ⟨rfl,f⟩;obtain⟨r,s⟩:=Cc f;have g:=zH f;clear f)
 go_ret;exact⟨by rw[v.o];rfl,zT i.o g.o⟩
theorem Lf(h:Ab 2 Ad w A n ps){b a:Nat}(e:A=some ⟨b,a,none⟩)(f:j<n):zL w b (a+j*2) (zi (vtx ps j).1)∧zL w b (a+j*2+1) (zi (vtx ps j).2):=by
 obtain⟨b',off',p,e',_,g,c0,c1⟩:=Ap h f;rw[e]at e';injection e' with e'
 injection e' with e1 e2
 subst e1;subst e2;have i:=h.len;have:vtx ps j=p:=xH (by rw[i,Nat.mod_eq_of_lt f];exact g);rw[this];exact⟨c0,c1⟩
theorem XB(ps:lP)(j:Nat):vtx ps (j%ps.length)=vtx ps j:=by unfold vtx;rw[Nat.mod_mod]
theorem Cy(h:∀p∈ps,inG p)(b:0<ps.length)(j:Nat):inG (vtx ps j):=by
 have a:j%ps.length<ps.length:=Nat.mod_lt _ b;refine h _ ?_;rw[<-XB];exact zq2 (TC a)
theorem Kp(a:g<w.heap.size)(c0:zL w g o1 a0)(c1:zL w g (o1+1) a1)(b:Bw w w'):zL w' g o1 a0∧zL w' g (o1+1) a1:=
 ⟨(b.cell (p:=ad g o1) a).trans c0,(b.cell (p:=ad g (o1+1)) a).trans c1⟩
theorem Ci(h:Blk w g 56 #[zi a.1,zi a.2])(b:Bw w w'):zL w' g 0 (zi a.1)∧zL w' g 1 (zi a.2):=
 ⟨(h.below b).c rfl,(h.below b).c rfl⟩
theorem nW(f:Blk w g1 56 #[zi a.1,zi a.2])(i:Blk w g2 56 #[zi b.1,zi b.2])(j:g<w.heap.size)(c:zL w g o (zi p.1)∧zL w g (o+1) (zi p.2))(e:Bw w w') :
  (zL w' g1 0 (zi a.1)∧zL w' g1 1 (zi a.2))∧(zL w' g2 0 (zi b.1)∧zL w' g2 1 (zi b.2))∧zL w' g o (zi p.1)∧zL w' g (o+1) (zi p.2):=
 ⟨Ci f e,Ci i e,Kp j c.1 c.2 e⟩
theorem YS{o2:Nat}(i:Blk w g1 56 #[zi a.1,zi a.2])(j:Blk w g2 56 #[zi b.1,zi b.2])(f:g<w.heap.size)(c:zL w g o (zi p.1)∧zL w g (o+1) (zi p.2))(d:zL w g o2 (zi q.1)∧zL w g (o2+1) (zi q.2))(e:Bw w w') :
  (zL w' g1 0 (zi a.1)∧zL w' g1 1 (zi a.2))∧(zL w' g2 0 (zi b.1)∧zL w' g2 1 (zi b.2))∧(zL w' g o (zi p.1)∧zL w' g (o+1) (zi p.2))∧zL w' g o2 (zi q.1)∧zL w' g (o2+1) (zi q.2):=
 ⟨Ci i e,Ci j e,Kp f c.1 c.2 e,Kp f d.1 d.2 e⟩
theorem QR(a:ps.length=n)(j:Nat):vtx ps (j%n)=vtx ps j:=by rw[<-a];exact XB ps j
theorem nX(h:(j+1)%n=k)(a:j<n)(b:k+2<=j):j+1=n:=by
 by_cases e:j+1=n
 ·exact e
 rw[Nat.mod_eq_of_lt zO]at h;omega
theorem YT(A:oA)(n c:Nat)(ps:lP)(w:World)(ha:Ab 2 Ad w A n ps)(hc:n<=c)(hn:n<=1000000)(hg:∀p∈ps,inG p) :
  CP 87 #[.slice A n c] w (zR (.bool (BZ ps)) w):=by
 have HA:=zH ha;have t:=zH ha.len;have U:=zH hg;clear ha hg;go_enter func87,ntmps87;go_wp2
 go_loopw[4,5,14] (λs4 s5 i wr=>∃k:Nat,k<=n∧i=zi (k:Int)∧Hid (∀(i:Nat)(a:Pt),i<k->ps[i]?=some a->a∉ps.take i)∧Bw w wr) (λ_ _ i _=>n-(intOf i).toNat)
 case atStart=>exact⟨0,zs3 _,rfl,(λj p h=>by omega),zJ⟩
 case round=>
  obtain⟨k,hk,rfl,K,l⟩:=hrel;by_cases G:k<n
  ·have y:=HA.o.on Aa l;obtain⟨b,s,p,rfl,N,hp,c0,c1⟩:=Ap y G;have HP:=zH hp;have B:=zH l;have D:=CW p wr;have r:=zH D;have HC:=zH (λW (hb:Bw (zw wr #[zi p.1,zi p.2] 56) W)=>S6 (sa b s) k c (ps.take k) p W (((y.take (i:=k) zO).on Aa D).on Aa hb) zO);obtain⟨i1,i2⟩:=zI (k:=k) (n:=n) (by omega);have i3:(k:Int)<=(c:Int):=zO;have HX:=zH (Blk.new wr 56 #[zi p.1,zi p.2]);have q:=Below.refl (zw wr #[zi p.1,zi p.2] 56).heap.size (zw wr #[zi p.1,zi p.2] 56);clear hp l y D;by_cases v:p∈ps.take k
   ·have H:Hid (BZ ps=false):=JL HP.o v;simp only[zu1 v]at HC;clear v
    go_wp2_with fail
    go_region_held3(λw'=>w'.cell? (ad wr.heap.size 0)=some (zi p.1)∧w'.cell? (ad wr.heap.size 1)=some (zi p.2))
     ((refine Ci HX.o ?_;repeat(first|(with_reducible exact zJ)|(with_reducible exact q)|(with_reducible refine Below.drew ?_))))
     ((go_at_call 126;go_must((refine(HC.o _ zB).mono ?_);rintro e w1 ⟨rfl,x⟩;replace q:=Ag q x;clear x)))
    go_wp2_with fail
    go_ret;exact⟨by rw[H.o];rfl,B.o.trans ((zT r.o q).mono B.o.size)⟩
   have H:Hid (∀(i:Nat)(a:Pt),i<k+1->ps[i]?=some a->a∉ps.take i):=λj p' hj V=>by
    by_cases e:j=k
    ·subst e;rw[HP.o]at V;rw[<-zs6 V];exact v
    exact K.out j p' zO V
   simp only[zu0 v]at HC;clear v
   go_wp2_with fail
   go_region_held3(λw'=>w'.cell? (ad wr.heap.size 0)=some (zi p.1)∧w'.cell? (ad wr.heap.size 1)=some (zi p.2))
    ((refine Ci HX.o ?_;repeat(first|(with_reducible exact zJ)|(with_reducible exact q)|(with_reducible refine Below.drew ?_))))
    ((go_at_call 126;go_must((refine(HC.o _ zB).mono ?_);rintro e w1 ⟨rfl,x⟩;replace q:=Ag q x;clear x)))
   go_wp2_with fail
   go_roundw
   case rel=>exact⟨k+1,by omega,by go_num,H,B.o.trans ((zT r.o q).mono B.o.size)⟩
   case measure=>exact zM
  obtain rfl:n=k:=zO;have H1:Hid (∀(i:Nat)(a:Pt),ps[i]?=some a->a∉ps.take i):=λi a h=>K.out i a (by have:=(zq1.1 h).1;rw[t.o]at this;exact this) h
  have B:=zH l;obtain⟨wo,rfl⟩:∃wo:World,wo=wr:=⟨_,rfl⟩;clear K l hk
  go_wp2_with fail
  go_loopw[27] (λi wr=>∃k:Nat,k<=n∧i=zi (k:Int)∧Hid (∀i,i<k->Ed (vtx ps i) (vtx ps (i+1)) (vtx ps (i+2))=false)∧Hid (∀i j,i<k->j<n->i+2<=j->(j+1)%n≠i->Iu (vtx ps i) (vtx ps (i+1)) (vtx ps j) (vtx ps (j+1))=false)∧Bw wo wr) (λi _=>n-(intOf i).toNat)
  case atStart=>exact⟨0,zs3 _,rfl,(λi h=>by omega),(λi j h=>by omega),zJ⟩
  case round=>
   obtain⟨k,hk,rfl,hF,hM,l⟩:=hrel;have B:=zH (zT B.o l);have O:=zH l;by_cases G:k<n
   ·have y:=HA.o.on Aa B.o;obtain⟨b,s,p0,rfl,N,z0,z1,z2⟩:=Ap y G;clear z0 z1 z2;have q0:=Lf y rfl G;obtain⟨m1,P⟩:=zG ((k+1)%n);obtain⟨m2,Q⟩:=zG ((k+2)%n);have l1:m1<n:=by rw[<-P];exact Nat.mod_lt _ zO
    have l2:m2<n:=by rw[<-Q];exact Nat.mod_lt _ zO
    have q1:=Lf y rfl l1;have q2:=Lf y rfl l2;have e1:vtx ps m1=vtx ps (k+1):=by rw[<-P];exact QR t.o _
    have e2:vtx ps m2=vtx ps (k+2):=by rw[<-Q];exact QR t.o _
    rw[e1]at q1;rw[e2]at q2;have ga:=Cy U.o (by rw[t.o];omega) k;have gb:=Cy U.o (by rw[t.o];omega) (k+1);have gc:=Cy U.o (by rw[t.o];omega) (k+2);obtain⟨pa,X⟩:=zG (vtx ps k);obtain⟨pb,Y⟩:=zG (vtx ps (k+1));obtain⟨pc,Z⟩:=zG (vtx ps (k+2));rw[X]at q0 ga;rw[Y]at q1 gb;rw[Z]at q2 gc;have F:=zH (zu2 X (zu2 Y Z));have R:=zH (λW=>YQ pa pb pc W ga gb gc);have a7:=zH (zu2 ga gb);have ae:=zH y;obtain⟨q0a,q0b⟩:=q0;obtain⟨q1a,q1b⟩:=q1;have D:Bw wr (zw (zw wr #[zi pa.1,zi pa.2] 56) #[zi pb.1,zi pb.2] 56):=(zA _).alloc zP _;have r:=zH D;have a8:=zH ((Blk.new wr 56 #[zi pa.1,zi pa.2]).alloc (.cells #[zi pb.1,zi pb.2] 56));have a9:=zH (Blk.new' (zw wr #[zi pa.1,zi pa.2] 56) 56 #[zi pb.1,zi pb.2] (g:=wr.heap.size+1) zP);have T:=λw'=>zH (nW (w':=w') a8.o a9.o (zs1 N D.size) (Kp N q2.1 q2.2 D))
    have ac:=zH N;obtain⟨i1,i2⟩:=zI (k:=k) (n:=n) (by omega);have i3:((k:Int)+1)%(n:Int)=(m1:Int):=by rw[<-P,Int.natCast_emod];rfl
    have i4:(m1:Int)<(n:Int):=zO;have i5:(m2:Int)<(n:Int):=zO;have i6:IntKind.i64.wrap ((k:Int)+2)=(k:Int)+2:=zs5 _ zO;have i7:((k:Int)+2).tmod (n:Int)=(m2:Int):=by rw[<-Q];rfl
    have i8:¬n=0:=zO;have i9:¬(n:Int)=0:=zO;have i10:((n:Int) == 0)=false:=by simpa using i8
    have q:=Below.refl (zw (zw wr #[zi pa.1,zi pa.2] 56) #[zi pb.1,zi pb.2] 56).heap.size (zw (zw wr #[zi pa.1,zi pa.2] 56) #[zi pb.1,zi pb.2] 56);clear P Q e1 e2 X Y Z ga gb gc q2 D y l;obtain⟨fo,a0⟩:=zG (Ed pa pb pc);rw[a0]at R;have a1:=zH a0;clear a0
    cases fo
    ·go_wp2_with fail
     go_region_held3(λw'=>(w'.cell? (ad wr.heap.size 0)=some (zi pa.1)∧w'.cell? (ad wr.heap.size 1)=some (zi pa.2))∧(w'.cell? (ad (wr.heap.size+1) 0)=some (zi pb.1)∧w'.cell? (ad (wr.heap.size+1) 1)=some (zi pb.2))∧w'.cell? (ad b (s+m2*2))=some (zi pc.1)∧w'.cell? (ad b (s+m2*2+1))=some (zi pc.2))
      ((refine(T _).out ?_;repeat(first|(with_reducible exact zJ)|(with_reducible exact q)|(with_reducible refine Below.drew ?_))))
      ((go_at_call 127;go_must((with_reducible refine(R.o _).mono ?_);rintro e w1 ⟨rfl,x⟩;replace q:=Ag q x;clear x)))
     have HU:=zH q
     have aa:Hid (∀i,i<k+1->Ed (vtx ps i) (vtx ps (i+1)) (vtx ps (i+2))=false):=λi hi=>by
      by_cases e:i=k
      ·subst e;rw[F.o.1,F.o.2.1,F.o.2.2];exact a1.o
      exact hF.out i zO
     clear i3 i4 i5 i6 i7 q R q0a q0b q1a q1b T l1 l2
     go_wp2_with fail
     obtain⟨wm,rfl⟩:∃wm:World,wm=wr:=⟨_,rfl⟩
     go_loopw[9] (λi wr=>∃j:Nat,k+2<=j∧j<=n+1∧i=zi (j:Int)∧Hid (∀i,k+2<=i->i<j->i<n->(i+1)%n≠k->Iu pa pb (vtx ps i) (vtx ps (i+1))=false)∧Bw (zw (zw wm #[zi pa.1,zi pa.2] 56) #[zi pb.1,zi pb.2] 56) wr) (λi _=>n+2-(intOf i).toNat)
     case atStart=>exact⟨k+2,by omega,by omega,by go_num,(λi h I=>by omega),HU.o⟩
     case round=>
      obtain⟨j,af,ai,rfl,hI,l⟩:=hrel;obtain⟨m,v⟩:=zG ((j+1)%n);have lm:m<n:=by rw[<-v];exact Nat.mod_lt _ zO
      have z:=zH l;have j1:((j:Int)+1)%(n:Int)=(m:Int):=by rw[<-v,Int.natCast_emod];rfl
      have C:∀(hx:∀i,k+2<=i->i<n->(i+1)%n≠k->i<j),Hid (∀i j,i<k+1->j<n->i+2<=j->(j+1)%n≠i->Iu (vtx ps i) (vtx ps (i+1)) (vtx ps j) (vtx ps (j+1))=false):=λhx i j' hi a2 I E=>by
       by_cases e:i=k
       ·subst e;rw[F.o.1,F.o.2.1];exact hI.out j' I (hx j' I a2 E) a2 E
       exact hM.out i j' zO a2 I E
      by_cases L:j<n
      ·by_cases J:m=k
       ·have HD:=C (λi h1 I E=>by
         have:=nX (v.trans J) L zO;by_cases e:i=j
         ·subst e;exact absurd (v.trans J) E
         omega)
        have j2:((m:Int) != (k:Int))=false:=by simp;omega
        have j3:(j:Int)<(n:Int):=zO;clear v J C hI l
        go_wp2_with fail
        go_roundw
        case rel=>exact⟨k+1,by omega,by go_num,aa,HD,O.o.trans ((zT r.o z.o).mono O.o.size)⟩
        case measure=>exact zM
       have M:=(ae.o.on Aa r.o).on Aa z.o;have q0:=Lf M rfl L;have q1:=Lf M rfl lm;have e1:vtx ps m=vtx ps (j+1):=by rw[<-v];exact QR t.o _
       rw[e1]at q1;have ga:=Cy U.o (by rw[t.o];omega) j;have gb:=Cy U.o (by rw[t.o];omega) (j+1);obtain⟨px,a3⟩:=zG (vtx ps j);obtain⟨py,a4⟩:=zG (vtx ps (j+1));rw[a3]at q0 ga;rw[a4]at q1 gb;have S:=zH (zu2 a3 a4);have a5:=zH (λW=>nV pa pb px py W a7.o.1 a7.o.2 ga gb);have ag:=zH (show(j+1)%n≠k by rw[v];exact J);have T:=λw'=>zH (YS (w':=w') (a8.o.below z.o) (a9.o.below z.o) (zs1 ac.out (zs0 r.o.size z.o.size)) q0 q1)
       have j2:((m:Int) != (k:Int))=true:=by simp;omega
       have j3:(j:Int)<(n:Int):=zO;have j4:(0:Int)<=(j:Int):=zO;have j5:(m:Int)<(n:Int):=zO;have j6:IntKind.i64.wrap ((j:Int)+1)=(j:Int)+1:=zs5 _ zO;have j7:((j:Int)+1).tmod (n:Int)=(m:Int):=by rw[<-v];rfl
       have q:=Below.refl wr.heap.size wr;clear v J C l M e1 a3 a4 ga gb q0 q1 lm;obtain⟨mo,a6⟩:=zG (Iu pa pb px py);rw[a6]at a5;have ab:=zH a6;clear a6
       cases mo
       ·have ah:Hid (∀i,k+2<=i->i<j+1->i<n->(i+1)%n≠k->Iu pa pb (vtx ps i) (vtx ps (i+1))=false):=λi h1 I E h4=>by
         by_cases e:i=j
         ·subst e;rw[S.o.1,S.o.2];exact ab.o
         exact hI.out i h1 zO E h4
        go_wp2_with fail
        go_region_held3(λw'=>(w'.cell? (ad wm.heap.size 0)=some (zi pa.1)∧w'.cell? (ad wm.heap.size 1)=some (zi pa.2))∧(w'.cell? (ad (wm.heap.size+1) 0)=some (zi pb.1)∧w'.cell? (ad (wm.heap.size+1) 1)=some (zi pb.2))∧(w'.cell? (ad b (s+j*2))=some (zi px.1)∧w'.cell? (ad b (s+j*2+1))=some (zi px.2))∧w'.cell? (ad b (s+m*2))=some (zi py.1)∧w'.cell? (ad b (s+m*2+1))=some (zi py.2))
         ((refine(T _).out ?_;repeat(first|(with_reducible exact zJ)|(with_reducible exact q)|(with_reducible refine Below.drew ?_))))
         ((go_at_call 128;go_must((with_reducible refine(a5.o _).mono ?_);rintro e w1 ⟨rfl,x⟩;replace q:=Ag q x;clear x)))
        clear j6 j7
        go_wp2_with fail
        go_roundw
        case rel=>exact⟨j+1,by omega,by omega,by go_num,ah,zT z.o q⟩
        case measure=>exact zM
       have H:Hid (BZ ps=false):=V5 (i:=k) (k:=j) (by rw[t.o];exact G) (by rw[t.o];exact L) af (by rw[t.o];exact ag.o) (by rw[F.o.1,F.o.2.1,S.o.1,S.o.2];exact ab.o)
       go_wp2_with fail
       go_region_held3(λw'=>(w'.cell? (ad wm.heap.size 0)=some (zi pa.1)∧w'.cell? (ad wm.heap.size 1)=some (zi pa.2))∧(w'.cell? (ad (wm.heap.size+1) 0)=some (zi pb.1)∧w'.cell? (ad (wm.heap.size+1) 1)=some (zi pb.2))∧(w'.cell? (ad b (s+j*2))=some (zi px.1)∧w'.cell? (ad b (s+j*2+1))=some (zi px.2))∧w'.cell? (ad b (s+m*2))=some (zi py.1)∧w'.cell? (ad b (s+m*2+1))=some (zi py.2))
        ((refine(T _).out ?_;repeat(first|(with_reducible exact zJ)|(with_reducible exact q)|(with_reducible refine Below.drew ?_))))
        ((go_at_call 128;go_must((with_reducible refine(a5.o _).mono ?_);rintro e w1 ⟨rfl,x⟩;replace q:=Ag q x;clear x)))
       clear j6 j7
       go_wp2_with fail
       go_ret;exact⟨by rw[H.o];rfl,B.o.trans ((r.o.trans ((zT z.o q).mono r.o.size)).mono B.o.size)⟩
      have HD:=C (λi h1 I E=>by omega);have j3:¬(j:Int)<(n:Int):=zO;clear v C hI l
      go_wp2_with fail
      go_roundw
      case rel=>exact⟨k+1,by omega,by go_num,aa,HD,O.o.trans ((zT r.o z.o).mono O.o.size)⟩
      case measure=>exact zM
    have H:Hid (BZ ps=false):=N7 (i:=k) (by rw[t.o];exact G) (by rw[F.o.1,F.o.2.1,F.o.2.2];exact a1.o)
    go_wp2_with fail
    go_region_held3(λw'=>(w'.cell? (ad wr.heap.size 0)=some (zi pa.1)∧w'.cell? (ad wr.heap.size 1)=some (zi pa.2))∧(w'.cell? (ad (wr.heap.size+1) 0)=some (zi pb.1)∧w'.cell? (ad (wr.heap.size+1) 1)=some (zi pb.2))∧w'.cell? (ad b (s+m2*2))=some (zi pc.1)∧w'.cell? (ad b (s+m2*2+1))=some (zi pc.2))
     ((refine(T _).out ?_;repeat(first|(with_reducible exact zJ)|(with_reducible exact q)|(with_reducible refine Below.drew ?_))))
     ((go_at_call 127;go_must((with_reducible refine(R.o _).mono ?_);rintro e w1 ⟨rfl,x⟩;replace q:=Ag q x;clear x)))
    go_wp2_with fail
    go_ret;exact⟨by rw[H.o];rfl,B.o.trans ((zT r.o q).mono B.o.size)⟩
   obtain rfl:n=k:=zO;have H:Hid (BZ ps=true):=Yr H1.o (λi hi=>hF.out i (by rw[t.o]at hi;exact hi)) (λi j hi hj I E=>hM.out i j (by rw[t.o]at hi;exact hi) (by rw[t.o]at hj;exact hj) I (by rw[t.o]at E;exact E));clear hF hM l
   go_wp2_with fail
   go_ret;exact⟨by rw[H.o];rfl,B.o⟩
theorem FJ(A:oA)(n c:Nat)(ps:lP)(w:World)(r:Ab 2 Ad w A n ps)(y:n<=c)(z:n<=1000000) :
  CP 55 #[.slice A n c] w (zR (zi (An ps)) w):=by
 have B:=zH r;have k:=zH r.len;have l:=zH (Gt 86 Av tV A n c ps w r zO);clear r;by_cases m:40<n
 ·have f:Hid (An ps=5):=mP (by rw[k.o];exact m);go_enter func55,ntmps55;go_wp2;go_ret;exact⟨by rw[f.o];rfl,zJ⟩
 by_cases t:n<3
 ·have f:Hid (An ps=11):=tH (by rw[k.o];exact m) (by rw[k.o];exact t);go_enter func55,ntmps55;go_wp2;go_ret;exact⟨by rw[f.o];rfl,zJ⟩
 have i:=zH (zu2 (show ¬40<ps.length by rw[k.o];exact m) (show ¬ps.length<3 by rw[k.o];exact t))
 cases ho:ps.any Av
 ·rw[ho]at l
  have v:∀p∈ps,inG p:=λp C=>by
   rw[<-DZ];obtain⟨j,D⟩:=List.getElem?_of_mem C;exact cW.1 ho j p D
  have s:=zH (λW (E:Bw w W)=>YT A n c ps W (B.o.on Aa E) y z v);have x:=zH ho;clear ho v
  cases hs:BZ ps
  ·have f:Hid (An ps=11):=cX i.o.1 i.o.2 x.o hs;simp only[hs]at s;clear hs;go_enter func55,ntmps55
   go_wp2_with(first
    | (go_at_call 85;refine l.o.mono ?_;rintro e w1 ⟨rfl,a⟩;have b:=zH a;clear a)
    | (go_at_call 87;refine(s.o _ b.o).mono ?_;rintro e w2 ⟨rfl,g⟩;have q:=zH (Ag b.o g);clear g))
   go_ret;exact⟨by rw[f.o];rfl,q.o⟩
  have f:Hid (An ps=0):=xI i.o.1 i.o.2 x.o hs;simp only[hs]at s;clear hs;go_enter func55,ntmps55
  go_wp2_with(first
   | (go_at_call 85;refine l.o.mono ?_;rintro e w1 ⟨rfl,a⟩;have b:=zH a;clear a)
   | (go_at_call 87;refine(s.o _ b.o).mono ?_;rintro e w2 ⟨rfl,g⟩;have q:=zH (Ag b.o g);clear g))
  go_ret;exact⟨by rw[f.o];rfl,q.o⟩
 rw[ho]at l;have f:Hid (An ps=3):=tI i.o.1 i.o.2 ho;clear ho;go_enter func55,ntmps55;go_wp2_with(go_at_call 85;refine l.o.mono ?_;rintro e w1 ⟨rfl,a⟩;have b:=zH a;clear a)
 go_ret;exact⟨by rw[f.o];rfl,b.o⟩
theorem nY(v:Value)(k:Nat)(q:Rat)(w:World)(R:BK w v k q)(S:1<=k)(a0:k<=100000) :
  CP 271 #[v] w (KL (-q) w):=by
 obtain⟨b,A,n,c,B,m,d,x,y,rfl,G,H,I,J,K⟩:=R;have L:=zH (zu2 G H);have s:=λW (f:Bw w W)=>DW b A n c x B m d y W (L.o.1.on f) (L.o.2.on f) k I J S zO
 rw[K]at s;have s:=zH s;have f:Bw w (zw (zw w #[.bool b,.slice A n c,.slice B m d] 217) #[zF,zn,zn] 217):=(zA _).alloc zP _;have X0:Blk (zw (zw w #[.bool b,.slice A n c,.slice B m d] 217) #[zF,zn,zn] 217) w.heap.size 217 #[.bool b,.slice A n c,.slice B m d]:=(Blk.new w _ _).alloc _;have Y0:Blk (zw (zw w #[.bool b,.slice A n c,.slice B m d] 217) #[zF,zn,zn] 217) (w.heap.size+1) 217 #[zF,zn,zn]:=Blk.new' _ _ _ zP;clear G H I J K;go_enter func271,ntmps271
 go_wp2_with fail
 refine(s.o _ f).mono ?_;rintro e w1 ⟨neg',A',n',c',B',m',d',x',y',rfl,g1,g2,g3,g4,g5,g6,g⟩;have B1:=Fi (zT f g) (r:=w.heap.size) (zs2 _) (.bool neg') (.slice A' n' c') (.slice B' m' d');have X1:=X0.below g;have E:=NoU.blk X1 zP;have Y1:=(((Y0.below g).far (p:=ad w.heap.size 0) zP (.bool neg')).far (p:=ad w.heap.size 1) zP (.slice A' n' c')).far (p:=ad w.heap.size 2) zP (.slice B' m' d');have g1':=g1.no3 E (u0:=.bool neg') (u1:=.slice A' n' c') (.slice B' m' d');have g2':=g2.no3 E (u0:=.bool neg') (u1:=.slice A' n' c') (.slice B' m' d');have f0:=X1.c (i:=0) rfl;have f1:=X1.c (i:=1) rfl;have f2:=X1.c (i:=2) rfl;have z0:=X1.frozen 0;have z1:=X1.frozen 1;have z2:=X1.frozen 2;have X2:=((X1.set_ 0 (.bool neg')).set_ 1 (.slice A' n' c')).set_ 2 (.slice B' m' d');have t:=zH X2;have T:=zH Y1;have F:=zH (zu2 g1' g2');have C:=zH B1;have M:rv (sgn (!neg') x') y' = -q:=by rw[tE,<-mK,g4]
 have z:=λW N O A n c (h:Sl W W.heap.size A n (AC (Aj (sgn (!neg') x').natAbs))) (U:n<=c) (V:n<=1000000)=>Hk (Ay (sgn (!neg') x')) A n c (sgn (!neg') x').natAbs B' m' d' y' W (.of_limbs h U) N V O g3
 rw[CV,M]at z;have z:=zH z;clear X0 Y0 g f E g1 g2 g1' g2' X1 g4 X2 Y1 B1 M
 go_wp2_with fail
 have v0:=t.o.c (i:=0) (v:=.bool neg') rfl;have v1:=t.o.c (i:=1) (v:=.slice A' n' c') rfl;have v2:=t.o.c (i:=2) (v:=.slice B' m' d') rfl;have q0:¬w.heap.size+1=w.heap.size:=zO;have q1:¬w.heap.size=w.heap.size+1:=zO
 go_region_held3(λw'=>w'.cell? (ad w.heap.size 0)=some (.bool neg')∧w'.cell? (ad w.heap.size 1)=some (.slice A' n' c')∧w'.cell? (ad w.heap.size 2)=some (.slice B' m' d'))
  (go_keep)
  (first
  | (go_at_call 289;go_must((refine(nI neg' A' n' c' x' _ (by exact F.o.1) zO).mono ?_);rintro e w2 ⟨A2,n2,c2,rfl,r1,r2,a⟩;have a1:=zH a;have j:=zH (t.o.below (w':=w2) (zX a));have P:=zH (T.o.below (w':=w2) (zX a));have D:=zH (C.o.trans (Below.mono (w':=w2) (zX a) C.o.size));have X:=zH (F.o.2.on (w':=w2) (zX a));have s0:=j.o.c (i:=0) (v:=.bool neg') rfl;have s1:=j.o.c (i:=1) (v:=.slice A' n' c') rfl;have s2:=j.o.c (i:=2) (v:=.slice B' m' d') rfl;have Q:n2<=1000000:=(by rw[<-r1.ulen,B7];exact zs0 F.o.1.trimmed.1 zO);have Y:=zH r1;clear r1 a))
  | (go_at_call 263;go_must((refine(z.o _ X.o zO A2 n2 c2 Y.o r2 Q).mono ?_);rintro e w3 ⟨A3,n3,c3,B3,m3,d3,rfl,r3,r4,r5,r6,l⟩;have Y3:=P.o.below l;have X3:=j.o.below l;have Z:=zH (NN r3 r4 r5 r6 Y3 zP (zT D.o l) zO);have t0:=X3.c (i:=0) (v:=.bool neg') rfl;have t1:=X3.c (i:=1) (v:=.slice A' n' c') rfl;have t2:=X3.c (i:=2) (v:=.slice B' m' d') rfl;have k0:=Y3.c (i:=0) rfl;have k1:=Y3.c (i:=1) rfl;have k2:=Y3.c (i:=2) rfl;have y0:=Y3.frozen 0;have y1:=Y3.frozen 1;have y2:=Y3.frozen 2;clear r3 r5 Y3 X3 l)))
 go_wp2_with fail
 refine bodyPost_ret (v:=.agg #[.bool (Ay (-q).num),.slice A3 n3 c3,.slice B3 m3 d3]) (by simp[results,results271,go_sem,k0,k1,k2]) rfl ?_;exact Z.o
def T3(t:Bool)(p q:Rat)(j k:Nat)(w wx:World):Prop:=
 ∃a A1 n1 c1 B1 m1 d1 x1 y1 b A2 n2 c2 B2 m2 d2 x2 y2,Blk wx w.heap.size 217 #[.bool a,.slice A1 n1 c1,.slice B1 m1 d1]∧Blk wx (w.heap.size+1) 217 #[.bool b,.slice A2 n2 c2,.slice B2 m2 d2]∧(t=true->Blk wx (w.heap.size+1+1) 217 #[zF,zn,zn])∧
  At wx A1 n1 c1 x1∧At wx B1 m1 d1 y1∧y1≠0∧rv (sgn a x1) y1=p∧n1<=j∧m1<=j∧At wx A2 n2 c2 x2∧At wx B2 m2 d2 y2∧y2≠0∧rv (sgn b x2) y2=q∧n2<=k∧m2<=k∧Bw w wx
theorem NoU.set3(h:NoU w r)(g:Nat)(a:∀x,u0≠.int .u32 x)(b:∀x,u1≠.int .u32 x)(e:∀x,u2≠.int .u32 x):NoU (((w.setCell (ad g 0) u0).setCell (ad g 1) u1).setCell (ad g 2) u2) r:=((h.set _ a).set _ b).set _ e
theorem Blk.far3(h:Blk w g t cs)(a:g≠r)(u0 u1 u2:Value):Blk (((w.setCell (ad r 0) u0).setCell (ad r 1) u1).setCell (ad r 2) u2) g t cs:=
 ((h.far (p:=ad r 0) a _).far (p:=ad r 1) a _).far (p:=ad r 2) a _
theorem Blk.put3(h:Blk w g t #[e0,e1,e2])(u0 u1 u2:Value):Blk (((w.setCell (ad g 0) u0).setCell (ad g 1) u1).setCell (ad g 2) u2) g t #[u0,u1,u2]:=
 ((h.set_ 0 u0).set_ 1 u1).set_ 2 u2
theorem LO{t:Bool}{p q:Rat}{a:Bool}{A1 B1 A2 B2:oA}{n1 c1 m1 d1 x1 y1 n2 c2 m2 d2 x2 y2:Nat}{f0 f1 f2:Value}
  (a1:At w2 A1 n1 c1 x1) (a2:At w2 B1 m1 d1 y1) (a3:y1≠0) (a4:rv (sgn a x1) y1=p) (a5:n1<=j) (a6:m1<=j) (b1:At w2 A2 n2 c2 x2) (b2:At w2 B2 m2 d2 y2) (b3:y2≠0) (b4:rv (sgn e x2) y2=q) (b5:n2<=k) (b6:m2<=k)
  (i:Blk w2 w.heap.size 217 #[e0,e1,e2]) (l:Blk w2 (w.heap.size+1) 217 #[f0,f1,f2]) (m:t=true->Blk w2 (w.heap.size+1+1) 217 #[zF,zn,zn]) (n:Bw w w2)
  (f:NoU w2 w.heap.size) (g:NoU w2 (w.heap.size+1)) :
  T3 t p q j k w ((((((w2.setCell (ad w.heap.size 0) (.bool a)).setCell (ad w.heap.size 1) (.slice A1 n1 c1)).setCell (ad w.heap.size 2) (.slice B1 m1 d1)).setCell (ad (w.heap.size+1) 0) (.bool e)).setCell (ad (w.heap.size+1) 1) (.slice A2 n2 c2)).setCell (ad (w.heap.size+1) 2) (.slice B2 m2 d2)):=by
 have b:=g.set3 w.heap.size (u0:=.bool a) (u1:=.slice A1 n1 c1) (u2:=.slice B1 m1 d1) zP zP zP;refine⟨a,A1,n1,c1,B1,m1,d1,x1,y1,e,A2,n2,c2,B2,m2,d2,x2,y2,(i.put3 _ _ _).far3 zO _ _ _,(l.far3 zO _ _ _).put3 _ _ _,λh=>((m h).far3 zO _ _ _).far3 zO _ _ _,?_⟩;exact⟨(a1.no3 f _).no3 b _,(a2.no3 f _).no3 b _,a3,a4,a5,a6,(b1.no3 f _).no3 b _,(b2.no3 f _).no3 b _,b3,b4,b5,b6,Fi (Fi n (zs2 _) _ _ _) zO _ _ _⟩
theorem six{a b c d e f:Value}(i:Blk w g t #[a,b,c])(j:Blk w h s #[d,e,f]):zL w g 0 a∧zL w g 1 b∧zL w g 2 c∧zL w h 0 d∧zL w h 1 e∧zL w h 2 f:=
 ⟨i.c rfl,i.c rfl,i.c rfl,j.c rfl,j.c rfl,j.c rfl⟩
theorem eO{j:Int}:I2 i j=0↔i=j:=by
 unfold I2;split
 ·exact⟨λh=>absurd h zD,λh=>by omega⟩
 split
 ·exact⟨λh=>absurd h zD,λh=>by omega⟩
 exact⟨λ_=>by omega,λ_=>rfl⟩
def Aaj(p q:Rat)(w:World)(e:Ending)(w':World):Prop:=∃c:Int,e=.returned (zi c)∧(c=0↔p=q)∧Bw w w'
theorem T4(v u:Value)(j k:Nat)(p q:Rat)(w:World)(ha:BK w v j p)(hb:BK w u k q)(hj:1<=j)(hk:1<=k)(ah:j<=100000)(ai:k<=100000) :
  CP 162 #[v,u] w (Aaj p q w):=by
 obtain⟨z,A,n,c,B,m,d,x,y,rfl,Y,Z,h3,h4,h5⟩:=ha;obtain⟨f,A2,n2,c2,B2,m2,d2,x2,y2,rfl,g1,g2,g3,g4,g5⟩:=hb;have K:=λW (s:Bw w W)=>DW z A n c x B m d y W (Y.on s) (Z.on s) j h3 h4 hj zO
 rw[h5]at K;have L:=λW (s:Bw w W)=>DW f A2 n2 c2 x2 B2 m2 d2 y2 W (g1.on s) (g2.on s) k g3 g4 hk zO
 rw[g5]at L;have K:=zH K;have L:=zH L;have s:Bw w (zw (zw w #[.bool z,.slice A n c,.slice B m d] 217) #[.bool f,.slice A2 n2 c2,.slice B2 m2 d2] 217):=(zA _).alloc zP _;have X0:Blk (zw (zw w #[.bool z,.slice A n c,.slice B m d] 217) #[.bool f,.slice A2 n2 c2,.slice B2 m2 d2] 217) w.heap.size 217 #[.bool z,.slice A n c,.slice B m d]:=((Blk.new w _ _).alloc _);have Y0:Blk (zw (zw w #[.bool z,.slice A n c,.slice B m d] 217) #[.bool f,.slice A2 n2 c2,.slice B2 m2 d2] 217) (w.heap.size+1) 217 #[.bool f,.slice A2 n2 c2,.slice B2 m2 d2]:=Blk.new' (zw w #[.bool z,.slice A n c,.slice B m d] 217) 217 #[.bool f,.slice A2 n2 c2,.slice B2 m2 d2] zP;have G:=zH X0;have H:=zH Y0;clear Y Z h3 h4 h5 g1 g2 g3 g4 g5 X0 Y0;have aj:w.heap.size<w.heap.size+1+1:=zO;have ak:¬w.heap.size+1=w.heap.size:=zO;go_enter func162,ntmps162
 go_upto_region 1 with fail
 go_cut [4] (λs4 wx=>s4=zi 0∧T3 false p q j k w wx)
 case first=>
  go_region_with (first
   | (go_at_call_of 209 (Value.agg #[.bool z,.slice A n c,.slice B m d]);go_must((refine(K.o _ (by exact s.drew)).mono ?_);rintro e w1 ⟨ng,C,cn,cc,E,en,ec,xx,yy,rfl,a1,a2,a3,a4,a5,a6,a⟩;obtain⟨al,am⟩:=Cc a;have an:w.heap.size+1<w1.heap.size:=(by have:=a.size;simp at this;omega);have ao:w.heap.size<w1.heap.size:=zO;have ap:w.heap.size+1<w1.heap.size:=zO))
   | (go_at_call 209;go_must((refine(L.o _ (by exact s.drew.trans (a.mono s.drew.size))).mono ?_);rintro e w2 ⟨ng2,C2,cn2,cc2,E2,en2,ec2,xx2,yy2,rfl,b1,b2,b3,b4,b5,b6,b⟩;obtain⟨a9,aa⟩:=Cc b)))
  all_goals
   have X2:=(G.o.below (w':=w1) (zX a)).below b;have Y2:=(H.o.below (w':=w1) (zX a)).below b;have I:Bw w w1:=s.trans (Below.mono (zX a) s.size);have U:=zH (LO (t:=false) (w:=w) (a1.on b) (a2.on b) a3 a4 a5 a6 b1 b2 b3 b4 b5 b6 X2 Y2 (by intro h;cases h) (zT I b) (NoU.blk X2 zP) (NoU.blk Y2 zP));clear X2 Y2 a1 a2 b1 b2 I
   go_wp2_with fail
   go_meet;exact⟨rfl,U.o⟩
 case rest=>
  clear G H K L s;obtain⟨rfl,g,A1,n1,c1,B1,m1,d1,x1,y1,i,A3,n3,c3,B3,m3,d3,x3,y3,V,X,hZ,a1,a2,a3,a4,a5,a6,b1,b2,b3,b4,b5,b6,M⟩:=hcut;have G:=zH V;have H:=zH X;have P:=zH (zu2 a1 (zu2 a2 (zu2 b1 b2)));have hs:=six V X
  have l1:nl (sgn g x1*sgn false y3).natAbs<=1000000:=by
   refine zs0 (Er _ _ (j:=j) (k:=k) ?_ ?_) zO
   ·rw[B7];exact zs0 a1.trimmed.1 a5
   rw[B7];exact zs0 b2.trimmed.1 b6
  have l2:nl (sgn i x3*sgn false y1).natAbs<=1000000:=by
   refine zs0 (Er _ _ (j:=k) (k:=j) ?_ ?_) zO
   ·rw[B7];exact zs0 b1.trimmed.1 b5
   rw[B7];exact zs0 a2.trimmed.1 a6
  have U:Hid (I2 (sgn g x1*sgn false y3) (sgn i x3*sgn false y1)=0↔p=q):=by
   rw[Hid,eO,<-a4,<-b4,sL a3 b3];rfl
  clear V X hZ a1 a2 b1 b2;obtain⟨s0,s1,s2,s3,s4,s5⟩:=hs
  go_wp2_with fail
  go_region_held3(λw'=>w'.cell? (ad w.heap.size 0)=some (.bool g)∧w'.cell? (ad w.heap.size 1)=some (.slice A1 n1 c1)∧w'.cell? (ad w.heap.size 2)=some (.slice B1 m1 d1)∧w'.cell? (ad (w.heap.size+1) 0)=some (.bool i)∧w'.cell? (ad (w.heap.size+1) 1)=some (.slice A3 n3 c3)∧w'.cell? (ad (w.heap.size+1) 2)=some (.slice B3 m3 d3))
   (go_keep)
   (first
   | (go_at_call_of 212 (Value.slice B3 m3 d3);go_must((refine(EJ B3 m3 d3 _).mono ?_);rintro e w2 ⟨rfl,b⟩;have l:=zH (show Bw wc w2 from(zX b));have ab:=six (G.o.below l.o) (H.o.below l.o);clear b))
   | (go_at_call_of 211 (Value.agg #[.bool g,.slice A1 n1 c1]);go_must((refine(GF g A1 n1 c1 x1 false B3 m3 d3 y3 _ (by exact P.o.1.on l.o) (by exact P.o.2.2.2.on l.o) zO zO).mono ?_);rintro e w3 ⟨C3,k3,e3,rfl,r3,a0,Q⟩;have D:=zH (show Bw wc w3 from l.o.trans ((Q:Bw w2 w3).mono l.o.size));have ac:=six (G.o.below D.o) (H.o.below D.o);have HM:=zH r3;clear r3;clear Q))
   | (go_at_call_of 212 (Value.slice B1 m1 d1);go_must((refine(EJ B1 m1 d1 _).mono ?_);rintro e w4 ⟨rfl,N⟩;have r:=zH (show Bw wc w4 from D.o.trans ((N:Bw w3 w4).mono D.o.size));have ae:=six (G.o.below r.o) (H.o.below r.o);have a7:=zH (HM.o.on N);clear N))
   | (go_at_call_of 211 (Value.agg #[.bool i,.slice A3 n3 c3]);go_must((refine(GF i A3 n3 c3 x3 false B1 m1 d1 y1 _ (by exact P.o.2.2.1.on r.o) (by exact P.o.2.1.on r.o) zO zO).mono ?_);rintro e w5 ⟨C5,k5,e5,rfl,r5,a8,O⟩;have F:=zH (show Bw wc w5 from r.o.trans ((O:Bw w4 w5).mono r.o.size));have af:=six (G.o.below F.o) (H.o.below F.o);have R:=zH (a7.o.on O);have S:=zH r5;clear r5;clear O))
   | (go_at_call 210;go_must((refine(nJ _ C3 k3 e3 (sgn g x1*sgn false y3).natAbs _ C5 k5 e5 (sgn i x3*sgn false y1).natAbs _ (by exact .of_limbs R.o a0) (by exact .of_limbs S.o a8) (by rw[<-R.o.ulen];exact l1) (by rw[<-S.o.ulen];exact l2)).mono ?_);rintro e w6 ⟨rfl,T⟩;have J:=zH (show Bw wc w6 from F.o.trans ((T:Bw w5 w6).mono F.o.size));have ag:=six (G.o.below J.o) (H.o.below J.o);rw[CV,CV];clear T)))
  go_wp2_with fail
  go_ret;exact⟨_,rfl,U.o,zT M J.o⟩
theorem BK.zero(w:World):BK w (.agg #[zF,zn,zn]) 1 0:=
 ⟨false,none,0,0,none,0,0,0,0,rfl,At.nil w none 0,At.nil w none 0,by omega,by omega,by rw[QL]⟩
theorem MY(w:World):CP 251 #[zi 2] w λe w'=>e=.returned (.tuple #[zi 0,zi 0])∧w=w':=by
 go_enter func251,ntmps251;go_wp2;go_ret2
 exact⟨rfl,rfl⟩
def E5(s:ByteArray):Value:=.agg #[zi 2,zF,zn,zn,.string s,zn]
def sP(w:World)(s:ByteArray):World:=w.alloc (.cells #[zi 2,zF,zn,zn,.string s,zn] 220)
theorem YU(w:World)(s:ByteArray):Bw w (sP w s):=zA _
theorem YV(s:ByteArray)(w:World)(f:s.size<=9223372036854775807) :
  CP 208 #[E5 s] w (zR (.bool (AD s.data.toList)) w):=by
 unfold E5;have a:=λW=>Ym s W f
 have b:=zH (YU w s)
 cases hn:AD s.data.toList
 ·simp only[hn]at a;have a:=zH a;clear hn;go_enter func208,ntmps208
  go_wp2_with(first
   | (go_at_call 251;refine(MY _).mono ?_;rintro e w' ⟨rfl,rfl⟩)
   | (go_at_call 252;refine(a.o _).mono ?_;rintro e w' ⟨rfl,rfl⟩))
  go_ret;exact⟨rfl,b.o⟩
 simp only[hn]at a;have a:=zH a;clear hn;go_enter func208,ntmps208
 go_wp2_with(first
  | (go_at_call 251;refine(MY _).mono ?_;rintro e w' ⟨rfl,rfl⟩)
  | (go_at_call 252;refine(a.o _).mono ?_;rintro e w' ⟨rfl,rfl⟩)
  | (go_at_call 162;refine(T4 _ _ 1 1 0 0 _ (BK.zero _) (BK.zero _) zO zO zO zO).mono ?_;rintro e w' ⟨c,rfl,g,i⟩;obtain rfl:c=0:=g.2 rfl))
 go_ret;exact⟨rfl,zT b.o i⟩
theorem YW(s:ByteArray)(w:World)(g:s.size<=9223372036854775807) :
  CP 159 #[E5 s,zi 1] w (zR (zi (if AD s.data.toList=true then 0 else 1)) w):=by
 have a:=λW=>YV s W g
 unfold E5 at a⊢
 have b:=zH (YU w s)
 cases hn:AD s.data.toList
 ·simp only[hn]at a;have a:=zH a;clear hn;go_enter func159,ntmps159;go_wp2_with(go_at_call 208;refine(a.o _).mono ?_;rintro e w' ⟨rfl,f⟩)
  go_ret;exact⟨rfl,zT b.o f⟩
 simp only[hn]at a;have a:=zH a;have X0:Blk (sP w s) w.heap.size 220 #[zi 2,zF,zn,zn,.string s,zn]:=Blk.new w _ _;have j:=zH X0;clear hn X0;go_enter func159,ntmps159;go_wp2_with(go_at_call 208;refine(a.o _).mono ?_;rintro e w' ⟨rfl,f⟩;have X1:=(j.o.below f).c (i:=5) rfl)
 go_loop [16] (λi=>i=zi 0) (λ_=>0)
 case atStart=>exact rfl
 case round=>
  subst hrel;go_wp2;go_ret;exact⟨rfl,zT b.o f⟩
theorem LP(s:ByteArray)(w:World)(f:s.size<=9223372036854775807) :
  CP 117 #[E5 s] w (zR (zi (if AD s.data.toList=true then 0 else 1)) w):=by
 have a:=λW=>YW s W f
 have b:=zH (YU w s);unfold E5 at a⊢
 generalize(if AD s.data.toList=true then(0:Int)else 1)=z at a⊢
 have a:=zH a;go_enter func117,ntmps117;go_wp2_with(go_at_call 159;refine(a.o _).mono ?_;rintro e w' ⟨rfl,g⟩)
 go_ret;exact⟨rfl,zT b.o g⟩
theorem eP(s:ByteArray)(w:World)(f:s.size<=9223372036854775807) :
  CP 161 #[.string s] w (zR (.bool (AD s.data.toList)) w):=by
 have a:=λW=>LP s W f
 unfold E5 at a
 cases hn:AD s.data.toList
 ·simp only[hn]at a;have a:=zH a;clear hn;go_enter func161,ntmps161;go_wp2_with(go_at_call 117;refine(a.o _).mono ?_;rintro e w' ⟨rfl,b⟩)
  go_ret;exact⟨rfl,b⟩
 simp only[hn]at a;have a:=zH a;clear hn;go_enter func161,ntmps161;go_wp2_with(go_at_call 117;refine(a.o _).mono ?_;rintro e w' ⟨rfl,b⟩)
 go_ret;exact⟨rfl,b⟩
theorem eQ(s:ByteArray)(w:World)(b:s.size<=9223372036854775807) :
  CP 166 #[.string s] w (zR (.bool (AD s.data.toList)) w):=by
 have a:=λW=>LP s W b
 unfold E5 at a
 cases hn:AD s.data.toList
 all_goals
  simp only[hn]at a;have a:=zH a;clear hn;go_enter func166,ntmps166;go_wp2_with(go_at_call 117;refine(a.o _).mono ?_;rintro e w' ⟨rfl,f⟩)
  go_ret;exact⟨rfl,f⟩
theorem RG(s:ByteArray)(w:World)(b:s.size<=9223372036854775807) :
  CP 80 #[.string s] w (zR (.bool (AD s.data.toList)) w):=by
 have a:=λW=>LP s W b
 unfold E5 at a
 cases hn:AD s.data.toList
 all_goals
  simp only[hn]at a;have a:=zH a;clear hn;go_enter func80,ntmps80;go_wp2_with(go_at_call 117;refine(a.o _).mono ?_;rintro e w' ⟨rfl,f⟩)
  go_ret;exact⟨rfl,f⟩
def spC(p:Pt):List Value:=[zi p.1,zi p.2]
theorem Bu(p:Pt):(spC p).length=2:=rfl
theorem BY:(prog.info? 56).map (λi=>(i.zero,i.size,i.bytes))=some (some (.agg #[zi 0,zi 0]),2,16):=zk
def sQ(ps:lP)(w:World)(e:Ending)(w':World):Prop:=∃A n c,e=.returned (.slice A n c)∧Ab 2 Ad w' A n ps∧n<=c∧Bw w w'
theorem MZ(h:Ab 2 Ad w A n ps)(p:0<n):∃b a,A=some ⟨b,a,none⟩∧b<w.heap.size∧∀j u,(ps.flatMap spC)[j]?=some u->w.cell? (ad b (a+j))=some u:=by
 obtain⟨b,a,e,g,q⟩:=h.2 p;refine⟨b,a,e,g,λj u i=>?_⟩;have k:=(zq1.1 i).1;rw[DG Bu]at k;have l:ps[j/2]?=some (ps[j/2]'zO):=zq0 zO;obtain⟨vs,r,s⟩:=q _ _ l;have m:spC (ps[j/2]'zO)=vs:=r.symm;have f:j%2<(spC (ps[j/2]'zO)).length:=by rw[Bu];omega
 have:=JB Bu l (j%2) _ (zq0 f);rw[show j/2*2+j%2=j by omega,i]at this;have o:=s (j%2) u (by rw[<-m,zq0 f];exact this.symm);rw[show a+j=a+j/2*2+j%2 by omega];exact o
theorem M0(A:oA)(n c:Nat)(l:List As)(w:World)(H:Ab 2 CQ w A n l)(hn:n<=1000)(K:∀e∈l,2<=e.line.length∧e.line.length<=1000) :
  CP 168 #[.slice A n c] w (sQ (AL l) w):=by
 have U:=zH H;have V:=zH H.len;have W:=zH K;clear H K;go_enter func168,ntmps168;go_wp2
 go_loopw[3,8] (λv i wr=>∃k m:Nat,k<=n∧i=zi (k:Int)∧m<=k*1000∧m=(AL (l.take k)).length∧wr.ownsRow w.heap.size 56 2 v m ((AL (l.take k)).flatMap spC)∧Bw w wr) (λ_ i _=>n-(intOf i).toNat)
 case atStart=>exact⟨0,0,zs3 _,rfl,by omega,rfl,World.ownsRow_nil _ _ _ _,zJ⟩
 case round=>
  obtain⟨k,m,hk,rfl,hm,s,a,f⟩:=hrel;have I:=zH f;have X:=zH s;by_cases L:k<n
  ·obtain⟨b,a0,x,B,ln,lc,rfl,a1,F,c0,c1,q,a2⟩:=EO (U.o.on Bq f) L;have HX:=zH F;have y:=q.len;obtain⟨g1,g2⟩:=W.o x (zq2 F);rw[y]at g1 g2;have M:=zH (show x.line.dropLast.length=ln-1 by rw[List.length_dropLast,y]);have r:Bw wr (zw wr #[.string x.name,.slice B ln lc] 71):=zA _
   have C:Ab 2 Ad wr B (ln-1) x.line.dropLast:=by
    have:=q.take (i:=ln-1) zO;rw[List.dropLast_eq_take,y];exact this
   obtain⟨b2,D,rfl,N,z⟩:=MZ C zO;have O:=zH (Yu F);have P:=zH (Ah a r);have Y:=zH (λj u E=>(r.cell (p:=ad b2 (D+j)) N).trans (z j u E));have Q:=zH r;have a3:=zH y;obtain⟨i1,i2⟩:=zI (k:=k) (n:=n) (by omega);have i3:(ln:Int)-1<=(lc:Int):=zO;have i4:(0:Int)<=(ln:Int)-1:=zO;have i5:((ln:Int)-1).toNat=ln-1:=zO;have a4:=f.size;clear F q y C z a f s r;go_wp2_with(at_builtin;refine Bt (by rfl) _ _ 64 (by rfl) w.heap.size 56 (.agg #[zi 0,zi 0]) 2 16 underlying64 BY (by rfl) zD _ m _ (by rfl) P.o ⟨b2,D,none⟩ (ln-1) lc (x.line.dropLast.flatMap spC) (by rfl) (by rw[DG Bu,M.o]) (λj u E=>by rw[Go.WideShapes.add_plain];exact Y.o j u E) (λu E=>by obtain⟨p,_,R⟩:=List.mem_flatMap.1 E;simp only[spC,zr3,List.not_mem_nil,or_false]at R;rcases R with rfl|rfl <;> rfl) zU zO zQ ?_;intro v1 w1 S T a5)
   go_roundw
   case rel=>
    refine⟨k+1,m+(ln-1),by omega,by go_num,by omega,by rw[O.o,zq5,<-X.o,M.o],?_,Ax (zT I.o Q.o) T zQ (λg e=>(P.o.lt g e).1)⟩;rw[O.o,zr7];exact S
   case measure=>exact zM
  obtain rfl:n=k:=zO;rw[zq4 (by rw[V.o];exact zs2 _)]at a s;obtain⟨B,d,rfl,J,hd⟩:=CJ (G:=Ad) (g:=λp=>p) Bu a s.symm (λt _=>rfl);rw[List.map_id']at J;have Z:=zH J;clear J a f s;go_wp2;go_ret;exact⟨B,m,d,rfl,Z.o,hd,I.o⟩
theorem RH:∀(l:List As),(∀e∈l,e.line.length<=40)->(AL l).length<=l.length*40
 | [],_=>by simp[AL]
 | e::l,h=>by
  have b:=h e List.mem_cons_self;have ih:=RH l λx a=>h x (List.mem_cons_of_mem _ a)
  unfold AL at ih⊢
  rw[List.flatMap_cons,zq5,List.length_dropLast,zt5];omega
structure IT(l:List As):Prop where
 len:l.length<=9223372036854775807
 ed:∀e∈l,e.name.size<=9223372036854775807∧e.line.length<=9223372036854775807
theorem nZ{i:Nat}{x y:As}(a:l[i]?=some x)(b:(i+1)%l.length=m)(e:l[m]?=some y)(f:x.line.getLast?=some p)(g:y.line.head?=some q):IK l i=decide (p=q):=by
 unfold IK;rw[b,zq3,zq3,a,e];simp only[Option.getD_some];refine decide_eq_decide.2 ?_;rw[f,g];exact⟨zs6,congrArg some⟩
theorem OU(v u:Value)(j k:Nat)(p q:Rat)(w:World)(ha:BK w v j p)(hb:BK w u k q)(hj:1<=j)(hk:1<=k)(ba:j<=100000)(bb:k<=100000) :
  CP 270 #[v,u] w (KL (p+q) w):=by
 obtain⟨Q,A,n,c,B,m,d,x,y,rfl,h1,h2,h3,h4,h5⟩:=ha;obtain⟨N,A2,n2,c2,B2,m2,d2,x2,y2,rfl,g1,g2,g3,g4,g5⟩:=hb;have Z:=λW (S:Bw w W)=>DW Q A n c x B m d y W (h1.on S) (h2.on S) j h3 h4 hj zO
 rw[h5]at Z;have HU:=λW (S:Bw w W)=>DW N A2 n2 c2 x2 B2 m2 d2 y2 W (g1.on S) (g2.on S) k g3 g4 hk zO
 rw[g5]at HU;have Z:=zH Z;have HU:=zH HU;have S:Bw w (zw (zw (zw w #[.bool Q,.slice A n c,.slice B m d] 217) #[.bool N,.slice A2 n2 c2,.slice B2 m2 d2] 217) #[zF,zn,zn] 217):=((zA _).alloc zP _).alloc zQ _;have X0:Blk (zw (zw (zw w #[.bool Q,.slice A n c,.slice B m d] 217) #[.bool N,.slice A2 n2 c2,.slice B2 m2 d2] 217) #[zF,zn,zn] 217) w.heap.size 217 #[.bool Q,.slice A n c,.slice B m d]:=((Blk.new w _ _).alloc _).alloc _;have Y0:Blk (zw (zw (zw w #[.bool Q,.slice A n c,.slice B m d] 217) #[.bool N,.slice A2 n2 c2,.slice B2 m2 d2] 217) #[zF,zn,zn] 217) (w.heap.size+1) 217 #[.bool N,.slice A2 n2 c2,.slice B2 m2 d2]:=(Blk.new' (zw w #[.bool Q,.slice A n c,.slice B m d] 217) 217 #[.bool N,.slice A2 n2 c2,.slice B2 m2 d2] zP).alloc _;have R0:Blk (zw (zw (zw w #[.bool Q,.slice A n c,.slice B m d] 217) #[.bool N,.slice A2 n2 c2,.slice B2 m2 d2] 217) #[zF,zn,zn] 217) (w.heap.size+1+1) 217 #[zF,zn,zn]:=Blk.new' (zw (zw w #[.bool Q,.slice A n c,.slice B m d] 217) #[.bool N,.slice A2 n2 c2,.slice B2 m2 d2] 217) 217 #[zF,zn,zn] zP;have O:=zH X0;have P:=zH Y0;have HZ:=zH R0;clear h1 h2 h3 h4 h5 g1 g2 g3 g4 g5 X0 Y0 R0;have bc:w.heap.size<w.heap.size+1+1:=zO;have bd:w.heap.size<w.heap.size+1+1+1:=zO;have be:¬w.heap.size+1=w.heap.size:=zO;go_enter func270,ntmps270
 go_upto_region 1 with fail
 go_cut [4] (λs4 wx=>s4=.pointer (sa (w.heap.size+1+1) 0)∧T3 true p q j k w wx)
 case first=>
  go_region_with (first
   | (go_at_call_of 209 (Value.agg #[.bool Q,.slice A n c,.slice B m d]);go_must((refine(Z.o _ (by exact S.drew)).mono ?_);rintro e w1 ⟨ng,C,cn,cc,E,en,ec,xx,yy,rfl,a1,a2,a3,a4,a5,a6,l⟩;obtain⟨bf,bg⟩:=Cc l;have bh:w.heap.size+1+1<w1.heap.size:=(by have:=l.size;simp at this;omega);have bi:w.heap.size<w1.heap.size:=zO;have bj:w.heap.size+1<w1.heap.size:=zO))
   | (go_at_call 209;go_must((refine(HU.o _ (by exact S.drew.trans (l.mono S.drew.size))).mono ?_);rintro e w2 ⟨ng2,C2,cn2,cc2,E2,en2,ec2,xx2,yy2,rfl,b1,b2,b3,b4,b5,b6,f⟩;obtain⟨b8,b9⟩:=Cc f)))
  all_goals
   have X2:=(O.o.below (w':=w1) (zX l)).below f;have Y2:=(P.o.below (w':=w1) (zX l)).below f;have R2:=(HZ.o.below (w':=w1) (zX l)).below f;have Y:Bw w w1:=S.trans (Below.mono (zX l) S.size);have HE:=zH (LO (t:=true) (w:=w) (a1.on f) (a2.on f) a3 a4 a5 a6 b1 b2 b3 b4 b5 b6 X2 Y2 (by intro _;exact R2) (zT Y f) (NoU.blk X2 zP) (NoU.blk Y2 zP));clear X2 Y2 R2 a1 a2 b1 b2 Y
   go_wp2_with fail
   go_meet;exact⟨rfl,HE.o⟩
 case rest=>
  clear O P HZ Z HU S;obtain⟨rfl,G,A1,n1,c1,B1,m1,d1,x1,y1,H,A3,n3,c3,B3,m3,d3,x3,y3,hX,hY,hZ,a1,a2,a3,a4,a5,a6,b1,b2,b3,b4,b5,b6,a0⟩:=hcut;have O:=zH hX;have P:=zH hY;have HZ:=zH (hZ rfl);have T:=zH (zu2 a1 (zu2 a2 (zu2 b1 b2)));have hs:=six hX hY;have am:y1*y3≠0:=Nat.mul_ne_zero a3 b3
  have ld:nl (y1*y3)<=1000000:=by
   have h1:=Gj y1 y3;have h2:=a2.trimmed.1;have h3:=b2.trimmed.1;omega
  have l1:nl (sgn G x1*sgn false y3).natAbs<=300000:=by
   refine zs0 (Er _ _ (j:=j) (k:=k) ?_ ?_) zO
   ·rw[B7];exact zs0 a1.trimmed.1 a5
   rw[B7];exact zs0 b2.trimmed.1 b6
  have l2:nl (sgn H x3*sgn false y1).natAbs<=300000:=by
   refine zs0 (Er _ _ (j:=k) (k:=j) ?_ ?_) zO
   ·rw[B7];exact zs0 b1.trimmed.1 b5
   rw[B7];exact zs0 a2.trimmed.1 a6
  have l3:nl (sgn G x1*sgn false y3+sgn H x3*sgn false y1).natAbs<=1000000:=zs0 (PB _ _ l1 l2) zO;have HR:=λW C cn cc D dn dc (h:Sl W W.heap.size C cn (AC (Aj (sgn G x1*sgn false y3+sgn H x3*sgn false y1).natAbs))) (hc:cn<=cc) (an:cn<=1000000) (g:Sl W W.heap.size D dn (AC (Aj (y1*y3)))) (hd:dn<=dc) (ao:dn<=1000000)=>Hk (Ay (sgn G x1*sgn false y3+sgn H x3*sgn false y1)) C cn cc (sgn G x1*sgn false y3+sgn H x3*sgn false y1).natAbs D dn dc (y1*y3) W (.of_limbs h hc) (.of_limbs g hd) an ao am
  rw[CV,Rv,Rv,<-cQ _ _ a3 b3,a4,b4]at HR;have HR:=zH HR;clear hX hY hZ a1 a2 b1 b2;obtain⟨s0,s1,s2,s3,s4,s5⟩:=hs;have bk:=O.o.lt;have bl:=P.o.lt
  go_wp2_with fail
  go_cut [5] (λs5 wx=>∃(g:Nat)(C:oA)(cn cc:Nat),s5=.pointer (sa g 0)∧Blk wx g 215 #[.bool (Ay (sgn G x1*sgn false y3+sgn H x3*sgn false y1)),.slice C cn cc]∧Sl wx wx.heap.size C cn (AC (Aj (sgn G x1*sgn false y3+sgn H x3*sgn false y1).natAbs))∧cn<=cc∧Bw wc wx∧wc.heap.size<=g)
  case first=>
   have ne0:¬w.heap.size+1+1=w.heap.size:=zO;have ne1:¬w.heap.size=w.heap.size+1+1:=zO;have ne2:¬w.heap.size+1+1=w.heap.size+1:=zO;have ne3:¬w.heap.size+1=w.heap.size+1+1:=zO
   go_region_held3(λw'=>w'.cell? (ad w.heap.size 0)=some (.bool G)∧w'.cell? (ad w.heap.size 1)=some (.slice A1 n1 c1)∧w'.cell? (ad w.heap.size 2)=some (.slice B1 m1 d1)∧w'.cell? (ad (w.heap.size+1) 0)=some (.bool H)∧w'.cell? (ad (w.heap.size+1) 1)=some (.slice A3 n3 c3)∧w'.cell? (ad (w.heap.size+1) 2)=some (.slice B3 m3 d3))
    (go_keep)
    (first
    | (go_at_call_of 212 (Value.slice B3 m3 d3);(refine(EJ B3 m3 d3 _).mono ?_);rintro e w2 ⟨rfl,f⟩;have z:=zH (show Bw wc w2 from(zX f));(try(have J:=zH (J.out.below (show Bw wc w2 from(zX f)))));have ah:=six (O.o.below z.o) (P.o.below z.o);clear f)
    | (go_at_call_of 212 (Value.slice B3 m3 d3);go_must((refine(EJ B3 m3 d3 _).mono ?_);rintro e w2 ⟨rfl,f⟩;have z:=zH ((zA (.cells #[zF,zn] 215)).trans (Below.mono (show Bw (zw wc #[zF,zn] 215) w2 from(zX f)) zP):Bw wc w2);have J:=zH ((Blk.new wc 215 #[zF,zn]).below (show Bw (zw wc #[zF,zn] 215) w2 from(zX f)));have I:=zH (show wc.heap.size<=wc.heap.size from zs2 _);have nz0:¬wc.heap.size=w.heap.size:=(zV I.out);have nz1:¬wc.heap.size=w.heap.size+1:=(zV I.out);have ah:=six (O.o.below z.o) (P.o.below z.o);clear f))
    | (go_at_call_of 211 (Value.agg #[.bool G,.slice A1 n1 c1]);(refine(GF G A1 n1 c1 x1 false B3 m3 d3 y3 _ (T.o.1.on z.o) (T.o.2.2.2.on z.o) zO zO).mono ?_);rintro e w3 ⟨C3,k3,e3,rfl,r3,a7,r⟩;have K:=zH (z.o.trans (Below.mono (show Bw w2 w3 from(zX r)) z.o.size));(try(have J:=zH (J.out.below (show Bw w2 w3 from(zX r)))));have ai:=six (O.o.below K.o) (P.o.below K.o);have lk3:k3<=300000:=(by rw[<-r3.ulen];exact l1);have HM:=zH r3;clear r3;clear r)
    | (go_at_call_of 211 (Value.agg #[.bool G,.slice A1 n1 c1]);go_must((refine(GF G A1 n1 c1 x1 false B3 m3 d3 y3 _ (T.o.1.on (z.o.alloc z.o.size _)) (T.o.2.2.2.on (z.o.alloc z.o.size _)) zO zO).mono ?_);rintro e w3 ⟨C3,k3,e3,rfl,r3,a7,r⟩;have K:=zH (z.o.trans (Below.mono ((zA (.cells #[zF,zn] 215)).trans (Below.mono (show Bw (zw w2 #[zF,zn] 215) w3 from(zX r)) zP):Bw w2 w3) z.o.size));have J:=zH ((Blk.new w2 215 #[zF,zn]).below (show Bw (zw w2 #[zF,zn] 215) w3 from(zX r)));have I:=zH (show wc.heap.size<=w2.heap.size from z.o.size);have nz0:¬w2.heap.size=w.heap.size:=(zV I.out);have nz1:¬w2.heap.size=w.heap.size+1:=(zV I.out);have ai:=six (O.o.below K.o) (P.o.below K.o);have lk3:k3<=300000:=(by rw[<-r3.ulen];exact l1);have HM:=zH r3;clear r3;clear r))
    | (go_at_call_of 212 (Value.slice B1 m1 d1);(refine(EJ B1 m1 d1 _).mono ?_);rintro e w4 ⟨rfl,a⟩;have F:=zH (K.o.trans (Below.mono (show Bw w3 w4 from(zX a)) K.o.size));(try(have J:=zH (J.out.below (show Bw w3 w4 from(zX a)))));have aj:=six (O.o.below F.o) (P.o.below F.o);have V:=zH (HM.o.on (show Bw w3 w4 from(zX a)));clear a)
    | (go_at_call_of 212 (Value.slice B1 m1 d1);go_must((refine(EJ B1 m1 d1 _).mono ?_);rintro e w4 ⟨rfl,a⟩;have F:=zH (K.o.trans (Below.mono ((zA (.cells #[zF,zn] 215)).trans (Below.mono (show Bw (zw w3 #[zF,zn] 215) w4 from(zX a)) zP):Bw w3 w4) K.o.size));have J:=zH ((Blk.new w3 215 #[zF,zn]).below (show Bw (zw w3 #[zF,zn] 215) w4 from(zX a)));have I:=zH (show wc.heap.size<=w3.heap.size from K.o.size);have nz0:¬w3.heap.size=w.heap.size:=(zV I.out);have nz1:¬w3.heap.size=w.heap.size+1:=(zV I.out);have aj:=six (O.o.below F.o) (P.o.below F.o);have V:=zH (HM.o.on ((zA (.cells #[zF,zn] 215)).trans (Below.mono (show Bw (zw w3 #[zF,zn] 215) w4 from(zX a)) zP):Bw w3 w4));clear a))
    | (go_at_call_of 211 (Value.agg #[.bool H,.slice A3 n3 c3]);(refine(GF H A3 n3 c3 x3 false B1 m1 d1 y1 _ (T.o.2.2.1.on F.o) (T.o.2.1.on F.o) zO zO).mono ?_);rintro e w5 ⟨C5,k5,e5,rfl,r5,a8,b⟩;have L:=zH (F.o.trans (Below.mono (show Bw w4 w5 from(zX b)) F.o.size));(try(have J:=zH (J.out.below (show Bw w4 w5 from(zX b)))));have ak:=six (O.o.below L.o) (P.o.below L.o);have lk5:k5<=300000:=(by rw[<-r5.ulen];exact l2);have a9:=zH (V.o.on (show Bw w4 w5 from(zX b)));have aa:=zH r5;clear r5;clear b)
    | (go_at_call_of 211 (Value.agg #[.bool H,.slice A3 n3 c3]);go_must((refine(GF H A3 n3 c3 x3 false B1 m1 d1 y1 _ (T.o.2.2.1.on (F.o.alloc F.o.size _)) (T.o.2.1.on (F.o.alloc F.o.size _)) zO zO).mono ?_);rintro e w5 ⟨C5,k5,e5,rfl,r5,a8,b⟩;have L:=zH (F.o.trans (Below.mono ((zA (.cells #[zF,zn] 215)).trans (Below.mono (show Bw (zw w4 #[zF,zn] 215) w5 from(zX b)) zP):Bw w4 w5) F.o.size));have J:=zH ((Blk.new w4 215 #[zF,zn]).below (show Bw (zw w4 #[zF,zn] 215) w5 from(zX b)));have I:=zH (show wc.heap.size<=w4.heap.size from F.o.size);have nz0:¬w4.heap.size=w.heap.size:=(zV I.out);have nz1:¬w4.heap.size=w.heap.size+1:=(zV I.out);have ak:=six (O.o.below L.o) (P.o.below L.o);have lk5:k5<=300000:=(by rw[<-r5.ulen];exact l2);have a9:=zH (V.o.on ((zA (.cells #[zF,zn] 215)).trans (Below.mono (show Bw (zw w4 #[zF,zn] 215) w5 from(zX b)) zP):Bw w4 w5));have aa:=zH r5;clear r5;clear b))
    | (go_at_call 288;(refine(TT _ C3 k3 e3 (sgn G x1*sgn false y3).natAbs _ C5 k5 e5 (sgn H x3*sgn false y1).natAbs _ (At.of_limbs (a9.o.on zJ) a7) (At.of_limbs (aa.o.on zJ) a8) zO zO).mono ?_);rintro e w6 ⟨C6,k6,e6,rfl,r6,ab,s⟩;have M:=zH (L.o.trans (Below.mono (show Bw w5 w6 from(zX s)) L.o.size));(try(have J:=zH (J.out.below (show Bw w5 w6 from(zX s)))));have al:=six (O.o.below M.o) (P.o.below M.o);rw[CV,CV]at r6⊢;have X:=zH (zu2 r6 ab);clear r6;(try(have d0:=J.out.c (i:=0) (v:=zF) rfl;have d1':=J.out.c (i:=1) (v:=zn) rfl;have y0':=J.out.frozen 0;have y1':=J.out.frozen 1));clear s)
    | (go_at_call 288;go_must((refine(TT _ C3 k3 e3 (sgn G x1*sgn false y3).natAbs _ C5 k5 e5 (sgn H x3*sgn false y1).natAbs _ (At.of_limbs (a9.o.on (zA _)) a7) (At.of_limbs (aa.o.on (zA _)) a8) zO zO).mono ?_);rintro e w6 ⟨C6,k6,e6,rfl,r6,ab,s⟩;have M:=zH (L.o.trans (Below.mono ((zA (.cells #[zF,zn] 215)).trans (Below.mono (show Bw (zw w5 #[zF,zn] 215) w6 from(zX s)) zP):Bw w5 w6) L.o.size));have J:=zH ((Blk.new w5 215 #[zF,zn]).below (show Bw (zw w5 #[zF,zn] 215) w6 from(zX s)));have I:=zH (show wc.heap.size<=w5.heap.size from L.o.size);have nz0:¬w5.heap.size=w.heap.size:=(zV I.out);have nz1:¬w5.heap.size=w.heap.size+1:=(zV I.out);have al:=six (O.o.below M.o) (P.o.below M.o);rw[CV,CV]at r6⊢;have X:=zH (zu2 r6 ab);clear r6;(try(have d0:=J.out.c (i:=0) (v:=zF) rfl;have d1':=J.out.c (i:=1) (v:=zn) rfl;have y0':=J.out.frozen 0;have y1':=J.out.frozen 1));clear s)))
   all_goals
    go_wp2_with fail
    go_meet
    first
    | exact⟨w6.heap.size,C6,k6,e6,rfl,Blk.new _ _ _,X.o.1.on (zA _),X.o.2,M.o.alloc M.o.size _,M.o.size⟩
    | exact⟨_,C6,k6,e6,rfl,(J.out.set_ 0 _).set_ 1 _,(X.o.1.no (NoU.blk J.out zP) 0 _).no ((NoU.blk J.out zP).set _ zP) 1 _,X.o.2,(M.o.setCell (p:=ad _ 0) I.out _).setCell (p:=ad _ 1) I.out _,I.out⟩
  case rest=>
   obtain⟨g,C,cn,cc,rfl,hG,hS,ap,R,bm⟩:=hcut;have lc:cn<=1000000:=by rw[<-hS.ulen];exact l3
   have bn:=HZ.o.lt;have aq:=zH hG;have ar:=zH hS;have bo:=zH R;have gg:=hG.lt;have ac:=O.o.below R;have ae:=P.o.below R;have v0:=hG.c (i:=0) rfl;have v1:=hG.c (i:=1) rfl;have v2:=ac.c (i:=2) rfl;have v3:=ae.c (i:=2) rfl;have au:=zH ac;have av:=zH ae;have aw:=zH (HZ.o.below R);have af:=zH (zT a0 R);have HD:=zH (zu2 (T.o.2.1.on R) (T.o.2.2.2.on R));have nz0:¬w.heap.size+1+1=g:=zO;have nz1:¬g=w.heap.size+1+1:=zO;have ne0:¬w.heap.size+1+1=w.heap.size:=zO;have ne1:¬w.heap.size=w.heap.size+1+1:=zO;have ne2:¬w.heap.size+1+1=w.heap.size+1:=zO;have ne3:¬w.heap.size+1=w.heap.size+1+1:=zO;clear hG hS R ac ae s0 s1 s2 s3 s4 s5;obtain⟨wo,rfl⟩:∃wo:World,wo=wc:=⟨_,rfl⟩
   go_wp2_with fail
   go_region_held3(λw'=>w'.cell? (ad g 0)=some (.bool (Ay (sgn G x1*sgn false y3+sgn H x3*sgn false y1)))∧w'.cell? (ad g 1)=some (.slice C cn cc)∧w'.cell? (ad w.heap.size 2)=some (.slice B1 m1 d1)∧w'.cell? (ad (w.heap.size+1) 2)=some (.slice B3 m3 d3))
    (go_keep)
    (first
    | (go_at_call 259;go_must((refine(JA B1 B3 m1 m3 d1 d3 y1 y3 _ (by exact HD.o.1) (by exact HD.o.2) zO zO).mono ?_);rintro e w4 ⟨C4,k4,e4,rfl,r4,ax,a⟩;have U:=zH (show Bw wo w4 from(zX a));have lk4:k4<=1000000:=(by rw[<-r4.ulen];exact ld);have ay:=zH (ar.o.on U.o);have V:=zH r4;have G4:=aq.o.below U.o;have X4:=au.o.below U.o;have Y4:=av.o.below U.o;have t0:=G4.c (i:=0) rfl;have t1:=G4.c (i:=1) rfl;have t2:=X4.c (i:=2) rfl;have t3:=Y4.c (i:=2) rfl;have az:=zH G4;have b0:=zH X4;have b7:=zH Y4;clear r4 a G4 X4 Y4))
    | (go_at_call 263;go_must((refine(HR.o _ C cn cc C4 k4 e4 ay.o ap lc V.o ax lk4).mono ?_);rintro e w5 ⟨Cf,nf,cf,Ef,mf,df,rfl,rf1,rf2,rf3,rf4,b⟩;have ag:=zH (zT U.o b);have Zf:=aw.o.below ag.o;have HF:=zH (NN rf1 rf2 rf3 rf4 Zf zP (zT af.o ag.o) zO);have k0:=Zf.c (i:=0) rfl;have k1:=Zf.c (i:=1) rfl;have k2:=Zf.c (i:=2) rfl;have y0':=Zf.frozen 0;have y1':=Zf.frozen 1;have y2':=Zf.frozen 2;have G5:=az.o.below b;have X5:=b0.o.below b;have Y5:=b7.o.below b;have p0:=G5.c (i:=0) rfl;have p1:=G5.c (i:=1) rfl;have p2:=X5.c (i:=2) rfl;have p3:=Y5.c (i:=2) rfl;clear rf1 rf3 Zf b G5 X5 Y5)))
   go_wp2_with fail
   refine bodyPost_ret (v:=.agg #[.bool (Ay (p+q).num),.slice Cf nf cf,.slice Ef mf df]) (by simp[results,results270,go_sem,k0,k1,k2]) rfl ?_;exact HF.o
end Go.Proofs.YteafekbddckemaaGreatDoor
