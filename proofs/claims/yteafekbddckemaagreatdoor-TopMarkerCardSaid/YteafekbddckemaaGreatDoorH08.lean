/- Parts of the proof. -/
import Derived.Test.YteafekbddckemaaGreatDoorH07
set_option maxRecDepth 100000
set_option maxHeartbeats 40000000
namespace Go.Proofs.YteafekbddckemaaGreatDoor
open Tryz Go.RowKit
open Go.Lib hiding intOf
variable{A:oA}{B V c g h k n q r s:Nat}{K L U b l:List Nat}{W w w' w1 w2:World}{i j:Int}{p:Addr}{u:Value}{xs:lV}
def Aah(N k U V s:Nat)(w:World)(s11 s12:Value)(wx:World):Prop:=
 ∃(g h:Nat)(L K:List Nat),s11=.slice (sa g 0) (N+1) (N+1)∧s12=.slice (sa h 0) (k+2) (k+3)∧w.heap.size<=g∧w.heap.size<=h∧h≠g∧Bd wx g L∧Bd wx h K∧
  Hid (L.length=N+1∧okL L∧val L=U∧L.getD N 0<2^s)∧Hid (K.length=k+3∧okL K∧val K=V)∧Bw w wx
def Aai(g h gq k M V U0:Nat)(K:List Nat)(w:World)(s14:Value)(wr:World):Prop:=
 ∃(j:Nat)(Q U:List Nat),j<=M∧s14=zi ((j:Int)-1)∧Bd wr g U∧Bd wr h K∧Bd wr gq Q∧Hid (LH Q U V U0 j (k+2) M)∧Bw w wr
theorem nF{z:Nat}(j:okL b)(o:s<=31)(p:b.length=k+2)(q:b[k+1]?=some z)(l:2^31<=z*2^s)(m:z*2^s<bs)(g:K.length=k+3∧okL K∧val K=V)(a:V=val b*2^s) :
  val (K.take (k+2))=V∧(∀y,(K.take (k+2))[k+1]?=some y->2147483648<=y)∧V<bs^(k+2)∧0<V:=by
 obtain⟨y,n⟩:∃y,K[k+1]?=some y:=⟨_,zq0 zO⟩;obtain⟨f1,f2,f3⟩:=mX o j p q l m g.2.1 g.1 (by rw[g.2.2,a]) n;have i:(K.take (k+2)).length=k+2:=by rw[zq7];omega
 have e:(K.take (k+2))[k+1]?=some y:=by rw[zr8,if_pos zO];exact n
 refine⟨by rw[a];exact f1,?_,by rw[a];exact f3,?_⟩
 ·intro y' f;rw[e]at f;rw[<-zs6 f];exact f2
 rw[a,<-f1];have:=FF i e;rw[this];have r:bs^(k+1)*1<=bs^(k+1)*y:=zs4 _ zO;have t:=mU (k+1);omega
theorem nG{N M U:Nat}(g:s<=31)(b:val (K.take (k+2))=V∧(∀y,(K.take (k+2))[k+1]?=some y->2147483648<=y)∧V<bs^(k+2)∧0<V)(i:N=M+(k+1))(j:L.length=N+1∧okL L∧val L=U∧L.getD N 0<2^s)(a:K.length=k+3) :
  LH (List.replicate M 0) L V U M (k+2) M:=by
 obtain⟨q,l,m,o⟩:=j;obtain⟨x,e⟩:∃x,L[N]?=some x:=⟨_,zq0 zO⟩
 have a:(K.take (k+2)).length=k+1+1:=by
  rw[zq7];omega
 obtain⟨y,f⟩:∃y,(K.take (k+2))[k+1]?=some y:=⟨_,zq0 zO⟩;rw[getD_some e]at o;have r:2^s<=2^31:=Nat.pow_le_pow_right zO g;have p:=b.2.1 y f;have:=mW (M:=M) (n:=k+1) l a zO (by rw[<-i];exact e) f zO (List.replicate M 0) zP (IJ _);rw[b.1,m]at this;exact this
theorem Bd.only(h:Bd w q L)(b:w.grownBy w' (some g))(a:q≠g):Bd w' q L:=
 World.rowIs.of_block h (b.block q h.lt (λe=>a (by injection e)))
theorem xT{i:Nat}(h:Bd w g U)(hi:i+n<=U.length):Win w g i (U.take i) (U.drop (i+n)) ((U.drop i).take n):=by
 refine⟨by rw[zq7];omega,?_⟩
 have e:U.take i++(U.drop i).take n++U.drop (i+n)=U:=by
  rw[List.append_assoc,<-List.drop_drop,List.take_append_drop,List.take_append_drop]
 rw[e];exact h
theorem tL(b:Bd w h K)(n:Nat):Ig w h (K.take n):=by
 intro k x a;rw[zr8]at a;split at a
 ·exact b.cell a
 cases a
theorem YG(A B:oA)(n m c d x y k:Nat)(w:World)(ha:At w A n c x)(hb:At w B m d y)(hn:n<=1000000)(hm:m<=1000000)(an:y<=x)(T:nl y=k+2) :
  CP 285 #[.slice A n c,.slice B m d] w (Ti (x/y) (x%y) w):=by
 have ao:=GW an;obtain⟨t1,t2⟩:=ha.trimmed;obtain⟨s1,s2⟩:=hb.trimmed;rw[T]at s1 s2 ao;have V:(Aj y).length=k+2:=T;obtain⟨z,W⟩:∃z,(Aj y)[k+1]?=some z:=⟨_,zq0 zO⟩
 have X:z≠0:=by
  rintro rfl;have:=V3 y;apply this;rw[List.getLast?_eq_getElem?,V,show k+2-1=k+1 from rfl];exact W
 have Y:=BS (AH y) W;rw[AZ]at Y;obtain⟨s,v,a5,a6,a7⟩:=clz z X Y;obtain⟨b,az,u,rfl,b0,hu,ap⟩:=s2.limb_ (k:=k+1) zO;obtain rfl:z=u:=zs6 (W.symm.trans hu);have aq:=ha.cut;have a:=hb.cut;rw[T]at a;have HK:=zH T
 have b1:0<=CS x y:=by
  unfold CS;rw[if_neg zO];split <;> omega
 generalize hc:CS x y=cv at *
 have HC:=zH hc;have G:=zH (zu2 W (zu2 X (zu2 a5 (zu2 a6 (zu2 a7 V)))));clear W X a5 a6 a7 hc T hu V;go_enter func285,ntmps285
 go_upto_region 11 with(first|(go_at_call 281;(with_reducible refine(Cg _ _ _ _ _ (by assumption) zO).mono ?_);rintro e w' ⟨rfl,rfl⟩;(try rw[HK.o]))|(go_at_call 257;(with_reducible refine(GX _ _ _ _ _ _ _ _ _ (by assumption) (by assumption) zO zO).mono ?_);rintro e w' ⟨rfl,nq,rfl⟩;rw[HC.o])|(go_at_call 306;(with_reducible refine(xR _ _ _ Y G.o.2.2.2.2.1).mono ?_);rintro e w' ⟨rfl,rfl⟩))
 clear ha hb aq a ap;have HT:=zH (zu2 t2 s2);clear t2 s2
 go_cut [11,12] (λs11 s12 wx=>Aah (nl x) k (x*2^s) (y*2^s) s w s11 s12 wx)
 case first=>
  go_region_with (first|(go_at_call_of 307 (Value.slice A (nl x) c);(refine(TR A (nl x) c s (Aj x) _ (by exact HT.o.1) (AH x) zO v).mono ?_);rintro e w1 ⟨g,L,rfl,hg,Z,a8,hP,C⟩;go_must(have I:=zH (show Bw w w1 from(zX C));have HY:=zH (HT.o.2.on I.o);have HG:=zH (show w.heap.size<=g from hg);rw[show L.length=nl x+1 from hP.1];have HL:=zH (zu2 Z (zu2 a8 hP));clear C hg Z a8 hP))|(go_at_call 307;go_must(refine(TR _ (k+2) d s (Aj y) _ HY.o (AH y) zO v).mono ?_);rintro e w2 ⟨h,K,rfl,hh,J,a0,a1,a⟩;have F:=zH (show Bw w1 w2 from(zX a));rw[show K.length=k+3 by rw[a1.1,G.o.2.2.2.2.2]];have D:=zH (zu2 J (zu2 a0 a1));clear a J a0 a1))
  all_goals
   go_wp2_with fail
   go_meet;have ar:=HL.o.1.lt;have a9:w1.heap.size<=h:=hh;have S:=HL.o.2.2;have hR:=D.o.2.2;rw[Bc]at S hR;exact⟨g,h,L,K,rfl,rfl,HG.o,zs0 I.o.size a9,by omega,HL.o.1.below F.o ar,D.o.1,⟨S.1,HL.o.2.1,S.2.1,S.2.2⟩,⟨by rw[hR.1,G.o.2.2.2.2.2],D.o.2.1,hR.2.1⟩,zT I.o F.o⟩
 case rest=>
  obtain⟨g,h,L,K,rfl,rfl,hg,hh,aa,q,t,S,hK,l⟩:=hcut;clear HT;obtain⟨M,hM⟩:∃M,nl x=M+(k+1):=⟨nl x-(k+1),by omega⟩;have au:=GY M zO;have al:((nl x:Int)+1)-((k:Int)+2)=(M:Int):=zO;have HM:=zH hM;have b2:nl x<=M+(k+1):=zO;have b3:M+(k+1)<=nl x:=zO;clear hM;go_wp2;clear au al;have b4:=q.lt;have a9:=t.lt;have E:=zH (nF (AH y) v G.o.2.2.2.2.2 G.o.1 G.o.2.2.1 G.o.2.2.2.1 hK.out (by rw[Bc]));have HS:=zH (nG (M:=M) v E.o HM.o S.out hK.out.1);have D:=zH (zu2 q (zu2 t l));clear q t l
  go_loopw[14] (λs14 wr=>Aai g h wc.heap.size k M (y*2^s) (x*2^s) K w s14 wr) (λs14 _=>(intOf s14+1).toNat)
  case atStart=>exact⟨M,_,L,zs2 _,rfl,D.o.1.alloc _,D.o.2.1.alloc _,Bd.made wc M,HS.o,D.o.2.2.alloc D.o.2.2.size _⟩
  case round=>
   obtain⟨j,Q,U,hj,hi,q,t,N,f,l⟩:=hrel;by_cases ab:j=0
   ·subst ab;obtain rfl:u14=zi (-1):=hi;obtain⟨f1,f2⟩:=xJ f.out E.o.2.2.1;obtain⟨g1,g2⟩:=dG x y s;rw[g1]at f1;have O:U.length=M+(k+2):=f.out.1;have ac:At wr (sa wc.heap.size 0) M M (x/y):=⟨Q,N.sl f.out.2.1,f.out.2.2.2.1,f1,zs2 _⟩;have ae:At wr (sa g 0) (k+2) (nl x+1) (x*2^s%(y*2^s)):=⟨U.take (k+2),(q.sl O).utake zO,D3 f.out.2.2.1 _,f2,by omega⟩;have HN:=zH (zu2 ac ae);have HG:=zH g2;clear q t N ac ae f1 f2 g1 g2 O hj
    go_wp2_with fail
    go_region_with (first|(go_at_call 281;go_must((refine(Cg _ M M (x/y) _ (by exact HN.o.1) zO).mono ?_);rintro e w' ⟨rfl,rfl⟩))|(go_at_call 309;go_must((refine(dO _ (k+2) (nl x+1) s _ _ (by exact HN.o.2) zO v).mono ?_);rintro e w2 ⟨A2,n2,c2,rfl,af,av,a⟩;have F:=zH (show Bw wr w2 from(zX a));clear a)))
    all_goals
     go_wp2_with fail
     go_ret3
     rw[HG.o]at af;obtain⟨h1,h2⟩:=(HN.o.1.on F.o).trimmed;exact⟨_,_,_,_,_,_,rfl,h2,h1,af,av,zT l F.o⟩
   obtain⟨i,rfl⟩:∃i,j=i+1:=⟨j-1,by omega⟩;have aw:u14=zi (i:Int):=by rw[hi];congr 1;omega
   clear hi ab;subst aw;have O:U.length=M+(k+2):=f.out.1;have ax:Q.length=M:=f.out.2.1;obtain⟨w1,w2,w3,w4,w5⟩:=Ry f.out E.o.2.2.1 zO;have HC:=zH (λcu cv=>dV g h i k cu cv (U.take i) (U.drop (i+(k+2+1))) ((U.drop i).take (k+2+1)) (K.take (k+2)) wr (xT q zO) (tL t _) aa w1 (by rw[zq7,hK.out.1];omega) w2 (D3 hK.out.2.1 _) zO E.o.2.1 (by rw[E.o.1];exact w3));obtain⟨z1,ay⟩:∃z1,Q[i]?=some z1:=⟨_,zq0 zO⟩;have HW:=zH (zu2 q (zu2 t N));clear q t N w1 w2 w3 w4 w5 O ax;have am:i<M:=zO;clear hj;have ag:wc.heap.size≠g:=zO;go_wp2_with(go_at_call 308;rw[show i+(k+2)+1-i=k+3 by omega];refine(HC.o _ _).mono ?_;rintro e w2 ⟨rfl,R,ah,ai,aj,ak,a2,a3⟩;have P:=HW.o.2.2.only a3 ag;have b5:=P.cell ay;have b6:=P.frozen i;have H:=zH (zu2 ah (zu2 ai (zu2 aj (zu2 ak (zu2 a2 (zu2 a3 P))))));clear ah ai aj ak a2 a3 P)
   go_roundw
   case rel=>
    have hn:=tJ f.out E.o.2.2.1 am E.o.2.2.2 (by rw[H.o.1,zq7,hK.out.1];omega) H.o.2.1 (by rw[H.o.2.2.1,E.o.1]);have a4:Bw w w2:=l.grown H.o.2.2.2.2.2.1 l.size (λr e=>by injection e with e;omega)
    refine⟨i,_,_,by omega,rfl,(H.o.2.2.2.1.2).far (p:=ad wc.heap.size i) (Ne.symm ag) _,(HW.o.2.1.only H.o.2.2.2.2.2.1 aa).far (p:=ad wc.heap.size i) zQ _,?_,hn.1,a4.setCell (p:=ad wc.heap.size i) D.o.2.2.size _⟩;rw[E.o.1];exact H.o.2.2.2.2.2.2.set (by rw[f.out.2.1];omega) _
   case measure=>simp[intOf]
theorem Jd(A B:oA)(n m c d x y:Nat)(w:World)(b:At w A n c x)(e:At w B m d y)(f:n<=1000000)(g:m<=1000000)(i:y≠0) :
  CP 285 #[.slice A n c,.slice B m d] w (Ti (x/y) (x%y) w):=by
 by_cases a:x<y
 ·rw[Nat.div_eq_of_lt a,Nat.mod_eq_of_lt a];exact dX A B n m c d x y w b e f g a
 have o:=Le i;by_cases j:nl y=1
 ·exact YF A B n m c d x y w b e f g zO j
 obtain⟨k,l⟩:∃k,nl y=k+2:=⟨nl y-2,by omega⟩;exact YG A B n m c d x y k w b e f g zO l
def xU(x y:Nat)(w:World)(Y:Nat)(s0 s1:Value)(wr:World):Prop:=
 ∃(A:oA)(n c X:Nat)(B:oA)(m d:Nat),s0=.slice A n c∧s1=.slice B m d∧Sl wr wr.heap.size A n (AC (Aj X))∧n<=c∧Sl wr wr.heap.size B m (AC (Aj Y))∧m<=d∧Hid (X.gcd Y=x.gcd y)∧n<=1000000∧m<=1000000∧Bw w wr
theorem nH(X Y:Nat):Y.gcd (X%Y)=X.gcd Y:=by rw[Nat.gcd_comm X Y,Nat.gcd_rec Y X,Nat.gcd_comm]
theorem LJ(A:oA)(n c v:Nat)(w:World)(h:At w A n c v)(a:n<=1000000):CP 283 #[.slice A n c] w (sN v w):=by
 obtain⟨l,b,e,rfl,f⟩:=h;exact TD A n c l w b e f a
theorem tM(A B:oA)(n m c d x y:Nat)(w:World)(C:At w A n c x)(D:At w B m d y)(J:n<=1000000)(K:m<=1000000) :
  CP 284 #[.slice A n c,.slice B m d] w (OH (x.gcd y) w):=by
 have t1:=C.trimmed.1;have s1:=D.trimmed.1;go_enter func284,ntmps284
 go_wp2_with fail
 refine(LJ A n c x w C J).mono ?_;rintro e w1 ⟨g,n1,rfl,E,i,b⟩;have s:=D.on b;clear C D
 go_wp2_with fail
 refine(LJ B m d y w1 s K).mono ?_;rintro e w2 ⟨h,n2,rfl,R,j,k⟩;have q:=zH (zu2 (i.on k) (zu2 j (zT b k)));have e1:n1<=1000000:=by have:=i.ulen;have:n1=nl x:=this.symm;omega
 have e2:n2<=1000000:=by have:=j.ulen;have:n2=nl y:=this.symm;omega
 clear i j b k s
 go_wp2_with fail
 go_loopg [0,1] y (λY s0 s1 wr=>xU x y w Y s0 s1 wr)
 case atStart=>exact⟨_,_,_,x,_,_,_,rfl,rfl,q.o.1,zs2 _,q.o.2.1,zs2 _,rfl,e1,e2,q.o.2.2⟩
 case round=>
  clear q;obtain⟨A1,k1,c1,X,B1,k2,d1,rfl,rfl,r,t,l,v,p,l1,l2,a⟩:=hrel;have f:k2=nl gk:=l.ulen.symm;by_cases F:gk=0
  ·subst F;rw[Ld]at f;subst f;have L:=zH r;clear r l
   go_wp2_with fail
   go_ret;have E:=p.out;rw[Nat.gcd_zero_right]at E;rw[<-E];exact⟨_,_,_,rfl,L.o,t,a⟩
  have M:=Le F;have O:0<k2:=zO;have N:=zH (Jd A1 B1 k1 k2 c1 d1 X gk wr (.of_limbs r t) (.of_limbs l v) l1 l2 F);have G:=zH (zu2 l f);clear r l f M;go_wp2_with(go_at_call 285;refine N.o.mono ?_;rintro e w3 ⟨A3,n3,c3,B3,m3,d3,rfl,S,P,H,I,z⟩)
  go_roundg (X%gk)
  case measure=>exact Nat.mod_lt _ zO
  case rel=>
   have Q:m3=nl (X%gk):=H.ulen.symm;have:=GW (Nat.le_of_lt (Nat.mod_lt X (by omega:0<gk)));have:=G.o.2;exact⟨_,_,_,gk,_,_,_,rfl,rfl,G.o.1.on z,v,H,I,(nH X gk).trans p.out,l2,by omega,zT a z⟩
def JR(i:Int)(w:World)(e:Ending)(w':World):Prop:=
 ∃A n c,e=.returned (.agg #[.bool (Ay i),.slice A n c])∧Sl w' w'.heap.size A n (AC (Aj i.natAbs))∧n<=c∧Bw w w'
theorem Cc(a:Bw W w1):(∀b o,b<W.heap.size->w1.cell? (ad b o)=W.cell? (ad b o))∧(∀b o,b<W.heap.size->w1.frozen? (ad b o)=W.frozen? (ad b o)):=
 ⟨λb o h=>a.cell (p:=ad b o) h,λb o h=>a.frozen (p:=ad b o) h⟩
theorem Sl.setFar(h:Sl w B A n xs)(g:∀a,A=some a->a.block≠p.block)(u:Value):Sl (w.setCell p u) B A n xs:=
 ⟨h.1,λi=>by
  obtain⟨b,f,e,k,l⟩:=h.2 i;refine⟨b,f,e,k,λj x m=>?_⟩;exact(World.cell?_setCell_other w p ⟨b,f+j,none⟩ u (λe2=>g _ e (by rw[e2]))).trans (l j x m)⟩
theorem Sl.set_(h:Sl w w.heap.size A n xs)(b:YD (p.block+1) A)(u:Value):Sl (w.setCell p u) (w.setCell p u).heap.size A n xs:=by
 rw[World.size_setCell];exact h.setFar (λa e=>by have:=b a e;omega) u
theorem Je{o:Nat}(h:B<=g):YD B (sa g o):=λa e=>by
 injection e with e
 subst e;exact h
theorem Ek(b:Bool)(A:oA)(n c m:Nat)(w:World)(q:At w A n c m)(r:n<=1000000) :
  CP 258 #[.bool b,.slice A n c] w (JR (sgn b m) w):=by
 have s:=zH q;clear q
 cases b
 ·go_enter func258,ntmps258;go_wp2_with(go_at_call 283;refine(LJ A n c m _ (s.o.on (zA _)) r).mono ?_;rintro e w1 ⟨g,k,rfl,l,j,f⟩;obtain⟨i,t⟩:=Cc f)
  refine bodyPost_ret (v:=.agg #[zF,.slice (sa g 0) k k]) (by simp[results,results258,go_sem,i]) rfl ?_;have a:w.heap.size+1<=g:=by simpa using l
  exact⟨some ⟨g,0,none⟩,k,k,by rw[GA];rfl,by rw[B7];exact(j.set_ (p:=ad w.heap.size 0) (Je a) _).set_ (p:=ad w.heap.size 1) (Je a) _,zs2 _,(((zA _).trans (f.mono zP)).setCell (zs2 _) _).setCell (zs2 _) _⟩
 go_enter func258,ntmps258;go_wp2_with(go_at_call 283;refine(LJ A n c m _ (s.o.on (zA _)) r).mono ?_;rintro e w1 ⟨g,k,rfl,l,j,f⟩;obtain⟨i,t⟩:=Cc f)
 refine bodyPost_ret (v:=.agg #[.bool (decide (0<k)),.slice (sa g 0) k k]) (by simp[results,results258,go_sem,i]) rfl ?_;have a:w.heap.size+1<=g:=by simpa using l
 have z:decide (0<k)=decide (0<m):=by
  have x:k=nl m:=j.ulen.symm;have B:=S3 (v:=m);by_cases y:m=0
  ·subst y;rw[Ld]at x;subst x;rfl
  have:=Le y;rw[decide_eq_decide];omega
 exact⟨some ⟨g,0,none⟩,k,k,by rw[GA,Bool.true_and,z],by rw[B7];exact(j.set_ (p:=ad w.heap.size 0) (Je a) _).set_ (p:=ad w.heap.size 1) (Je a) _,zs2 _,(((zA _).trans (f.mono zP)).setCell (zs2 _) _).setCell (zs2 _) _⟩
def NoU(w:World)(r:Nat):Prop:=∀(o:Nat)(x:Int),w.cell? (ad r o)≠some (.int .u32 x)
theorem NoU.new(w:World)(cs:aV)(t:TypeId)(h:∀v∈cs.toList,∀x,v≠.int .u32 x):NoU (w.alloc (.cells cs t)) w.heap.size:=by
 intro o x e;rw[World.cell?_alloc_new]at e;have a:Value.int .u32 x∈cs:=Array.mem_of_getElem? e;exact h _ (by simpa using a) x rfl
theorem NoU.below(h:NoU w r)(a:Bw w w')(b:r<w.heap.size):NoU w' r:=λo x e=>h o x (by rw[<-a.cell (p:=ad r o) b];exact e)
theorem NoU.alloc(h:NoU w r)(a:r<w.heap.size)(o:Obj):NoU (w.alloc o) r:=h.below (zA _) a
theorem NoU.set(h:NoU w r)(p:Addr)(b:∀x,u≠.int .u32 x):NoU (w.setCell p u) r:=by
 intro o x e;by_cases a:p=⟨r,o,none⟩
 ·subst a;simp only[World.setCell,World.cell?,Array.getElem?_modify,if_true]at e
  cases hh:w.heap[r]? with
  | none=>simp[hh]at e
  | some ob=>
   cases ob with
   | cells c t f=>
    simp only[hh,zt6,Option.isSome_none,Bool.false_eq_true,if_false]at e;rw[zs9]at e;simp only[if_true]at e;split at e
    ·exact b x (zs6 e)
    cases e
   | _=>simp[hh]at e
 rw[World.cell?_setCell_other _ _ _ _ a]at e;exact h o x e
theorem Sl.no(h:Sl w w.heap.size A n (AC l))(m:NoU w r)(k:Nat)(u:Value):Sl (w.setCell (ad r k) u) (w.setCell (ad r k) u).heap.size A n (AC l):=by
 rw[World.size_setCell];refine⟨h.1,λo=>?_⟩;obtain⟨b,a,e,p,q⟩:=h.2 o;refine⟨b,a,e,p,λj x f=>?_⟩;have g:=q j x f;simp only[AC,zr5,Option.map_eq_some_iff]at f;obtain⟨y,_,rfl⟩:=f;by_cases i:(⟨r,k,none⟩:Addr)=⟨b,a+j,none⟩
 ·exfalso;injection i with e1 e2
  subst e1;exact m _ _ g
 rw[World.cell?_setCell_other _ _ _ _ i];exact g
theorem FZ(f:Sl w1 w1.heap.size A n (AC (Aj i.natAbs)))(g:n<=c)(a:NoU w1 r)(b:Bw w W)(j:Bw W w1)(e:w.heap.size<=r:=by simp) :
  JR i w (.returned (.agg #[.bool (Ay i),.slice A n c])) ((w1.setCell (ad r 0) (.bool (Ay i))).setCell (ad r 1) (.slice A n c)):=by
 refine⟨A,n,c,rfl,(f.no a 0 _).no (a.set _ zP) 1 _,g,?_⟩;exact((zT b j).setCell (p:=ad r 0) e _).setCell (p:=ad r 1) e _
theorem AaU(a:Bool)(A:oA)(n c m:Nat)(w:World)(g:At w A n c m)(p:n<=1000000) :
  CP 256 #[.agg #[.bool a,.slice A n c]] w (JR (sgn a m) w):=by
 have q:=zH g;clear g;go_enter func256,ntmps256
 go_wp2_with fail
 have b:Bw w (zw (zw w #[.bool a,.slice A n c] 215) #[zF,zn] 215):=(zA _).alloc zP _;have i:=NoU.new (zw w #[.bool a,.slice A n c] 215) #[zF,zn] 215 zP;refine(Ek a A n c m _ (q.o.on b) p).mono ?_;rintro e w1 ⟨A1,n1,c1,rfl,j,k,f⟩;have r:=zH (FZ j k (i.below f zP) b f);obtain⟨l,s⟩:=Cc f;clear j i b
 go_wp2_with fail
 refine bodyPost_ret (v:=.agg #[.bool (Ay (sgn a m)),.slice A1 n1 c1]) (by simp[results,results256,go_sem,l]) rfl ?_;simpa using r.o
theorem nI(a:Bool)(A:oA)(n c m:Nat)(w:World)(g:At w A n c m)(p:n<=1000000) :
  CP 289 #[.agg #[.bool a,.slice A n c]] w (JR (sgn (!a) m) w):=by
 have q:=zH g;clear g;go_enter func289,ntmps289
 go_wp2_with fail
 have b:Bw w (zw (zw w #[.bool a,.slice A n c] 215) #[zF,zn] 215):=(zA _).alloc zP _;have i:=NoU.new (zw w #[.bool a,.slice A n c] 215) #[zF,zn] 215 zP;refine(Ek (!a) A n c m _ (q.o.on b) p).mono ?_;rintro e w1 ⟨A1,n1,c1,rfl,j,k,f⟩;have r:=zH (FZ j k (i.below f zP) b f);obtain⟨l,s⟩:=Cc f;clear j i b
 go_wp2_with fail
 refine bodyPost_ret (v:=.agg #[.bool (Ay (sgn (!a) m)),.slice A1 n1 c1]) (by simp[results,results289,go_sem,l]) rfl ?_;simpa using r.o
def JS(w:World)(p q r:aV):World:=((w.alloc (.cells p 215)).alloc (.cells q 215)).alloc (.cells r 215)
theorem Jf(w:World)(p q r:aV):Bw w (JS w p q r):=((zA _).alloc zP _).alloc zQ _
theorem NL(w:World)(p q:aV):NoU (JS w p q #[zF,zn]) (w.heap.size+1+1):=by
 have h:=NoU.new ((w.alloc (.cells p 215)).alloc (.cells q 215)) #[zF,zn] 215 zP;simpa[JS]using h
theorem OM(m n:Bool)(a b:Nat):sgn (!m == n) (a*b)=sgn m a*sgn n b:=by rw[<-Xl];cases m <;> cases n <;> rfl
theorem GF(f:Bool)(A:oA)(n c x:Nat)(b:Bool)(B:oA)(m d y:Nat)(w:World)(r:At w A n c x)(s:At w B m d y)(Q:n<=400000)(R:m<=400000) :
  CP 211 #[.agg #[.bool f,.slice A n c],.agg #[.bool b,.slice B m d]] w (JR (sgn f x*sgn b y) w):=by
 have C:nl (x*y)<=800000:=by
  have t:=Gj x y;have D:=r.trimmed.1;have E:=s.trimmed.1;omega
 have F:=zH (zu2 r s);clear r s;go_enter func211,ntmps211
 go_wp2_with fail
 have p:=Jf w #[.bool f,.slice A n c] #[.bool b,.slice B m d] #[zF,zn];have K:w.heap.size<w.heap.size+1+1+1:=zO;have L:w.heap.size<w.heap.size+1+1:=zO;have M:¬w.heap.size+1+1=w.heap.size:=zO;have N:¬w.heap.size=w.heap.size+1+1:=zO
 go_region_held3(λw'=>w'.cell? (ad w.heap.size 0)=some (.bool f)∧w'.cell? (ad w.heap.size 1)=some (.slice A n c)∧w'.cell? (ad (w.heap.size+1) 0)=some (.bool b)∧w'.cell? (ad (w.heap.size+1) 1)=some (.slice B m d))
  (go_keep)
  (first
  | (go_at_call 259;go_must((refine(JA A B n m c d x y _ (by exact F.o.1.on p.drew) (by exact F.o.2.on p.drew) zO zO).mono ?_);rintro e w1 ⟨A1,n1,c1,rfl,t,G,a⟩;obtain⟨j,H⟩:=Cc a;have k:w.heap.size+1+1<w1.heap.size:=(by have:=a.size;simp at this;omega);have O:w.heap.size+1<w1.heap.size:=zO;have P:w.heap.size<w1.heap.size:=zO))
  | (go_at_call 258;go_must((refine(Ek _ A1 n1 c1 (x*y) _ (by exact .of_limbs t G) (by rw[<-t.ulen];exact zs0 C zO)).mono ?_);rintro e w2 ⟨A2,n2,c2,rfl,D,I,l⟩;obtain⟨g,z⟩:=Cc l)))
 have k0:w2.cell? (ad (w.heap.size+1+1) 0)=some (zF):=by rw[g _ _ k,j _ _ zP];simp[go_sem]
 have k1:w2.cell? (ad (w.heap.size+1+1) 1)=some (zn):=by rw[g _ _ k,j _ _ zP];simp[go_sem]
 have q:NoU w2 (w.heap.size+1+1):=by
  have E:NoU w1 (w.heap.size+1+1):=NoU.below (w:=JS w #[.bool f,.slice A n c] #[.bool b,.slice B m d] #[zF,zn]) (NL w _ _) (zX a) (by simp[JS]);exact E.below l k
 have J:=zH (FZ (i:=sgn f x*sgn b y) (by rw[<-OM];exact D) I q (w:=w) (p.trans (Below.mono (zX a) p.size)) l zO);clear q j g z H
 go_wp2_with fail
 refine bodyPost_ret (v:=.agg #[.bool (Ay (sgn f x*sgn b y)),.slice A2 n2 c2]) (by simp[results,results211,go_sem,k0,k1,OM]) rfl ?_;rw[OM];exact J.o
theorem dY(b:Bool)(A:oA)(n c x:Nat)(B:oA)(m d y:Nat)(w:World)(q:At w A n c x)(r:At w B m d y)(P:n<=400000)(Q:m<=400000) :
  CP 288 #[.agg #[.bool b,.slice A n c],.agg #[.bool b,.slice B m d]] w (JR (sgn b (x+y)) w):=by
 have z:nl (x+y)<=800000:=by
  have s:=JP x y;have C:=q.trimmed.1;have D:=r.trimmed.1;omega
 have E:=zH (zu2 q r);clear q r;go_enter func288,ntmps288
 go_wp2_with fail
 have l:=Jf w #[.bool b,.slice A n c] #[.bool b,.slice B m d] #[zF,zn];have J:w.heap.size<w.heap.size+1+1+1:=zO;have K:w.heap.size<w.heap.size+1+1:=zO;have L:¬w.heap.size+1+1=w.heap.size:=zO;have M:¬w.heap.size=w.heap.size+1+1:=zO
 go_region_held3(λw'=>w'.cell? (ad w.heap.size 0)=some (.bool b)∧w'.cell? (ad w.heap.size 1)=some (.slice A n c)∧w'.cell? (ad (w.heap.size+1) 0)=some (.bool b)∧w'.cell? (ad (w.heap.size+1) 1)=some (.slice B m d))
  (go_keep)
  (first
  | (go_at_call 287;go_must((refine(NK A B n m c d x y _ (by exact E.o.1.on l.drew) (by exact E.o.2.on l.drew) zO zO).mono ?_);rintro e w1 ⟨A1,n1,c1,rfl,s,F,a⟩;obtain⟨g,G⟩:=Cc a;have j:w.heap.size+1+1<w1.heap.size:=(by have:=a.size;simp at this;omega);have N:w.heap.size+1<w1.heap.size:=zO;have O:w.heap.size<w1.heap.size:=zO))
  | (go_at_call 258;go_must((refine(Ek _ A1 n1 c1 (x+y) _ (by exact .of_limbs s F) (by rw[<-s.ulen];exact zs0 z zO)).mono ?_);rintro e w2 ⟨A2,n2,c2,rfl,C,H,k⟩;obtain⟨f,t⟩:=Cc k)))
 have k0:w2.cell? (ad (w.heap.size+1+1) 0)=some (zF):=by rw[f _ _ j,g _ _ zP];simp[go_sem]
 have k1:w2.cell? (ad (w.heap.size+1+1) 1)=some (zn):=by rw[f _ _ j,g _ _ zP];simp[go_sem]
 have p:NoU w2 (w.heap.size+1+1):=by
  have D:NoU w1 (w.heap.size+1+1):=NoU.below (w:=JS w #[.bool b,.slice A n c] #[.bool b,.slice B m d] #[zF,zn]) (NL w _ _) (zX a) (by simp[JS]);exact D.below k j
 have I:=zH (FZ (i:=sgn b (x+y)) C H p (w:=w) (l.trans (Below.mono (zX a) l.size)) k zO);clear p g f t G
 go_wp2_with fail
 refine bodyPost_ret (v:=.agg #[.bool (Ay (sgn b (x+y))),.slice A2 n2 c2]) (by simp[results,results288,go_sem,k0,k1]) rfl ?_;exact I.o
theorem tN(b:Bool)(A:oA)(n c x:Nat)(f:Bool)(B:oA)(m d y:Nat)(w:World)(r:At w A n c x)(t:At w B m d y)(O:n<=400000)(P:m<=400000)(p:b≠f)(z:y<=x) :
  CP 288 #[.agg #[.bool b,.slice A n c],.agg #[.bool f,.slice B m d]] w (JR (sgn b (x-y)) w):=by
 have C:nl (x-y)<=400000:=by
  have s:=GW (Nat.sub_le x y);have D:=r.trimmed.1;omega
 have E:=zH (zu2 r t);clear r t;have l:=Jf w #[.bool b,.slice A n c] #[.bool f,.slice B m d] #[zF,zn];have K:w.heap.size<w.heap.size+1+1+1:=zO;have L:w.heap.size<w.heap.size+1+1:=zO;have M:(b == f)=false:=by simpa using p
 clear p;go_enter func288,ntmps288
 go_wp2_with(first
  | (go_at_call 310;go_must((refine(Xo A B n m c d x y _ (by exact E.o.1.on l) (by exact E.o.2.on l) zO zO z).mono ?_);rintro e w1 ⟨A1,n1,c1,rfl,s,F,a⟩;obtain⟨q,N⟩:=Cc a;have g:w.heap.size+1+1<w1.heap.size:=(by have:=a.size;simp at this;omega)))
  | (go_at_call 258;go_must((refine(Ek _ A1 n1 c1 (x-y) _ (by exact .of_limbs s F) (by rw[<-s.ulen];exact zs0 C zO)).mono ?_);rintro e w2 ⟨A2,n2,c2,rfl,D,G,j⟩;obtain⟨k,I⟩:=Cc j)))
 have k0:w2.cell? (ad (w.heap.size+1+1) 0)=some (zF):=by rw[k _ _ g,q _ _ zP];simp[go_sem]
 have k1:w2.cell? (ad (w.heap.size+1+1) 1)=some (zn):=by rw[k _ _ g,q _ _ zP];simp[go_sem]
 have H:NoU w2 (w.heap.size+1+1):=by
  have J:NoU w1 (w.heap.size+1+1):=NoU.below (w:=JS w #[.bool b,.slice A n c] #[.bool f,.slice B m d] #[zF,zn]) (NL w _ _) (zX a) (by simp[JS]);exact J.below j g
 refine bodyPost_ret (v:=.agg #[.bool (Ay (sgn b (x-y))),.slice A2 n2 c2]) (by simp[results,results288,go_sem,k0,k1]) rfl ?_;exact FZ (i:=sgn b (x-y)) D G H (w:=w) (l.trans (Below.mono (zX a) l.size)) j zO
theorem tO(f:Bool)(A:oA)(n c x:Nat)(b:Bool)(B:oA)(m d y:Nat)(w:World)(z:At w A n c x)(s:At w B m d y)(O:n<=400000)(P:m<=400000)(q:f≠b)(C:x<y) :
  CP 288 #[.agg #[.bool f,.slice A n c],.agg #[.bool b,.slice B m d]] w (JR (sgn b (y-x)) w):=by
 have D:nl (y-x)<=400000:=by
  have t:=GW (Nat.sub_le y x);have E:=s.trimmed.1;omega
 have p:=zH (zu2 z s);clear z s;have g:=Jf w #[.bool f,.slice A n c] #[.bool b,.slice B m d] #[zF,zn];have K:w.heap.size<w.heap.size+1+1+1:=zO;have L:w.heap.size<w.heap.size+1+1:=zO;have M:(f == b)=false:=by simpa using q
 clear q;go_enter func288,ntmps288
 go_wp2_with fail
 refine(xM A B n m c d x y _ (by exact p.o.1.on g) (by exact p.o.2.on g) zO zO C).mono ?_;rintro e w' ⟨rfl,nq,rfl⟩
 go_wp2_with fail
 refine(Xo B A m n d c y x _ (by exact p.o.2.on (Ai g nq)) (by exact p.o.1.on (Ai g nq)) zO zO zO).mono ?_;rintro e w1 ⟨A1,n1,c1,rfl,t,F,a⟩;obtain⟨r,N⟩:=Cc a;have j:w.heap.size+1+1<w1.heap.size:=by have:=a.size;simp at this;omega
 go_wp2_with(go_at_call 258;go_must((refine(Ek _ A1 n1 c1 (y-x) _ (by exact .of_limbs t F) (by rw[<-t.ulen];exact zs0 D zO)).mono ?_);rintro e w2 ⟨A2,n2,c2,rfl,E,G,k⟩;obtain⟨l,I⟩:=Cc k))
 have k0:w2.cell? (ad (w.heap.size+1+1) 0)=some (zF):=by rw[l _ _ j,r _ _ zP];simp[go_sem]
 have k1:w2.cell? (ad (w.heap.size+1+1) 1)=some (zn):=by rw[l _ _ j,r _ _ zP];simp[go_sem]
 have H:NoU w2 (w.heap.size+1+1):=by
  have J:NoU w1 (w.heap.size+1+1):=NoU.below (w:=JS w #[.bool f,.slice A n c] #[.bool b,.slice B m d] #[zF,zn]) (NL w _ _) (zX a) (by simp[JS]);exact J.below k j
 refine bodyPost_ret (v:=.agg #[.bool (Ay (sgn b (y-x))),.slice A2 n2 c2]) (by simp[results,results288,go_sem,k0,k1]) rfl ?_;exact FZ (i:=sgn b (y-x)) E G H (w:=w) (g.trans (Below.mono (zX a) g.size)) k zO
theorem TT(b:Bool)(A:oA)(n c x:Nat)(a:Bool)(B:oA)(m d y:Nat)(w:World)(f:At w A n c x)(g:At w B m d y)(i:n<=400000)(j:m<=400000) :
  CP 288 #[.agg #[.bool b,.slice A n c],.agg #[.bool a,.slice B m d]] w (JR (sgn b x+sgn a y) w):=by
 by_cases h:b=a
 ·subst h;rw[<-Tw];exact dY b A n c x B m d y w f g i j
 by_cases e:y<=x
 ·rw[<-Yn h e];exact tN b A n c x a B m d y w f g i j h e
 rw[<-Yo h zO];exact tO b A n c x a B m d y w f g i j h zO
def AaN(v:Int)(w:World)(e:Ending)(w':World):Prop:=e=.returned (zi v)∧Bw w w'
theorem Ki(h:Ay i=true):i<0:=by simpa[Ay]using h
theorem Jg(h:Ay i=false):0<=i:=by
 have:¬i<0:=by simpa[Ay]using h
 omega
theorem tP(hi:0<=i)(a:0<=j):I2 i j=CS i.natAbs j.natAbs:=by
 unfold I2 CS
 repeat' split
 all_goals omega
theorem tQ(hi:i<0)(a:j<0):I2 i j=CS j.natAbs i.natAbs:=by
 unfold I2 CS
 repeat' split
 all_goals omega
theorem tR(h:i<j):I2 i j = -1:=by rw[I2,if_pos h]
theorem tS(h:j<i):I2 i j=1:=by rw[I2,if_neg zO,if_pos h]
def dZ(i j:Int)(w:World)(wx:World):Prop:=
 ∃(A:oA)(n c:Nat)(B:oA)(m d:Nat),wx.cell? (ad w.heap.size 0)=some (.bool (Ay i))∧wx.cell? (ad w.heap.size 1)=some (.slice A n c)∧wx.cell? (ad (w.heap.size+1) 0)=some (.bool (Ay j))∧wx.cell? (ad (w.heap.size+1) 1)=some (.slice B m d)∧
  Sl wx wx.heap.size A n (AC (Aj i.natAbs))∧n<=c∧Sl wx wx.heap.size B m (AC (Aj j.natAbs))∧m<=d∧Bw w wx
theorem tT{B:oA}{m d:Nat}{u0 u1 u2 u3:Value}(e:Sl w2 w2.heap.size A n (AC (Aj i.natAbs)))(f:Sl w2 w2.heap.size B m (AC (Aj j.natAbs)))(g:n<=c)(hd:m<=d)(a:NoU w2 w.heap.size)(b:NoU w2 (w.heap.size+1))(k:Bw w w2)
  (k0:zL w2 w.heap.size 0 u0) (k1:zL w2 w.heap.size 1 u1) (k2:zL w2 (w.heap.size+1) 0 u2) (k3:zL w2 (w.heap.size+1) 1 u3) :
  dZ i j w ((((w2.setCell (ad w.heap.size 0) (.bool (Ay i))).setCell (ad w.heap.size 1) (.slice A n c)).setCell (ad (w.heap.size+1) 0) (.bool (Ay j))).setCell (ad (w.heap.size+1) 1) (.slice B m d)):=by
 refine⟨A,n,c,B,m,d,by simp[go_sem,k0],by simp[go_sem,k1],by simp[go_sem,k2],by simp[go_sem,k3],?_,g,?_,hd,?_⟩
 ·exact(((e.no a 0 _).no (a.set _ zP) 1 _).no ((b.set _ zP).set _ zP) 0 _).no (((b.set _ zP).set _ zP).set _ zP) 1 _
 ·exact(((f.no a 0 _).no (a.set _ zP) 1 _).no ((b.set _ zP).set _ zP) 0 _).no (((b.set _ zP).set _ zP).set _ zP) 1 _
 exact(((k.setCell (p:=ad w.heap.size 0) (zs2 _) _).setCell (p:=ad w.heap.size 1) (zs2 _) _).setCell (p:=ad (w.heap.size+1) 0) (zt1 _) _).setCell (p:=ad (w.heap.size+1) 1) (zt1 _) _
theorem nJ(f:Bool)(A:oA)(n c x:Nat)(b:Bool)(B:oA)(m d y:Nat)(w:World)(I:At w A n c x)(J:At w B m d y)(M:n<=1000000)(N:m<=1000000) :
  CP 210 #[.agg #[.bool f,.slice A n c],.agg #[.bool b,.slice B m d]] w (AaN (I2 (sgn f x) (sgn b y)) w):=by
 have t1:=I.trimmed.1;have t2:=J.trimmed.1;have K:=zH (zu2 I J);clear I J;have t:Bw w (zw (zw w #[.bool f,.slice A n c] 215) #[.bool b,.slice B m d] 215):=(zA _).alloc zP _;have S:w.heap.size<w.heap.size+1+1:=zO;have T:¬w.heap.size+1=w.heap.size:=zO;go_enter func210,ntmps210
 go_upto_region 1 with fail
 go_cut [4] (λs4 wx=>s4=zi 0∧dZ (sgn f x) (sgn b y) w wx)
 case first=>
  go_region_with (first
   | (go_at_call_of 256 (Value.agg #[.bool f,.slice A n c]);go_must((refine(AaU f A n c x _ (by exact K.o.1.on t.drew) M).mono ?_);rintro e w1 ⟨A1,n1,c1,rfl,O,r,a⟩;obtain⟨s,U⟩:=Cc a;have v:w.heap.size+1<w1.heap.size:=(by have:=a.size;simp at this;omega);have z:w.heap.size<w1.heap.size:=zO))
   | (go_at_call 256;go_must((refine(AaU b B m d y _ (by exact(K.o.2.on t.drew).on a) N).mono ?_);rintro e w2 ⟨A2,n2,c2,rfl,P,L,p⟩;obtain⟨g,Q⟩:=Cc p)))
  all_goals
   have k00:w2.cell? (ad w.heap.size 0)=some (.bool f):=by rw[g _ _ z,s _ _ zQ];simp[go_sem]
   have k01:w2.cell? (ad w.heap.size 1)=some (.slice A n c):=by rw[g _ _ z,s _ _ zQ];simp[go_sem]
   have k10:w2.cell? (ad (w.heap.size+1) 0)=some (.bool b):=by rw[g _ _ v,s _ _ zP];simp[go_sem]
   have k11:w2.cell? (ad (w.heap.size+1) 1)=some (.slice B m d):=by rw[g _ _ v,s _ _ zP];simp[go_sem]
   have q:Bw w w1:=t.trans (Below.mono (zX a) t.size);have F:NoU w2 w.heap.size:=NoU.below (w:=w1) (NoU.below (w:=zw (zw w #[.bool f,.slice A n c] 215) #[.bool b,.slice B m d] 215) ((NoU.new w _ _ zP).alloc zP _) (zX a) zQ) p z;have G:NoU w2 (w.heap.size+1):=NoU.below (w:=w1) (NoU.below (w:=zw (zw w #[.bool f,.slice A n c] 215) #[.bool b,.slice B m d] 215) (by simpa using NoU.new (zw w #[.bool f,.slice A n c] 215) #[.bool b,.slice B m d] 215 zP) (zX a) zP) p v;have k:=zH (tT (O.on p) P r L F G (zT q p) k00 k01 k10 k11);clear F G q
   go_wp2_with fail
   go_meet;exact⟨rfl,k.o⟩
 case rest=>
  obtain⟨rfl,A1,n1,c1,B1,m1,d1,k0,k1,k2,k3,C,r,D,H,l⟩:=hcut
  have l1:n1<=1000000:=by
   have h:=C.ulen;rw[B7]at h;have:n1=nl x:=h.symm;omega
  have l2:m1<=1000000:=by
   have h:=D.ulen;rw[B7]at h;have:m1=nl y:=h.symm;omega
  have E:=zH (zu2 C D);clear C D t;generalize hi:sgn f x=i at *
  generalize R:sgn b y=j at *
  clear hi R
  cases hp:Ay i <;> cases hq:Ay j
  ·have k:=zH (tP (Jg hp) (Jg hq));rw[hp]at k0;rw[hq]at k2;clear hp hq;go_wp2_with(go_at_call 257;go_must((refine(GX A1 B1 n1 m1 c1 d1 _ _ _ (.of_limbs E.o.1 r) (.of_limbs E.o.2 H) l1 l2).mono ?_);rintro e w' ⟨rfl,nq,rfl⟩))
   go_ret;exact⟨by rw[k.o];rfl,Ai l nq⟩
  ·have k:=zH (tS (i:=i) (j:=j) (by have:=Jg hp;have:=Ki hq;omega));rw[hp]at k0;rw[hq]at k2;clear hp hq
   go_wp2_with fail
   go_ret;exact⟨by rw[k.o];rfl,l⟩
  ·have k:=zH (tR (i:=i) (j:=j) (by have:=Ki hp;have:=Jg hq;omega));rw[hp]at k0;rw[hq]at k2;clear hp hq
   go_wp2_with fail
   go_ret;exact⟨by rw[k.o];rfl,l⟩
  have k:=zH (tQ (Ki hp) (Ki hq));rw[hp]at k0;rw[hq]at k2;clear hp hq;go_wp2_with(go_at_call 257;go_must((refine(GX B1 A1 m1 n1 d1 c1 _ _ _ (.of_limbs E.o.2 H) (.of_limbs E.o.1 r) l2 l1).mono ?_);rintro e w' ⟨rfl,nq,rfl⟩))
  go_ret;exact⟨by rw[k.o];rfl,Ai l nq⟩
end Go.Proofs.YteafekbddckemaaGreatDoor
