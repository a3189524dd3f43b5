/- Parts of the proof. -/
import Derived.Test.YteafekbddckemaaGreatDoorH31
set_option maxRecDepth 100000
set_option maxHeartbeats 40000000
namespace Go.Proofs.YteafekbddckemaaGreatDoor
open Tryz Go.RowKit
open Go.Lib hiding intOf
variable{T t:TypeId}{a b c d f v:Value}{cs:aV}{e:Ending}{g j k n r:Nat}{p q:Rat}{w w' w0 w4:World}
theorem jI(m n:Bool)(x y u v:Nat)(a:y≠0)(b:u≠0)(e:v≠0):rv (sgn m x) y/rv (sgn n u) v=rv (sgn (m != n) (x*v)) (y*u):=by
 have f:rv (sgn n u) v≠0:=by
  intro h;rw[Pn e]at h;have:=B7 n u;rw[h]at this;exact b this.symm
 have g:rv (sgn (m != n) (x*v)) (y*u)*rv (sgn n u) v=rv (sgn m x) y:=by
  rw[Ty,sL (Nat.mul_ne_zero (Nat.mul_ne_zero a b) e) a,Xl];have i:sgn n v*sgn n u=(v:Int)*u:=by cases n <;> simp[sgn,Int.neg_mul_neg]
  rw[Int.mul_assoc (sgn m x),i,Int.mul_assoc,show((v:Int)*u*y)=((y*u*v:Nat):Int)by push_cast;rw[Int.mul_comm,Int.mul_comm (v:Int) u,Int.mul_assoc]]
 rw[<-g,Rat.div_def,Rat.mul_assoc,Rat.mul_inv_cancel _ f,Rat.mul_one]
def Tn(p q:Rat)(w:World)(e:Ending)(w':World):Prop:=Bw w w'∧if q=0 then e=.returned (.tuple #[.agg #[zF,zn,zn],zF])else ∃v,e=.returned (.tuple #[v,zY])∧Dh w' v (p/q)
theorem jJ(a:qk p j)(b:qk q k):qk (p/q) (j+k):=by
 have g:=eM a;by_cases f:q.num=0
 ·have e:q=0:=by rw[<-FV q,f];exact Rat.zero_mkRat _
  subst e;rw[Rat.div_def,Rat.inv_zero,Rat.mul_zero];exact⟨by show nl 0<=_;rw[Ld];omega,zs0 (JQ (v:=1) (by unfold bs;omega)) zO⟩
 have e:p/q=rv (sgn (Ay p.num != Ay q.num) (p.num.natAbs*q.den)) (p.den*q.num.natAbs):=by
  rw[<-jI _ _ _ _ _ _ p.den_nz zO q.den_nz,CV,CV,FV,FV]
 rw[e];exact Tj (by rw[B7];exact zs0 (Gj _ _) (by have:=a.1;have:=b.2;omega)) (zs0 (Gj _ _) (by have:=a.2;have:=b.1;omega)) zO
theorem Vi(v u:Value)(j k:Nat)(p q:Rat)(w:World)(ha:BK w v j p)(hb:BK w u k q)(hj:1<=j)(hk:1<=k)(au:j<=100000)(av:k<=100000) :
  CP 221 #[v,u] w (Tn p q w):=by
 obtain⟨F,A,n,c,B,m,d,x,y,rfl,h1,h2,h3,h4,h5⟩:=ha;obtain⟨l,A2,n2,c2,B2,m2,d2,x2,y2,rfl,g1,g2,g3,g4,g5⟩:=hb;have T:=λW (J:Bw w W)=>DW F A n c x B m d y W (h1.on J) (h2.on J) j h3 h4 hj zO
 rw[h5]at T;have U:=λW (J:Bw w W)=>DW l A2 n2 c2 x2 B2 m2 d2 y2 W (g1.on J) (g2.on J) k g3 g4 hk zO
 rw[g5]at U;have T:=zH T;have U:=zH U;have J:Bw w (zw (zw (zw w #[.bool F,.slice A n c,.slice B m d] 217) #[.bool l,.slice A2 n2 c2,.slice B2 m2 d2] 217) #[zF,zn,zn] 217):=((zA _).alloc zP _).alloc zQ _;have X0:Blk (zw (zw (zw w #[.bool F,.slice A n c,.slice B m d] 217) #[.bool l,.slice A2 n2 c2,.slice B2 m2 d2] 217) #[zF,zn,zn] 217) w.heap.size 217 #[.bool F,.slice A n c,.slice B m d]:=((Blk.new w _ _).alloc _).alloc _;have Y0:Blk (zw (zw (zw w #[.bool F,.slice A n c,.slice B m d] 217) #[.bool l,.slice A2 n2 c2,.slice B2 m2 d2] 217) #[zF,zn,zn] 217) (w.heap.size+1) 217 #[.bool l,.slice A2 n2 c2,.slice B2 m2 d2]:=(Blk.new' (zw w #[.bool F,.slice A n c,.slice B m d] 217) 217 #[.bool l,.slice A2 n2 c2,.slice B2 m2 d2] zP).alloc _;have R0:Blk (zw (zw (zw w #[.bool F,.slice A n c,.slice B m d] 217) #[.bool l,.slice A2 n2 c2,.slice B2 m2 d2] 217) #[zF,zn,zn] 217) (w.heap.size+1+1) 217 #[zF,zn,zn]:=Blk.new' (zw (zw w #[.bool F,.slice A n c,.slice B m d] 217) #[.bool l,.slice A2 n2 c2,.slice B2 m2 d2] 217) 217 #[zF,zn,zn] zP;have M:=zH X0;have N:=zH Y0;have G:=zH R0;clear h1 h2 h3 h4 h5 g1 g2 g3 g4 g5 X0 Y0 R0;have aw:w.heap.size<w.heap.size+1+1:=zO;have ax:w.heap.size<w.heap.size+1+1+1:=zO;have ay:¬w.heap.size+1=w.heap.size:=zO;go_enter func221,ntmps221
 go_upto_region 1 with fail
 go_cut [4] (λs4 wx=>s4=.pointer (sa (w.heap.size+1+1) 0)∧T3 true p q j k w wx)
 case first=>
  go_region_with (first
   | (go_at_call_of 209 (Value.agg #[.bool F,.slice A n c,.slice B m d]);go_must((refine(T.o _ (by exact J.drew)).mono ?_);rintro e w1 ⟨ng,C,cn,cc,E,en,ec,xx,yy,rfl,a1,a2,a3,a4,a5,a6,b⟩;obtain⟨az,b0⟩:=Cc b;have b7:w.heap.size+1+1<w1.heap.size:=(by have:=b.size;simp at this;omega);have b8:w.heap.size<w1.heap.size:=zO;have b9:w.heap.size+1<w1.heap.size:=zO))
   | (go_at_call 209;go_must((refine(U.o _ (by exact J.drew.trans (b.mono J.drew.size))).mono ?_);rintro e w2 ⟨ng2,C2,cn2,cc2,E2,en2,ec2,xx2,yy2,rfl,b1,b2,b3,b4,b5,b6,K⟩;obtain⟨aq,ar⟩:=Cc K)))
  all_goals
   have X2:=(M.o.below (w':=w1) (zX b)).below K;have Y2:=(N.o.below (w':=w1) (zX b)).below K;have R2:=(G.o.below (w':=w1) (zX b)).below K;have Q:Bw w w1:=J.trans (Below.mono (zX b) J.size);have HE:=zH (LO (t:=true) (w:=w) (a1.on K) (a2.on K) a3 a4 a5 a6 b1 b2 b3 b4 b5 b6 X2 Y2 (by intro _;exact R2) (zT Q K) (NoU.blk X2 zP) (NoU.blk Y2 zP));clear X2 Y2 R2 a1 a2 b1 b2 Q
   go_wp2_with fail
   go_meet;exact⟨rfl,HE.o⟩
 case rest=>
  clear M N G T U J;obtain⟨rfl,L,A1,n1,c1,B1,m1,d1,x1,y1,s,A3,n3,c3,B3,m3,d3,x3,y3,hX,hY,hZ,a1,a2,a3,a4,a5,a6,b1,b2,b3,b4,b5,b6,z⟩:=hcut;have M:=zH hX;have N:=zH hY;have G:=zH (hZ rfl);have H:=zH (zu2 a1 (zu2 a2 (zu2 b1 b2)));have hs:=six hX hY;have t1:=a1.trimmed.1;have t2:=a2.trimmed.1;have t3:=b1.trimmed.1;have t4:=b2.trimmed.1;have ln:nl (x1*y3)<=200000:=by have:=Gj x1 y3;omega
  have ld:nl (y1*x3)<=200000:=by have:=Gj y1 x3;omega
  have a0:q=0↔x3=0:=by
   rw[<-b4,Pn b3];have:=B7 s x3;constructor
   ·intro h;rw[h]at this;exact this.symm
   rintro rfl;cases s <;> rfl
  clear hX hY hZ a1 a2 b1 b2;obtain⟨s0,s1,s2,s3,s4,s5⟩:=hs;by_cases S:x3=0
  ·have hd:decide (x3=0)=true:=by simpa using S
   have z0:=G.o.frozen 0;have z1:=G.o.frozen 1;have z2:=G.o.frozen 2;have c0:=G.o.c (i:=0) rfl;have c1:=G.o.c (i:=1) rfl;have c2:=G.o.c (i:=2) rfl;go_wp2_with(go_at_call 254;go_must((refine(LK A3 n3 c3 x3 _ (by exact H.o.2.2.1) zO).mono ?_);rintro e w' ⟨rfl,nq,rfl⟩;rw[hd]))
   refine bodyPost_ret (v:=.tuple #[.agg #[zF,zn,zn],zF]) (by simp[results,results221,go_sem,c0,c1,c2]) rfl ?_;refine⟨Fi (Ai z nq) zO _ _ _,?_⟩;rw[if_pos (a0.2 S)]
  have hd:decide (x3=0)=false:=by simpa using S
  have ab:y1*x3≠0:=Nat.mul_ne_zero a3 S;have Z:=λW C cn cc D dn dc (h:Sl W W.heap.size C cn (AC (Aj (x1*y3)))) (hc:cn<=cc) (ac:cn<=1000000) (g:Sl W W.heap.size D dn (AC (Aj (y1*x3)))) (hd:dn<=dc) (ae:dn<=1000000)=>Hk (L != s) C cn cc (x1*y3) D dn dc (y1*x3) W (.of_limbs h hc) (.of_limbs g hd) ac ae ab
  rw[<-jI L s x1 y1 x3 y3 a3 S b3,a4,b4]at Z;have Z:=zH Z
  go_upto_region 4 with(go_at_call 254;go_must((refine(LK A3 n3 c3 x3 _ (by exact H.o.2.2.1) zO).mono ?_);rintro e wz ⟨rfl,nq,a7⟩;have r:Bw wc wz:=(by rw[a7];exact Ai zJ nq);clear a7;rw[hd]))
  have ba:w.heap.size<=wz.heap.size:=zs0 z.size r.size;have M:=zH (M.o.below r);have N:=zH (N.o.below r);have G:=zH (G.o.below r);have H:=zH (zu2 (H.o.1.on r) (zu2 (H.o.2.1.on r) (zu2 (H.o.2.2.1.on r) (H.o.2.2.2.on r))));have z:=zT z r;have bb:=M.o.lt;have bc:=N.o.lt;have bd:=G.o.lt;clear r s0 s1 s2 s3 s4 s5
  go_cut [6] (λs6 wx=>∃(g:Nat)(C:oA)(cn cc:Nat),s6=.pointer (sa g 0)∧Blk wx g 215 #[.bool (!L == s),.slice C cn cc]∧Sl wx wx.heap.size C cn (AC (Aj (x1*y3)))∧cn<=cc∧Bw wz wx∧wz.heap.size<=g)
  case first=>
   obtain⟨s0,s1,s2,s3,s4,s5⟩:=six M.o N.o;have nz0:¬wz.heap.size=w.heap.size:=zO;have nz1:¬wz.heap.size=w.heap.size+1:=zO;have nz2:¬w.heap.size=wz.heap.size:=zO;have nz3:¬w.heap.size+1=wz.heap.size:=zO
   go_region_held3(λw'=>w'.cell? (ad w.heap.size 0)=some (.bool L)∧w'.cell? (ad w.heap.size 1)=some (.slice A1 n1 c1)∧w'.cell? (ad w.heap.size 2)=some (.slice B1 m1 d1)∧w'.cell? (ad (w.heap.size+1) 0)=some (.bool s)∧w'.cell? (ad (w.heap.size+1) 1)=some (.slice A3 n3 c3)∧w'.cell? (ad (w.heap.size+1) 2)=some (.slice B3 m3 d3))
    (go_keep)
    (first
    | (go_at_call 259;(refine(JA A1 B3 n1 m3 c1 d3 x1 y3 _ (by exact H.o.1) (by exact H.o.2.2.2) zO zO).mono ?_);rintro e w4 ⟨C4,k4,e4,rfl,r4,O,a⟩;have f:=zH (show Bw wz w4 from(zX a));have aa:=six (M.o.below f.o) (N.o.below f.o);have H4:=zH r4;clear r4 a)
    | (go_at_call 259;(refine(JA A1 B3 n1 m3 c1 d3 x1 y3 _ (by exact H.o.1.on (zA _).drew) (by exact H.o.2.2.2.on (zA _).drew) zO zO).mono ?_);rintro e w4 ⟨C4,k4,e4,rfl,r4,O,a⟩;have f:=zH ((zA (.cells #[zF,zn] 215)).trans (Below.mono (show Bw (zw wz #[zF,zn] 215) w4 from(zX a)) zP):Bw wz w4);have R:=zH ((Blk.new wz 215 #[zF,zn]).below (show Bw (zw wz #[zF,zn] 215) w4 from(zX a)));have d0:=R.out.c (i:=0) (v:=zF) rfl;have d1':=R.out.c (i:=1) (v:=zn) rfl;have y0':=R.out.frozen 0;have y1':=R.out.frozen 1;have aa:=six (M.o.below f.o) (N.o.below f.o);have H4:=zH r4;clear r4 a))
   all_goals
    go_wp2_with fail
    go_meet
    first
    | exact⟨w4.heap.size,C4,k4,e4,rfl,Blk.new _ _ _,H4.o.on (zA _),O,f.o.alloc f.o.size _,f.o.size⟩
    | exact⟨_,C4,k4,e4,rfl,(R.out.set_ 0 _).set_ 1 _,(H4.o.no (NoU.blk R.out zP) 0 _).no ((NoU.blk R.out zP).set _ zP) 1 _,O,(f.o.setCell (p:=ad _ 0) (zs2 _) _).setCell (p:=ad _ 1) (zs2 _) _,zs2 _⟩
  case rest=>
   obtain⟨g,C,cn,cc,rfl,V,hS,af,I,be⟩:=hcut;have lc:cn<=1000000:=by rw[<-hS.ulen];exact zs0 ln zO
   have ag:=zH V;have ah:=zH hS;have bf:=zH I;have gg:=V.lt;have X:=M.o.below I;have Y:=N.o.below I;have v0:=V.c (i:=0) rfl;have v1:=V.c (i:=1) rfl;have v2:=X.c (i:=2) rfl;have v3:=Y.c (i:=1) rfl;have ai:=zH X;have aj:=zH Y;have ak:=zH (G.o.below I);have a8:=zH (zT z I);have HD:=zH (zu2 (H.o.2.1.on I) (H.o.2.2.1.on I));have nz0:¬w.heap.size+1+1=g:=zO;have nz1:¬g=w.heap.size+1+1:=zO;have ne0:¬w.heap.size+1+1=w.heap.size:=zO;have ne1:¬w.heap.size=w.heap.size+1+1:=zO;have ne2:¬w.heap.size+1+1=w.heap.size+1:=zO;have ne3:¬w.heap.size+1=w.heap.size+1+1:=zO;clear V hS I X Y;obtain⟨wo,rfl⟩:∃wo:World,wo=wc:=⟨_,rfl⟩
   go_wp2_with fail
   go_region_held3(λw'=>w'.cell? (ad g 0)=some (.bool (!L == s))∧w'.cell? (ad g 1)=some (.slice C cn cc)∧w'.cell? (ad w.heap.size 2)=some (.slice B1 m1 d1)∧w'.cell? (ad (w.heap.size+1) 1)=some (.slice A3 n3 c3))
    (go_keep)
    (first
    | (go_at_call 259;go_must((refine(JA B1 A3 m1 n3 d1 c3 y1 x3 _ (by exact HD.o.1) (by exact HD.o.2) zO zO).mono ?_);rintro e w4 ⟨C4,k4,e4,rfl,r4,O,a⟩;have f:=zH (show Bw wo w4 from(zX a));have lk4:k4<=1000000:=(by rw[<-r4.ulen];exact zs0 ld zO);have al:=zH (ah.o.on f.o);have am:=zH r4;have G4:=ag.o.below f.o;have X4:=ai.o.below f.o;have Y4:=aj.o.below f.o;have t0:=G4.c (i:=0) rfl;have t1:=G4.c (i:=1) rfl;have t2:=X4.c (i:=2) rfl;have t3:=Y4.c (i:=1) rfl;have an:=zH G4;have ao:=zH X4;have ap:=zH Y4;clear r4 a G4 X4 Y4))
    | (go_at_call 263;go_must((refine(Z.o _ C cn cc C4 k4 e4 al.o af lc am.o O lk4).mono ?_);rintro e w5 ⟨Cf,nf,cf,Ef,mf,df,rfl,rf1,rf2,rf3,rf4,P⟩;have a9:=zH (zT f.o P);have Zf:=ak.o.below a9.o;have HF:=zH (U3 rf1 rf2 rf3 rf4 Zf zP (zT a8.o a9.o) zO);have k0:=Zf.c (i:=0) rfl;have k1:=Zf.c (i:=1) rfl;have k2:=Zf.c (i:=2) rfl;have y0':=Zf.frozen 0;have y1':=Zf.frozen 1;have y2':=Zf.frozen 2;have G5:=an.o.below P;have X5:=ao.o.below P;have Y5:=ap.o.below P;have p0:=G5.c (i:=0) rfl;have p1:=G5.c (i:=1) rfl;have p2:=X5.c (i:=2) rfl;have p3:=Y5.c (i:=1) rfl;clear rf1 rf3 Zf P G5 X5 Y5)))
   go_wp2_with fail
   refine bodyPost_ret (v:=.tuple #[.agg #[.bool (Ay (p/q).num),.slice Cf nf cf,.slice Ef mf df],zY]) (by simp[results,results221,go_sem,k0,k1,k2]) rfl ?_;obtain⟨v,hv,hN,hb⟩:=HF.o;refine⟨hb,?_⟩;rw[if_neg (by rw[a0];exact S)];exact⟨v,hv,hN⟩
def NU(v:Value):Prop:=∀x,v≠.int .u32 x
theorem Lt(b:Bool):NU (.bool b):=λx e=>by cases e
theorem GQ(A:oA)(n c:Nat):NU (.slice A n c):=λx e=>by cases e
theorem Dh.nou(h:Dh w (.agg #[a,b,c]) q):NU a∧NU b∧NU c:=by
 obtain⟨A,n,d,B,m,e,f,_⟩:=h;simp only[Value.agg.injEq,Array.mk.injEq,List.cons.injEq,and_true]at f;obtain⟨rfl,rfl,rfl⟩:=f;exact⟨Lt _,GQ _ _ _,GQ _ _ _⟩
theorem C8(h:KL q w e w'):∃g A n c B m d,e=.returned (.agg #[.bool g,.slice A n c,.slice B m d])∧Dh w' (.agg #[.bool g,.slice A n c,.slice B m d]) q∧Bw w w':=by
 obtain⟨A,n,c,B,m,d,rfl,a,b,f,i,j⟩:=h;exact⟨_,_,_,_,_,_,_,rfl,⟨A,n,c,B,m,d,rfl,a,b,f,i⟩,j⟩
theorem Qu(h:Z6 q w e w'):∃g A n c B m d,e=.returned (.tuple #[.agg #[.bool g,.slice A n c,.slice B m d],zY])∧Dh w' (.agg #[.bool g,.slice A n c,.slice B m d]) q∧Bw w w':=by
 obtain⟨v,rfl,⟨A,n,c,B,m,d,rfl,a,b,f,i⟩,j⟩:=h;exact⟨_,_,_,_,_,_,_,rfl,⟨A,n,c,B,m,d,rfl,a,b,f,i⟩,j⟩
def PtA(w:World)(v:Value)(k:Nat)(p:Rat×Rat):Prop:=∃a b c d e f,v=.agg #[a,b,c,d,e,f]∧BK w (.agg #[a,b,c]) k p.1∧BK w (.agg #[d,e,f]) k p.2
def PtN(w:World)(v:Value)(p:Rat×Rat):Prop:=∃a b c d e f,v=.agg #[a,b,c,d,e,f]∧Dh w (.agg #[a,b,c]) p.1∧Dh w (.agg #[d,e,f]) p.2
theorem PtA.on{p:Rat×Rat}(h:PtA w v k p)(g:Bw w w'):PtA w' v k p:=by
 obtain⟨a,b,c,d,e,f,i,j,l⟩:=h;exact⟨a,b,c,d,e,f,i,j.on g,l.on g⟩
theorem PtN.on{p:Rat×Rat}(h:PtN w v p)(g:Bw w w'):PtN w' v p:=by
 obtain⟨a,b,c,d,e,f,i,j,k⟩:=h;exact⟨a,b,c,d,e,f,i,j.on g,k.on g⟩
theorem PtN.A{p:Rat×Rat}(h:PtN w v p)(g:qk p.1 k)(i:qk p.2 k):PtA w v k p:=by
 obtain⟨a,b,c,d,e,f,j,g1,g2⟩:=h;exact⟨a,b,c,d,e,f,j,g1.A g,g2.A i⟩
theorem PtN.no{p:Rat×Rat}(h:PtN w v p)(g:NoU w r)(k:Nat)(u:Value):PtN (w.setCell (ad r k) u) v p:=by
 obtain⟨a,b,c,d,e,f,i,j,l⟩:=h;exact⟨a,b,c,d,e,f,i,j.no g k u,l.no g k u⟩
def I7(p:Rat×Rat)(w:World)(e:Ending)(w':World):Prop:=∃v,e=.returned v∧PtN w' v p∧Bw w w'
theorem C9{p:Rat×Rat}(h:I7 p w e w'):∃g A n c B m d g' A' n' c' B' m' d',e=.returned (.agg #[.bool g,.slice A n c,.slice B m d,.bool g',.slice A' n' c',.slice B' m' d'])∧PtN w' (.agg #[.bool g,.slice A n c,.slice B m d,.bool g',.slice A' n' c',.slice B' m' d']) p∧Bw w w':=by
 obtain⟨v,rfl,⟨a0,a1,a2,a3,a4,a5,rfl,b,f⟩,l⟩:=h;have i:=b;have j:=f;obtain⟨A,n,c,B,m,d,k,_⟩:=i;obtain⟨A',n',c',B',m',d',a,_⟩:=j;simp only[Value.agg.injEq,Array.mk.injEq,List.cons.injEq,and_true]at k a;obtain⟨rfl,rfl,rfl⟩:=k;obtain⟨rfl,rfl,rfl⟩:=a;exact⟨_,_,_,_,_,_,_,_,_,_,_,_,_,_,rfl,⟨_,_,_,_,_,_,rfl,b,f⟩,l⟩
theorem Ak{e:Value}(h:Blk w g t #[a,b,c,d,e,f]):zL w g 0 a∧zL w g 1 b∧zL w g 2 c∧zL w g 3 d∧zL w g 4 e∧zL w g 5 f:=
 ⟨h.c rfl,h.c rfl,h.c rfl,h.c rfl,h.c rfl,h.c rfl⟩
theorem CT(h:Blk w g t #[a,b,c]):zL w g 0 a∧zL w g 1 b∧zL w g 2 c:=⟨h.c rfl,h.c rfl,h.c rfl⟩
theorem NoU.put3(h:NoU w r)(g:Nat)(i:Nat)(e:NU a)(f:NU b)(j:NU c):NoU (((w.setCell (ad g i) a).setCell (ad g (i+1)) b).setCell (ad g (i+2)) c) r:=((h.set _ e).set _ f).set _ j
theorem Dh.put3(h:Dh w v q)(e:NoU w r)(i:Nat)(f:NU a)(g:NU b):Dh (((w.setCell (ad r i) a).setCell (ad r (i+1)) b).setCell (ad r (i+2)) c) v q:=
 ((h.no e i a).no (e.set _ f) (i+1) b).no ((e.set _ f).set _ g) (i+2) c
theorem PtN.put3{p:Rat×Rat}(h:PtN w v p)(e:NoU w r)(i:Nat)(f:NU a)(g:NU b):PtN (((w.setCell (ad r i) a).setCell (ad r (i+1)) b).setCell (ad r (i+2)) c) v p:=
 ((h.no e i a).no (e.set _ f) (i+1) b).no ((e.set _ f).set _ g) (i+2) c
theorem Mi(h:Below n w0 w)(a:n<=g)(u0 u1 u2 u3 u4 u5:Value):Below n w0 ((((((w.setCell (ad g 0) u0).setCell (ad g 1) u1).setCell (ad g 2) u2).setCell (ad g 3) u3).setCell (ad g 4) u4).setCell (ad g 5) u5):=KB h a u0 u1 u2 u3 u4 u5
theorem Ns{e:Value}{p:Rat×Rat}(j:Dh w4 (.agg #[a,b,c]) p.1)(k:Dh w4 (.agg #[d,e,f]) p.2)(m:Blk w4 r T cs)(l:∀v∈cs.toList,∀x,v≠.int .u32 x)(n:Bw w w4)(o:w.heap.size<=r) :
  I7 p w (.returned (.agg #[a,b,c,d,e,f])) ((((((w4.setCell (ad r 0) a).setCell (ad r 1) b).setCell (ad r 2) c).setCell (ad r 3) d).setCell (ad r 4) e).setCell (ad r 5) f):=by
 have i:=NoU.blk m l;obtain⟨n1,n2,n3⟩:=j.nou;obtain⟨n4,n5,n6⟩:=k.nou;have g:=i.put3 r 0 n1 n2 n3;exact⟨_,rfl,⟨a,b,c,d,e,f,rfl,(j.put3 i 0 n1 n2).put3 g 3 n4 n5,(k.put3 i 0 n1 n2).put3 g 3 n4 n5⟩,Mi n o _ _ _ _ _ _⟩
theorem Aat(e:Dh w4 (.agg #[a,b,c]) q)(g:Blk w4 r T cs)(f:∀v∈cs.toList,∀x,v≠.int .u32 x)(i:Bw w w4)(j:w.heap.size<=r) :
  KL q w (.returned (.agg #[a,b,c])) (((w4.setCell (ad r 0) a).setCell (ad r 1) b).setCell (ad r 2) c):=by
 have k:=NoU.blk g f;obtain⟨n1,n2,n3⟩:=e.nou;have l:=e.put3 k 0 (c:=c) n1 n2;obtain⟨A,n,c1,B,m,d,o,g1,g2,g3,g4⟩:=l;refine⟨A,n,c1,B,m,d,?_,g1,g2,g3,g4,Fi i j _ _ _⟩;rw[o]
theorem FR(v u:Value)(j k:Nat)(p q:Rat×Rat)(w:World)(Y:PtA w v j p)(Z:PtA w u k q)(H:1<=j)(I:1<=k)(y:j<=100000)(z:k<=100000) :
  CP 182 #[v,u] w (I7 (p.1-q.1,p.2-q.2) w):=by
 obtain⟨a0,a1,a2,a3,a4,a5,rfl,B,C⟩:=Y;obtain⟨b0,b1,b2,b3,b4,b5,rfl,D,E⟩:=Z;have r:=zH (zu2 B (zu2 C (zu2 D E)));clear B C D E;have J:Bw w (zw (zw (zw w #[a0,a1,a2,a3,a4,a5] 284) #[b0,b1,b2,b3,b4,b5] 284) #[zF,zn,zn,zF,zn,zn] 284):=(((zJ.alloc zP _).alloc zP _).alloc zQ _);have m:Hid (Blk (zw (zw (zw w #[a0,a1,a2,a3,a4,a5] 284) #[b0,b1,b2,b3,b4,b5] 284) #[zF,zn,zn,zF,zn,zn] 284) w.heap.size 284 #[a0,a1,a2,a3,a4,a5]):=zH ((((Blk.new w 284 #[a0,a1,a2,a3,a4,a5]).alloc _).alloc _));have n:Hid (Blk (zw (zw (zw w #[a0,a1,a2,a3,a4,a5] 284) #[b0,b1,b2,b3,b4,b5] 284) #[zF,zn,zn,zF,zn,zn] 284) (w.heap.size+1) 284 #[b0,b1,b2,b3,b4,b5]):=zH (((Blk.new' (zw w #[a0,a1,a2,a3,a4,a5] 284) 284 #[b0,b1,b2,b3,b4,b5] zP).alloc _));have K:Hid (Blk (zw (zw (zw w #[a0,a1,a2,a3,a4,a5] 284) #[b0,b1,b2,b3,b4,b5] 284) #[zF,zn,zn,zF,zn,zn] 284) (w.heap.size+1+1) 284 #[zF,zn,zn,zF,zn,zn]):=zH ((Blk.new' (zw (zw w #[a0,a1,a2,a3,a4,a5] 284) #[b0,b1,b2,b3,b4,b5] 284) 284 #[zF,zn,zn,zF,zn,zn] zP));have l:=zH J;clear J;have ne01:¬w.heap.size=w.heap.size+1:=zO;have ne02:¬w.heap.size=w.heap.size+1+1:=zO;have ne10:¬w.heap.size+1=w.heap.size:=zO;have ne12:¬w.heap.size+1=w.heap.size+1+1:=zO;have ne20:¬w.heap.size+1+1=w.heap.size:=zO;have ne21:¬w.heap.size+1+1=w.heap.size+1:=zO
 have S:=Ak (m.o);have T:=Ak (n.o);go_enter func182,ntmps182
 go_upto_region 1 with fail
 go_region_held3(λw'=>w'.cell? (ad w.heap.size 0)=some a0∧w'.cell? (ad w.heap.size 1)=some a1∧w'.cell? (ad w.heap.size 2)=some a2∧w'.cell? (ad w.heap.size 3)=some a3∧w'.cell? (ad w.heap.size 4)=some a4∧w'.cell? (ad w.heap.size 5)=some a5∧w'.cell? (ad (w.heap.size+1) 0)=some b0∧w'.cell? (ad (w.heap.size+1) 1)=some b1∧w'.cell? (ad (w.heap.size+1) 2)=some b2∧w'.cell? (ad (w.heap.size+1) 3)=some b3∧w'.cell? (ad (w.heap.size+1) 4)=some b4∧w'.cell? (ad (w.heap.size+1) 5)=some b5)
  (go_keep)
  (first
  | (go_at_call_of 226 (Value.agg #[a0,a1,a2]);go_must((refine(OV _ _ j k p.1 q.1 _ (by exact r.o.1.on l.o.drew) (by exact r.o.2.2.1.on l.o.drew) H I y z).mono ?_);rintro e w3 L;obtain⟨g0,G0,gn0,gc0,H0,M,N,rfl,r0,a⟩:=C8 L;have f:=zH (show Bw (zw (zw (zw w #[a0,a1,a2,a3,a4,a5] 284) #[b0,b1,b2,b3,b4,b5] 284) #[zF,zn,zn,zF,zn,zn] 284) w3 from(zX a));have F:=zH (zT l.o f.o);have U:=Ak (m.o.below f.o);have V:=Ak (n.o.below f.o);have s:=zH r0;clear a r0))
  | (go_at_call 226;go_must((refine(OV _ _ j k p.2 q.2 _ (by exact r.o.2.1.on F.o) (by exact r.o.2.2.2.on F.o) H I y z).mono ?_);rintro e w4 O;obtain⟨g1,G1,gn1,gc1,H1,P,Q,rfl,r1,b⟩:=C8 O;have G:=zH (show Bw w3 w4 from(zX b));have g:=zH (zT f.o G.o);have R:=zH (zT l.o g.o);have W:=Ak (m.o.below g.o);have X:=Ak (n.o.below g.o);have t:=zH r1;have x:=zH (s.o.on G.o);have Zf:=K.o.below g.o;have HF:=zH (Ns (p:=(p.1-q.1,p.2-q.2)) x.o t.o Zf zP R.o zO);have k0:=Zf.c (i:=0) rfl;have y0':=Zf.frozen 0;have k1:=Zf.c (i:=1) rfl;have y1':=Zf.frozen 1;have k2:=Zf.c (i:=2) rfl;have y2':=Zf.frozen 2;have k3:=Zf.c (i:=3) rfl;have y3':=Zf.frozen 3;have k4:=Zf.c (i:=4) rfl;have y4':=Zf.frozen 4;have k5:=Zf.c (i:=5) rfl;have y5':=Zf.frozen 5;clear Zf;clear b r1)))
 go_wp2_with fail
 refine bodyPost_ret (v:=.agg #[.bool g0,.slice G0 gn0 gc0,.slice H0 M N,.bool g1,.slice G1 gn1 gc1,.slice H1 P Q]) (by simp[results,results182,go_sem,k0,k1,k2,k3,k4,k5]) rfl ?_;exact HF.o
theorem qR(v u:Value)(j k:Nat)(p q:Rat×Rat)(w:World)(Y:PtA w v j p)(Z:PtA w u k q)(H:1<=j)(I:1<=k)(y:j<=100000)(z:k<=100000) :
  CP 265 #[v,u] w (I7 (p.1+q.1,p.2+q.2) w):=by
 obtain⟨a0,a1,a2,a3,a4,a5,rfl,B,C⟩:=Y;obtain⟨b0,b1,b2,b3,b4,b5,rfl,D,E⟩:=Z;have r:=zH (zu2 B (zu2 C (zu2 D E)));clear B C D E;have J:Bw w (zw (zw (zw w #[a0,a1,a2,a3,a4,a5] 284) #[b0,b1,b2,b3,b4,b5] 284) #[zF,zn,zn,zF,zn,zn] 284):=(((zJ.alloc zP _).alloc zP _).alloc zQ _);have m:Hid (Blk (zw (zw (zw w #[a0,a1,a2,a3,a4,a5] 284) #[b0,b1,b2,b3,b4,b5] 284) #[zF,zn,zn,zF,zn,zn] 284) w.heap.size 284 #[a0,a1,a2,a3,a4,a5]):=zH ((((Blk.new w 284 #[a0,a1,a2,a3,a4,a5]).alloc _).alloc _));have n:Hid (Blk (zw (zw (zw w #[a0,a1,a2,a3,a4,a5] 284) #[b0,b1,b2,b3,b4,b5] 284) #[zF,zn,zn,zF,zn,zn] 284) (w.heap.size+1) 284 #[b0,b1,b2,b3,b4,b5]):=zH (((Blk.new' (zw w #[a0,a1,a2,a3,a4,a5] 284) 284 #[b0,b1,b2,b3,b4,b5] zP).alloc _));have K:Hid (Blk (zw (zw (zw w #[a0,a1,a2,a3,a4,a5] 284) #[b0,b1,b2,b3,b4,b5] 284) #[zF,zn,zn,zF,zn,zn] 284) (w.heap.size+1+1) 284 #[zF,zn,zn,zF,zn,zn]):=zH ((Blk.new' (zw (zw w #[a0,a1,a2,a3,a4,a5] 284) #[b0,b1,b2,b3,b4,b5] 284) 284 #[zF,zn,zn,zF,zn,zn] zP));have l:=zH J;clear J;have ne01:¬w.heap.size=w.heap.size+1:=zO;have ne02:¬w.heap.size=w.heap.size+1+1:=zO;have ne10:¬w.heap.size+1=w.heap.size:=zO;have ne12:¬w.heap.size+1=w.heap.size+1+1:=zO;have ne20:¬w.heap.size+1+1=w.heap.size:=zO;have ne21:¬w.heap.size+1+1=w.heap.size+1:=zO
 have S:=Ak (m.o);have T:=Ak (n.o);go_enter func265,ntmps265
 go_upto_region 1 with fail
 go_region_held3(λw'=>w'.cell? (ad w.heap.size 0)=some a0∧w'.cell? (ad w.heap.size 1)=some a1∧w'.cell? (ad w.heap.size 2)=some a2∧w'.cell? (ad w.heap.size 3)=some a3∧w'.cell? (ad w.heap.size 4)=some a4∧w'.cell? (ad w.heap.size 5)=some a5∧w'.cell? (ad (w.heap.size+1) 0)=some b0∧w'.cell? (ad (w.heap.size+1) 1)=some b1∧w'.cell? (ad (w.heap.size+1) 2)=some b2∧w'.cell? (ad (w.heap.size+1) 3)=some b3∧w'.cell? (ad (w.heap.size+1) 4)=some b4∧w'.cell? (ad (w.heap.size+1) 5)=some b5)
  (go_keep)
  (first
  | (go_at_call_of 270 (Value.agg #[a0,a1,a2]);go_must((refine(OU _ _ j k p.1 q.1 _ (by exact r.o.1.on l.o.drew) (by exact r.o.2.2.1.on l.o.drew) H I y z).mono ?_);rintro e w3 L;obtain⟨g0,G0,gn0,gc0,H0,M,N,rfl,r0,a⟩:=C8 L;have f:=zH (show Bw (zw (zw (zw w #[a0,a1,a2,a3,a4,a5] 284) #[b0,b1,b2,b3,b4,b5] 284) #[zF,zn,zn,zF,zn,zn] 284) w3 from(zX a));have F:=zH (zT l.o f.o);have U:=Ak (m.o.below f.o);have V:=Ak (n.o.below f.o);have s:=zH r0;clear a r0))
  | (go_at_call 270;go_must((refine(OU _ _ j k p.2 q.2 _ (by exact r.o.2.1.on F.o) (by exact r.o.2.2.2.on F.o) H I y z).mono ?_);rintro e w4 O;obtain⟨g1,G1,gn1,gc1,H1,P,Q,rfl,r1,b⟩:=C8 O;have G:=zH (show Bw w3 w4 from(zX b));have g:=zH (zT f.o G.o);have R:=zH (zT l.o g.o);have W:=Ak (m.o.below g.o);have X:=Ak (n.o.below g.o);have t:=zH r1;have x:=zH (s.o.on G.o);have Zf:=K.o.below g.o;have HF:=zH (Ns (p:=(p.1+q.1,p.2+q.2)) x.o t.o Zf zP R.o zO);have k0:=Zf.c (i:=0) rfl;have y0':=Zf.frozen 0;have k1:=Zf.c (i:=1) rfl;have y1':=Zf.frozen 1;have k2:=Zf.c (i:=2) rfl;have y2':=Zf.frozen 2;have k3:=Zf.c (i:=3) rfl;have y3':=Zf.frozen 3;have k4:=Zf.c (i:=4) rfl;have y4':=Zf.frozen 4;have k5:=Zf.c (i:=5) rfl;have y5':=Zf.frozen 5;clear Zf;clear b r1)))
 go_wp2_with fail
 refine bodyPost_ret (v:=.agg #[.bool g0,.slice G0 gn0 gc0,.slice H0 M N,.bool g1,.slice G1 gn1 gc1,.slice H1 P Q]) (by simp[results,results265,go_sem,k0,k1,k2,k3,k4,k5]) rfl ?_;exact HF.o
theorem BK.letters(h:BK w v k q):∃a b c,v=.agg #[a,b,c]∧BK w (.agg #[a,b,c]) k q:=by
 have e:=h;obtain⟨f,A,n,c,B,m,d,x,y,rfl,_⟩:=h;exact⟨_,_,_,rfl,e⟩
theorem Jt(v u:Value)(j k:Nat)(p q:Rat×Rat)(w:World)(ha:PtA w v j p)(hb:PtA w u k q)(E:1<=j)(F:1<=k)(aa:j<=10000)(ab:k<=10000) :
  CP 222 #[v,u] w (KL (p.1*q.2-p.2*q.1) w):=by
 obtain⟨a0,a1,a2,a3,a4,a5,rfl,y,z⟩:=ha;obtain⟨b0,b1,b2,b3,b4,b5,rfl,B,C⟩:=hb;have G:=zH (zu2 y (zu2 z (zu2 B C)));have L:=zH (zu2 (IS (y.qk E) (C.qk F)) (IS (z.qk E) (B.qk F)));clear y z B C;have M:Bw w (zw (zw (zw w #[a0,a1,a2,a3,a4,a5] 284) #[b0,b1,b2,b3,b4,b5] 284) #[zF,zn,zn] 217):=(((zJ.alloc zP _).alloc zP _).alloc zQ _);have n:Hid (Blk (zw (zw (zw w #[a0,a1,a2,a3,a4,a5] 284) #[b0,b1,b2,b3,b4,b5] 284) #[zF,zn,zn] 217) w.heap.size 284 #[a0,a1,a2,a3,a4,a5]):=zH ((((Blk.new w 284 #[a0,a1,a2,a3,a4,a5]).alloc _).alloc _));have r:Hid (Blk (zw (zw (zw w #[a0,a1,a2,a3,a4,a5] 284) #[b0,b1,b2,b3,b4,b5] 284) #[zF,zn,zn] 217) (w.heap.size+1) 284 #[b0,b1,b2,b3,b4,b5]):=zH (((Blk.new' (zw w #[a0,a1,a2,a3,a4,a5] 284) 284 #[b0,b1,b2,b3,b4,b5] zP).alloc _));have N:Hid (Blk (zw (zw (zw w #[a0,a1,a2,a3,a4,a5] 284) #[b0,b1,b2,b3,b4,b5] 284) #[zF,zn,zn] 217) (w.heap.size+1+1) 217 #[zF,zn,zn]):=zH ((Blk.new' (zw (zw w #[a0,a1,a2,a3,a4,a5] 284) #[b0,b1,b2,b3,b4,b5] 284) 217 #[zF,zn,zn] zP));have g:=zH M;clear M;have ne01:¬w.heap.size=w.heap.size+1:=zO;have ne02:¬w.heap.size=w.heap.size+1+1:=zO;have ne10:¬w.heap.size+1=w.heap.size:=zO;have ne12:¬w.heap.size+1=w.heap.size+1+1:=zO;have ne20:¬w.heap.size+1+1=w.heap.size:=zO;have ne21:¬w.heap.size+1+1=w.heap.size+1:=zO
 have U:=Ak (n.o);have V:=Ak (r.o);go_enter func222,ntmps222
 go_upto_region 1 with fail
 go_region_held3(λw'=>w'.cell? (ad w.heap.size 0)=some a0∧w'.cell? (ad w.heap.size 1)=some a1∧w'.cell? (ad w.heap.size 2)=some a2∧w'.cell? (ad w.heap.size 3)=some a3∧w'.cell? (ad w.heap.size 4)=some a4∧w'.cell? (ad w.heap.size 5)=some a5∧w'.cell? (ad (w.heap.size+1) 0)=some b0∧w'.cell? (ad (w.heap.size+1) 1)=some b1∧w'.cell? (ad (w.heap.size+1) 2)=some b2∧w'.cell? (ad (w.heap.size+1) 3)=some b3∧w'.cell? (ad (w.heap.size+1) 4)=some b4∧w'.cell? (ad (w.heap.size+1) 5)=some b5)
  (go_keep)
  (first
  | (go_at_call_of 264 (Value.agg #[a0,a1,a2]);go_must((refine(LW _ _ j k p.1 q.2 _ (by exact G.o.1.on g.o.drew) (by exact G.o.2.2.2.on g.o.drew) E F zO zO).mono ?_);rintro e w3 O;obtain⟨g0,G0,gn0,gc0,H0,ac,ae,rfl,r0,a⟩:=C8 O;have l:=zH (show Bw (zw (zw (zw w #[a0,a1,a2,a3,a4,a5] 284) #[b0,b1,b2,b3,b4,b5] 284) #[zF,zn,zn] 217) w3 from(zX a));have J:=zH (zT g.o l.o);have W:=Ak (n.o.below l.o);have X:=Ak (r.o.below l.o);have H:=zH r0;clear a r0))
  | (go_at_call 264;go_must((refine(LW _ _ j k p.2 q.1 _ (by exact G.o.2.1.on J.o) (by exact G.o.2.2.1.on J.o) E F zO zO).mono ?_);rintro e w4 P;obtain⟨g1,G1,gn1,gc1,H1,af,ag,rfl,r1,b⟩:=C8 P;have K:=zH (show Bw w3 w4 from(zX b));have m:=zH (zT l.o K.o);have ah:=zH (zT g.o m.o);have Y:=Ak (n.o.below m.o);have Z:=Ak (r.o.below m.o);have s:=zH r1;have t:=zH (H.o.on K.o);clear b r1))
  | (go_at_call 226;go_must((refine(OV _ _ (j+k) (j+k) (p.1*q.2) (p.2*q.1) _ (t.o.A L.o.1) (s.o.A L.o.2) zO zO zO zO).mono ?_);rintro e w5 Q;obtain⟨g2,G2,gn2,gc2,H2,R,S,rfl,r2,f⟩:=C8 Q;have D:=zH (show Bw w4 w5 from(zX f));have x:=zH (zT m.o D.o);have T:=zH (zT g.o x.o);have a6:=Ak (n.o.below x.o);have a7:=Ak (r.o.below x.o);have I:=zH r2;have a8:=zH (t.o.on D.o);have a9:=zH (s.o.on D.o);have Zf:=N.o.below x.o;have HF:=zH (Aat (q:=p.1*q.2-p.2*q.1) I.o Zf zP T.o zO);have k0:=Zf.c (i:=0) rfl;have y0':=Zf.frozen 0;have k1:=Zf.c (i:=1) rfl;have y1':=Zf.frozen 1;have k2:=Zf.c (i:=2) rfl;have y2':=Zf.frozen 2;clear Zf;clear f r2)))
 go_wp2_with fail
 refine bodyPost_ret (v:=.agg #[.bool g2,.slice G2 gn2 gc2,.slice H2 R S]) (by simp[results,results222,go_sem,k0,k1,k2]) rfl ?_;exact HF.o
theorem aC(v u:Value)(j k:Nat)(p:Rat×Rat)(q:Rat)(w:World)(X:PtA w v j p)(Y:BK w u k q)(G:1<=j)(H:1<=k)(y:j<=100000)(z:k<=100000) :
  CP 266 #[v,u] w (I7 (p.1*q,p.2*q) w):=by
 obtain⟨a0,a1,a2,a3,a4,a5,rfl,B,C⟩:=X;obtain⟨b0,b1,b2,rfl,D⟩:=Y.letters;have r:=zH (zu2 B (zu2 C D));clear B C D;have I:Bw w (zw (zw (zw w #[a0,a1,a2,a3,a4,a5] 284) #[b0,b1,b2] 217) #[zF,zn,zn,zF,zn,zn] 284):=(((zJ.alloc zP _).alloc zP _).alloc zQ _);have m:Hid (Blk (zw (zw (zw w #[a0,a1,a2,a3,a4,a5] 284) #[b0,b1,b2] 217) #[zF,zn,zn,zF,zn,zn] 284) w.heap.size 284 #[a0,a1,a2,a3,a4,a5]):=zH ((((Blk.new w 284 #[a0,a1,a2,a3,a4,a5]).alloc _).alloc _));have n:Hid (Blk (zw (zw (zw w #[a0,a1,a2,a3,a4,a5] 284) #[b0,b1,b2] 217) #[zF,zn,zn,zF,zn,zn] 284) (w.heap.size+1) 217 #[b0,b1,b2]):=zH (((Blk.new' (zw w #[a0,a1,a2,a3,a4,a5] 284) 217 #[b0,b1,b2] zP).alloc _));have J:Hid (Blk (zw (zw (zw w #[a0,a1,a2,a3,a4,a5] 284) #[b0,b1,b2] 217) #[zF,zn,zn,zF,zn,zn] 284) (w.heap.size+1+1) 284 #[zF,zn,zn,zF,zn,zn]):=zH ((Blk.new' (zw (zw w #[a0,a1,a2,a3,a4,a5] 284) #[b0,b1,b2] 217) 284 #[zF,zn,zn,zF,zn,zn] zP));have l:=zH I;clear I;have ne01:¬w.heap.size=w.heap.size+1:=zO;have ne02:¬w.heap.size=w.heap.size+1+1:=zO;have ne10:¬w.heap.size+1=w.heap.size:=zO;have ne12:¬w.heap.size+1=w.heap.size+1+1:=zO;have ne20:¬w.heap.size+1+1=w.heap.size:=zO;have ne21:¬w.heap.size+1+1=w.heap.size+1:=zO;have R:=Ak (m.o);have S:=CT (n.o);go_enter func266,ntmps266
 go_upto_region 1 with fail
 go_region_held3(λw'=>w'.cell? (ad w.heap.size 0)=some a0∧w'.cell? (ad w.heap.size 1)=some a1∧w'.cell? (ad w.heap.size 2)=some a2∧w'.cell? (ad w.heap.size 3)=some a3∧w'.cell? (ad w.heap.size 4)=some a4∧w'.cell? (ad w.heap.size 5)=some a5∧w'.cell? (ad (w.heap.size+1) 0)=some b0∧w'.cell? (ad (w.heap.size+1) 1)=some b1∧w'.cell? (ad (w.heap.size+1) 2)=some b2)
  (go_keep)
  (first
  | (go_at_call_of 264 (Value.agg #[a0,a1,a2]);go_must((refine(LW _ _ j k p.1 q _ (by exact r.o.1.on l.o.drew) (by exact r.o.2.2.on l.o.drew) G H y z).mono ?_);rintro e w3 K;obtain⟨g0,G0,gn0,gc0,Z,L,M,rfl,r0,a⟩:=C8 K;have f:=zH (show Bw (zw (zw (zw w #[a0,a1,a2,a3,a4,a5] 284) #[b0,b1,b2] 217) #[zF,zn,zn,zF,zn,zn] 284) w3 from(zX a));have E:=zH (zT l.o f.o);have T:=Ak (m.o.below f.o);have U:=CT (n.o.below f.o);have s:=zH r0;clear a r0))
  | (go_at_call 264;go_must((refine(LW _ _ j k p.2 q _ (by exact r.o.2.1.on E.o) (by exact r.o.2.2.on E.o) G H y z).mono ?_);rintro e w4 N;obtain⟨g1,G1,gn1,gc1,H1,O,P,rfl,r1,b⟩:=C8 N;have F:=zH (show Bw w3 w4 from(zX b));have g:=zH (zT f.o F.o);have Q:=zH (zT l.o g.o);have V:=Ak (m.o.below g.o);have W:=CT (n.o.below g.o);have t:=zH r1;have x:=zH (s.o.on F.o);have Zf:=J.o.below g.o;have HF:=zH (Ns (p:=(p.1*q,p.2*q)) x.o t.o Zf zP Q.o zO);have k0:=Zf.c (i:=0) rfl;have y0':=Zf.frozen 0;have k1:=Zf.c (i:=1) rfl;have y1':=Zf.frozen 1;have k2:=Zf.c (i:=2) rfl;have y2':=Zf.frozen 2;have k3:=Zf.c (i:=3) rfl;have y3':=Zf.frozen 3;have k4:=Zf.c (i:=4) rfl;have y4':=Zf.frozen 4;have k5:=Zf.c (i:=5) rfl;have y5':=Zf.frozen 5;clear Zf;clear b r1)))
 go_wp2_with fail
 refine bodyPost_ret (v:=.agg #[.bool g0,.slice G0 gn0 gc0,.slice Z L M,.bool g1,.slice G1 gn1 gc1,.slice H1 O P]) (by simp[results,results266,go_sem,k0,k1,k2,k3,k4,k5]) rfl ?_;exact HF.o
end Go.Proofs.YteafekbddckemaaGreatDoor
