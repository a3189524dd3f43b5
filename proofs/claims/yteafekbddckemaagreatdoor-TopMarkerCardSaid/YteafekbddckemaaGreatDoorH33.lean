/- Parts of the proof. -/
import Derived.Test.YteafekbddckemaaGreatDoorH32
set_option maxRecDepth 100000
set_option maxHeartbeats 40000000
namespace Go.Proofs.YteafekbddckemaaGreatDoor
open Tryz Go.RowKit
open Go.Lib hiding intOf
variable{T:TypeId}{a c d:Pt}{b g j k r s:Nat}{cs:aV}{e:Ending}{p q x y:Rat}{u u1 w w' w4:World}{v:Value}
theorem Kb(a:qk p j)(b:qk q k):qk (p-q) (j+k+1):=by
 rw[Rat.sub_eq_add_neg];exact T2 a (eN b)
theorem Vj{a b c d e f:Value}{p:Rat×Rat}(h:PtN w4 (.agg #[a,b,c,d,e,f]) p)(j:Blk w4 r T cs)(g:∀v∈cs.toList,∀x,v≠.int .u32 x)(k:Bw w w4)(l:w.heap.size<=r) :
  I7 p w (.returned (.agg #[a,b,c,d,e,f])) ((((((w4.setCell (ad r 0) a).setCell (ad r 1) b).setCell (ad r 2) c).setCell (ad r 3) d).setCell (ad r 4) e).setCell (ad r 5) f):=by
 obtain⟨a0,a1,a2,a3,a4,a5,i,m,n⟩:=h;simp only[Value.agg.injEq,Array.mk.injEq,List.cons.injEq,and_true]at i;obtain⟨rfl,rfl,rfl,rfl,rfl,rfl⟩:=i;exact Ns m n j g k l
theorem qS(v u t:Value)(j k l:Nat)(p q:Rat×Rat)(r:Rat)(w:World)(ha:PtA w v j p)(hb:PtA w u k q)(R:BK w t l r)(I:1<=j)(P:1<=k)(Q:1<=l)(an:j<=10000)(ao:k<=10000)(ap:l<=10000) :
  CP 223 #[v,u,t] w (I7 (p.1+(q.1-p.1)*r,p.2+(q.2-p.2)*r) w):=by
 obtain⟨a0,a1,a2,a3,a4,a5,rfl,D,E⟩:=ha;obtain⟨b0,b1,b2,b3,b4,b5,rfl,F,G⟩:=hb;obtain⟨d0,d1,d2,rfl,J⟩:=R.letters;have q1:=Kb (F.qk P) (D.qk I);have q2:=Kb (G.qk P) (E.qk I);have K:=zH (zu2 q1 (zu2 q2 (zu2 (IS q1 (J.qk Q)) (IS q2 (J.qk Q)))));have L:=zH (show PtA w (.agg #[a0,a1,a2,a3,a4,a5]) j p∧PtA w (.agg #[b0,b1,b2,b3,b4,b5]) k q∧BK w (.agg #[d0,d1,d2]) l r from⟨⟨_,_,_,_,_,_,rfl,D,E⟩,⟨_,_,_,_,_,_,rfl,F,G⟩,J⟩);clear D E F G J q1 q2 R;have S:Bw w (zw (zw (zw (zw w #[a0,a1,a2,a3,a4,a5] 284) #[b0,b1,b2,b3,b4,b5] 284) #[d0,d1,d2] 217) #[zF,zn,zn,zF,zn,zn] 284):=((((zJ.alloc zP _).alloc zP _).alloc zQ _).alloc zQ _);have x:Hid (Blk (zw (zw (zw (zw w #[a0,a1,a2,a3,a4,a5] 284) #[b0,b1,b2,b3,b4,b5] 284) #[d0,d1,d2] 217) #[zF,zn,zn,zF,zn,zn] 284) w.heap.size 284 #[a0,a1,a2,a3,a4,a5]):=zH (((((Blk.new w 284 #[a0,a1,a2,a3,a4,a5]).alloc _).alloc _).alloc _));have y:Hid (Blk (zw (zw (zw (zw w #[a0,a1,a2,a3,a4,a5] 284) #[b0,b1,b2,b3,b4,b5] 284) #[d0,d1,d2] 217) #[zF,zn,zn,zF,zn,zn] 284) (w.heap.size+1) 284 #[b0,b1,b2,b3,b4,b5]):=zH ((((Blk.new' (zw w #[a0,a1,a2,a3,a4,a5] 284) 284 #[b0,b1,b2,b3,b4,b5] zP).alloc _).alloc _))
 have z:Hid (Blk (zw (zw (zw (zw w #[a0,a1,a2,a3,a4,a5] 284) #[b0,b1,b2,b3,b4,b5] 284) #[d0,d1,d2] 217) #[zF,zn,zn,zF,zn,zn] 284) (w.heap.size+1+1) 217 #[d0,d1,d2]):=zH (((Blk.new' (zw (zw w #[a0,a1,a2,a3,a4,a5] 284) #[b0,b1,b2,b3,b4,b5] 284) 217 #[d0,d1,d2] zP).alloc _));have T:Hid (Blk (zw (zw (zw (zw w #[a0,a1,a2,a3,a4,a5] 284) #[b0,b1,b2,b3,b4,b5] 284) #[d0,d1,d2] 217) #[zF,zn,zn,zF,zn,zn] 284) (w.heap.size+1+1+1) 284 #[zF,zn,zn,zF,zn,zn]):=zH ((Blk.new' (zw (zw (zw w #[a0,a1,a2,a3,a4,a5] 284) #[b0,b1,b2,b3,b4,b5] 284) #[d0,d1,d2] 217) 284 #[zF,zn,zn,zF,zn,zn] zP));have n:=zH S;clear S;have ne01:¬w.heap.size=w.heap.size+1:=zO;have ne02:¬w.heap.size=w.heap.size+1+1:=zO;have ne03:¬w.heap.size=w.heap.size+1+1+1:=zO;have ne10:¬w.heap.size+1=w.heap.size:=zO;have ne12:¬w.heap.size+1=w.heap.size+1+1:=zO;have ne13:¬w.heap.size+1=w.heap.size+1+1+1:=zO;have ne20:¬w.heap.size+1+1=w.heap.size:=zO;have ne21:¬w.heap.size+1+1=w.heap.size+1:=zO;have ne23:¬w.heap.size+1+1=w.heap.size+1+1+1:=zO;have ne30:¬w.heap.size+1+1+1=w.heap.size:=zO;have ne31:¬w.heap.size+1+1+1=w.heap.size+1:=zO;have ne32:¬w.heap.size+1+1+1=w.heap.size+1+1:=zO;have a8:=Ak (x.o);have a9:=Ak (y.o);have aa:=CT (z.o)
 go_enter func223,ntmps223
 go_upto_region 1 with fail
 go_region_held3(λw'=>w'.cell? (ad w.heap.size 0)=some a0∧w'.cell? (ad w.heap.size 1)=some a1∧w'.cell? (ad w.heap.size 2)=some a2∧w'.cell? (ad w.heap.size 3)=some a3∧w'.cell? (ad w.heap.size 4)=some a4∧w'.cell? (ad w.heap.size 5)=some a5∧w'.cell? (ad (w.heap.size+1) 0)=some b0∧w'.cell? (ad (w.heap.size+1) 1)=some b1∧w'.cell? (ad (w.heap.size+1) 2)=some b2∧w'.cell? (ad (w.heap.size+1) 3)=some b3∧w'.cell? (ad (w.heap.size+1) 4)=some b4∧w'.cell? (ad (w.heap.size+1) 5)=some b5∧w'.cell? (ad (w.heap.size+1+1) 0)=some d0∧w'.cell? (ad (w.heap.size+1+1) 1)=some d1∧w'.cell? (ad (w.heap.size+1+1) 2)=some d2)
  (go_keep)
  (first
  | (go_at_call 182;go_must((refine(FR _ _ k j q p _ (by exact L.o.2.1.on n.o.drew) (by exact L.o.1.on n.o.drew) P I zO zO).mono ?_);rintro e w3 U;obtain⟨g0,G0,gn0,gc0,H0,aq,ar,e0,E0,en0,ec0,F0,fm0,fd0,rfl,r0,a⟩:=C9 U;have b:=zH (show Bw (zw (zw (zw (zw w #[a0,a1,a2,a3,a4,a5] 284) #[b0,b1,b2,b3,b4,b5] 284) #[d0,d1,d2] 217) #[zF,zn,zn,zF,zn,zn] 284) w3 from(zX a));have V:=zH (zT n.o b.o);have ab:=Ak (x.o.below b.o);have ac:=Ak (y.o.below b.o);have ae:=CT (z.o.below b.o);have B:=zH r0;clear a r0))
  | (go_at_call 266;go_must((refine(aC _ _ (k+j+1) l (q.1-p.1,q.2-p.2) r _ (by exact B.o.A K.o.1 K.o.2.1) (by exact L.o.2.2.on V.o) zO Q zO zO).mono ?_);rintro e w4 W;obtain⟨g1,G1,gn1,gc1,H1,au,av,e1,E1,en1,ec1,F1,fm1,fd1,rfl,r1,f⟩:=C9 W;have O:=zH (show Bw w3 w4 from(zX f));have g:=zH (zT b.o O.o);have X:=zH (zT n.o g.o);have af:=Ak (x.o.below g.o);have ag:=Ak (y.o.below g.o);have ah:=CT (z.o.below g.o);have C:=zH r1;have M:=zH (B.o.on O.o);clear f r1))
  | (go_at_call 265;go_must((refine(qR _ _ j (k+j+1+l) p ((q.1-p.1)*r,(q.2-p.2)*r) _ (by exact L.o.1.on X.o) (by exact C.o.A K.o.2.2.1 K.o.2.2.2) I zO zO zO).mono ?_);rintro e w5 Y;obtain⟨g2,G2,gn2,gc2,H2,Z,a6,e2,E2,en2,ec2,F2,fm2,fd2,rfl,r2,m⟩:=C9 Y;have H:=zH (show Bw w4 w5 from(zX m));have s:=zH (zT g.o H.o);have a7:=zH (zT n.o s.o);have ai:=Ak (x.o.below s.o);have aj:=Ak (y.o.below s.o);have ak:=CT (z.o.below s.o);have N:=zH r2;have al:=zH (M.o.on H.o);have am:=zH (C.o.on H.o);have Zf:=T.o.below s.o;have HF:=zH (Vj (p:=(p.1+(q.1-p.1)*r,p.2+(q.2-p.2)*r)) N.o Zf zP a7.o zO);have k0:=Zf.c (i:=0) rfl;have y0':=Zf.frozen 0;have k1:=Zf.c (i:=1) rfl;have y1':=Zf.frozen 1;have k2:=Zf.c (i:=2) rfl;have y2':=Zf.frozen 2;have k3:=Zf.c (i:=3) rfl;have y3':=Zf.frozen 3;have k4:=Zf.c (i:=4) rfl;have y4':=Zf.frozen 4;have k5:=Zf.c (i:=5) rfl;have y5':=Zf.frozen 5;clear Zf;clear m r2)))
 go_wp2_with fail
 refine bodyPost_ret (v:=.agg #[.bool g2,.slice G2 gn2 gc2,.slice H2 Z a6,.bool e2,.slice E2 en2 ec2,.slice F2 fm2 fd2]) (by simp[results,results223,go_sem,k0,k1,k2,k3,k4,k5]) rfl ?_;exact HF.o
theorem I7.alloc{p:Rat×Rat}(h:I7 p w e w')(o:Obj):I7 p w e (w'.alloc o):=by
 obtain⟨v,b,f,a⟩:=h;exact⟨v,b,f.on (zA _),a.alloc a.size _⟩
theorem wF{p:Rat×Rat}(h:PtN w v p):∃g A n c B m d g' A' n' c' B' m' d',v=.agg #[.bool g,.slice A n c,.slice B m d,.bool g',.slice A' n' c',.slice B' m' d']:=by
 obtain⟨_,_,_,_,_,_,_,_,_,_,_,_,_,_,a,_⟩:=C9 (w:=w) (p:=p) ⟨v,rfl,h,zJ⟩;injection a with a
 exact⟨_,_,_,_,_,_,_,_,_,_,_,_,_,_,a⟩
theorem wG(x y:Int)(w:World)(z:x.natAbs<4611686018427387904)(B:y.natAbs<4611686018427387904) :
  CP 224 #[zi x,zi y] w (I7 ((x:Rat),(y:Rat)) w):=by
 have C:=zH (Blk.new w 284 #[zF,zn,zn,zF,zn,zn]);have m:Bw w (zw w #[zF,zn,zn,zF,zn,zn] 284):=zA _;have B3:∀(W:World){o:Obj},Bw W (W.alloc o):=λW _=>zA _
 have D:=zH (λW=>XT x W z);have n:=zH (λW=>XT y W B);go_enter func224,ntmps224
 go_wp2_with fail
 refine(D.o _).mono ?_;rintro e w1 q;obtain⟨g0,G0,gn0,gc0,g,a,b,rfl,r0,j⟩:=Qu q;have Y1:=C.o.below j;have B1:=zT m j;have R0:=zH (r0.on (B3 w1 (o:=.cells #[.bool g0,.slice G0 gn0 gc0,.slice g a b] 217)));have X1:=Blk.new w1 217 #[.bool g0,.slice G0 gn0 gc0,.slice g a b];have Y2:=Y1.alloc (.cells #[.bool g0,.slice G0 gn0 gc0,.slice g a b] 217);have B2:=B1.trans ((B3 w1 (o:=.cells #[.bool g0,.slice G0 gn0 gc0,.slice g a b] 217)).mono B1.size);have G:=Y1.lt;clear q r0 j Y1 m
 go_wp2_with fail
 refine(n.o _).mono ?_;rintro e w2 r;obtain⟨g1,G1,gn1,gc1,s,k,l,rfl,r1,f⟩:=Qu r;have Y3:=Y2.below f;have X3:=X1.below f;have B4:=zT B2 f;have F:=X3.lt;have t:=Y3.lt;have E:=zH ((Ns (p:=((x:Rat),(y:Rat))) (R0.out.on f) r1 Y3 zP B4 (zs2 _)).alloc (.cells #[.bool g1,.slice G1 gn1 gc1,.slice s k l] 217));have x0:=X3.c (i:=0) rfl;have x1:=X3.c (i:=1) rfl;have x2:=X3.c (i:=2) rfl;have k0:=Y3.c (i:=0) rfl;have z0:=Y3.frozen 0;have k1:=Y3.c (i:=1) rfl;have z1:=Y3.frozen 1;have k2:=Y3.c (i:=2) rfl;have z2:=Y3.frozen 2;have k3:=Y3.c (i:=3) rfl;have z3:=Y3.frozen 3;have k4:=Y3.c (i:=4) rfl;have z4:=Y3.frozen 4;have k5:=Y3.c (i:=5) rfl;have z5:=Y3.frozen 5;clear r r1 f Y2 X1 B2
 go_wp2_with fail
 refine bodyPost_ret (v:=.agg #[.bool g0,.slice G0 gn0 gc0,.slice g a b,.bool g1,.slice G1 gn1 gc1,.slice s k l]) (by simp[results,results224,go_sem,k0,k1,k2,k3,k4,k5,t]) rfl ?_;exact E.o
def toQ(p:Pt):Rat×Rat:=((p.1:Rat),(p.2:Rat))
theorem IY(p:Pt)(w:World)(l:p.1.natAbs<4611686018427387904)(m:p.2.natAbs<4611686018427387904) :
  CP 180 #[.agg #[zi p.1,zi p.2]] w (I7 (toQ p) w):=by
 have n:=zH (Blk.new' (zw w #[zi p.1,zi p.2] 56) 284 #[zF,zn,zn,zF,zn,zn] (g:=w.heap.size+1) zP);have b:Bw w (zw (zw w #[zi p.1,zi p.2] 56) #[zF,zn,zn,zF,zn,zn] 284):=(zA _).alloc zP _;go_enter func180,ntmps180
 go_wp2_with fail
 refine(wG p.1 p.2 _ l m).mono ?_;rintro e w2 f;obtain⟨g2,G2,gn2,gc2,q,j,k,e2,E2,en2,ec2,F2,fm2,fd2,rfl,r1,a⟩:=C9 f;have Y3:=n.o.below a;have B4:=zT b a;have r:=zH (Vj r1 Y3 zP B4 zO);have k0:=Y3.c (i:=0) rfl;have z0:=Y3.frozen 0;have k1:=Y3.c (i:=1) rfl;have z1:=Y3.frozen 1;have k2:=Y3.c (i:=2) rfl;have z2:=Y3.frozen 2;have k3:=Y3.c (i:=3) rfl;have z3:=Y3.frozen 3;have k4:=Y3.c (i:=4) rfl;have z4:=Y3.frozen 4;have k5:=Y3.c (i:=5) rfl;have z5:=Y3.frozen 5;clear f r1 a Y3 B4 b
 go_wp2_with fail
 refine bodyPost_ret (v:=.agg #[.bool g2,.slice G2 gn2 gc2,.slice q j k,.bool e2,.slice E2 en2 ec2,.slice F2 fm2 fd2]) (by simp[results,results180,go_sem,k0,k1,k2,k3,k4,k5]) rfl ?_;exact r.o
def To(x:Option Pt)(w:World)(e:Ending)(w':World):Prop:=Bw w w'∧match x with
 | some r=>e=.returned (.tuple #[.agg #[zi r.1,zi r.2],zi 0])
 | none=>e=.returned (.tuple #[.agg #[zi 0,zi 0],zi 3])
theorem Vk(h:¬(-1048576<=BH x∧BH x<=1048576)∨¬(-1048576<=BH y∧BH y<=1048576)):IA x y=none:=by
 unfold IA;rw[if_pos zO]
theorem jK(h : -1048576<=BH x∧BH x<=1048576)(a : -1048576<=BH y∧BH y<=1048576):IA x y=some (BH x,BH y):=by
 unfold IA;rw[if_neg zO]
theorem Vl(v:Value)(k:Nat)(p:Rat×Rat)(w:World)(I:PtA w v k p)(F:1<=k)(t:k<=100000) :
  CP 181 #[v] w (To (IA p.1 p.2) w):=by
 obtain⟨a0,a1,a2,a3,a4,a5,rfl,z,B⟩:=I;have J:=zH ((Blk.new w 284 #[a0,a1,a2,a3,a4,a5]).alloc (.cells #[zi 0,zi 0] 56));have K:=zH (Blk.new' (zw w #[a0,a1,a2,a3,a4,a5] 284) 56 #[zi 0,zi 0] (g:=w.heap.size+1) zP);have s:Bw w (zw (zw w #[a0,a1,a2,a3,a4,a5] 284) #[zi 0,zi 0] 56):=(zA _).alloc zP _;have G:=zH (zu2 z B);clear z B;go_enter func181,ntmps181
 go_wp2_with fail
 refine(Sv _ k p.1 _ (G.o.1.on s) F t).mono ?_;rintro e w1 ⟨z1,ok1,rfl,C,b,a⟩;have f:=zH (zu2 C b);clear C b;have X1:=J.o.below a;have Y1:=K.o.below a;have B1:=zT s a;obtain⟨x0,x1,x2,x3,x4,x5⟩:=Ak X1;clear a s X1
 go_wp2_with fail
 refine(Sv _ k p.2 _ (G.o.2.on B1) F t).mono ?_;rintro e w2 ⟨z2,ok2,rfl,D,j,l⟩;have m:=zH (zu2 D j);clear D j;have Y2:=Y1.below l;have B2:=zT B1 l;have k0:=Y2.c (i:=0) (v:=zi 0) rfl;have k1:=Y2.c (i:=1) (v:=zi 0) rfl;have f0:=Y2.frozen 0;have f1:=Y2.frozen 1;have E:=zH λu0 u1=>(B2.setCell (p:=ad (w.heap.size+1) 0) (zt1 _) u0).setCell (p:=ad (w.heap.size+1) 1) (zt1 _) u1
 clear l B1 B2 Y1 Y2 x0 x1 x2 x3 x4 x5;by_cases n:ok1=true
 ·by_cases q:ok2=true
  ·obtain rfl:=f.o.1 n;obtain rfl:=m.o.1 q;have H:=jK (f.o.2.1 n) (m.o.2.1 q);have r:=zH H;clear H;subst n q
   go_wp2_with fail
   refine bodyPost_ret (v:=.tuple #[.agg #[zi (BH p.1),zi (BH p.2)],zi 0]) (by simp[results,results181,go_sem,k0,k1]) rfl ?_;refine⟨E.o _ _,?_⟩;rw[r.o]
  have r:=zH (Vk (x:=p.1) (.inr λh=>q (m.o.2.2 h)));obtain rfl:ok2=false:=by simpa using q
  go_wp2_with fail
  refine bodyPost_ret (v:=.tuple #[.agg #[zi 0,zi 0],zi 3]) (by simp[results,results181,go_sem,k0,k1]) rfl ?_;refine⟨E.o _ _,?_⟩;rw[r.o]
 have r:=zH (Vk (y:=p.2) (.inl λh=>n (f.o.2.2 h)));obtain rfl:ok1=false:=by simpa using n
 go_wp2_with fail
 refine bodyPost_ret (v:=.tuple #[.agg #[zi 0,zi 0],zi 3]) (by simp[results,results181,go_sem,k0,k1]) rfl ?_;refine⟨E.o _ _,?_⟩;rw[r.o]
def Aau(p q:Rat)(w:World)(e:Ending)(w':World):Prop:=∃(b:Bool)(A:oA)(n c:Nat)(B:oA)(m d:Nat)(ok:Bool),e=.returned (.tuple #[.agg #[.bool b,.slice A n c,.slice B m d],.bool ok])∧Hid ((ok=true↔q≠0)∧(ok=true->Dh w' (.agg #[.bool b,.slice A n c,.slice B m d]) (p/q)))∧Bw w w'
theorem aft(h:Bw (u.alloc (.cells cs T)) u1):Bw u u1∧Blk u1 u.heap.size T cs:=
 ⟨(zA _).trans (h.mono zP),(Blk.new u T cs).below h⟩
theorem Vm(h:s<=g)(a:b+1+1<s):¬g=b∧¬b=g∧¬g=b+1∧¬b+1=g∧¬g=b+1+1∧¬b+1+1=g:=zO
theorem Vn{c:Nat}(h:s<=g)(a:b+1+1<s∧c<s):¬g=b∧¬b=g∧¬g=b+1∧¬b+1=g∧¬g=b+1+1∧¬b+1+1=g∧¬g=c∧¬c=g:=zO
theorem Tn.two(h:Tn p q w e w'):Aau p q w e w':=by
 obtain⟨b,h⟩:=h;by_cases a:q=0
 ·rw[if_pos a]at h;exact⟨_,_,_,_,_,_,_,_,h,⟨⟨λh=>(by cases h),λh=>absurd a h⟩,λh=>(by cases h)⟩,b⟩
 rw[if_neg a]at h;obtain⟨v,rfl,f⟩:=h;have g:=f;obtain⟨A,n,c,B,m,d,rfl,_⟩:=f;exact⟨_,_,_,_,_,_,_,_,rfl,⟨⟨λ_=>a,λ_=>rfl⟩,λ_=>g⟩,b⟩
def onQ(p q:Rat×Rat)(t:Rat):Rat×Rat:=(p.1+(q.1-p.1)*t,p.2+(q.2-p.2)*t)
def BW(p q:Rat×Rat):Rat:=p.1*q.2-p.2*q.1
def AW(p q:Rat×Rat):Rat×Rat:=(p.1-q.1,p.2-q.2)
theorem Mj{p q:Rat×Rat}(a:qk p.1 j)(b:qk p.2 j)(g1:qk q.1 k)(g2:qk q.2 k):qk (BW p q) (j+k+(j+k)+1):=Kb (IS a g2) (IS b g1)
def Tp(p q r s:Rat×Rat)(w:World)(e:Ending)(w':World):Prop:=Bw w w'∧
 if BW (AW q p) (AW s r)=0 then e=.returned (.tuple #[.agg #[zF,zn,zn,zF,zn,zn],zi 10])
 else ∃v,e=.returned (.tuple #[v,zi 0])∧PtN w' v (onQ p q (BW (AW r p) (AW s r)/BW (AW q p) (AW s r)))
theorem PtA.qk2{p:Rat×Rat}(h:PtA w v k p)(a:1<=k):qk p.1 k∧qk p.2 k:=by
 obtain⟨_,_,_,_,_,_,_,b,e⟩:=h;exact⟨b.qk a,e.qk a⟩
theorem JG{p q:Rat×Rat}(a:qk p.1 j∧qk p.2 j)(b:qk q.1 k∧qk q.2 k):qk (AW p q).1 (j+k+1)∧qk (AW p q).2 (j+k+1):=⟨Kb a.1 b.1,Kb a.2 b.2⟩
theorem aD(va vb vc vd:Value)(k:Nat)(p q r s:Rat×Rat)(w:World)(ha:PtA w va k p)(hb:PtA w vb k q)(hc:PtA w vc k r)(hd:PtA w vd k s)(n:1<=k)(be:k<=500) :
  CP 179 #[va,vb,vc,vd] w (Tp p q r s w):=by
 have f:=zH (zu2 (JG (hc.qk2 n) (ha.qk2 n)) (zu2 (JG (hb.qk2 n) (ha.qk2 n)) (JG (hd.qk2 n) (hc.qk2 n))));have E:=zH (zu2 ha (zu2 hb (zu2 hc hd)));obtain⟨a0,a1,a2,a3,a4,a5,rfl,_⟩:=ha;obtain⟨b0,b1,b2,b3,b4,b5,rfl,_⟩:=hb;obtain⟨c0,c1,c2,c3,c4,c5,rfl,_⟩:=hc;obtain⟨d0,d1,d2,d3,d4,d5,rfl,_⟩:=hd;have hB:Bw w (((((w.alloc (.cells #[a0,a1,a2,a3,a4,a5] 284)).alloc (.cells #[b0,b1,b2,b3,b4,b5] 284)).alloc (.cells #[c0,c1,c2,c3,c4,c5] 284)).alloc (.cells #[d0,d1,d2,d3,d4,d5] 284)).alloc (.cells #[zF,zn,zn,zF,zn,zn] 284)):=(((((zJ.alloc zP _).alloc zP _).alloc zQ _).alloc zQ _).alloc zQ _);have H:Hid (Blk (((((w.alloc (.cells #[a0,a1,a2,a3,a4,a5] 284)).alloc (.cells #[b0,b1,b2,b3,b4,b5] 284)).alloc (.cells #[c0,c1,c2,c3,c4,c5] 284)).alloc (.cells #[d0,d1,d2,d3,d4,d5] 284)).alloc (.cells #[zF,zn,zn,zF,zn,zn] 284)) w.heap.size 284 #[a0,a1,a2,a3,a4,a5]):=zH ((((((Blk.new w 284 #[a0,a1,a2,a3,a4,a5]).alloc _).alloc _).alloc _).alloc _))
 have I:Hid (Blk (((((w.alloc (.cells #[a0,a1,a2,a3,a4,a5] 284)).alloc (.cells #[b0,b1,b2,b3,b4,b5] 284)).alloc (.cells #[c0,c1,c2,c3,c4,c5] 284)).alloc (.cells #[d0,d1,d2,d3,d4,d5] 284)).alloc (.cells #[zF,zn,zn,zF,zn,zn] 284)) (w.heap.size+1) 284 #[b0,b1,b2,b3,b4,b5]):=zH (((((Blk.new' (w.alloc (.cells #[a0,a1,a2,a3,a4,a5] 284)) 284 #[b0,b1,b2,b3,b4,b5] zP).alloc _).alloc _).alloc _));have K:Hid (Blk (((((w.alloc (.cells #[a0,a1,a2,a3,a4,a5] 284)).alloc (.cells #[b0,b1,b2,b3,b4,b5] 284)).alloc (.cells #[c0,c1,c2,c3,c4,c5] 284)).alloc (.cells #[d0,d1,d2,d3,d4,d5] 284)).alloc (.cells #[zF,zn,zn,zF,zn,zn] 284)) (w.heap.size+1+1) 284 #[c0,c1,c2,c3,c4,c5]):=zH ((((Blk.new' ((w.alloc (.cells #[a0,a1,a2,a3,a4,a5] 284)).alloc (.cells #[b0,b1,b2,b3,b4,b5] 284)) 284 #[c0,c1,c2,c3,c4,c5] zP).alloc _).alloc _));have ax:Hid (Blk (((((w.alloc (.cells #[a0,a1,a2,a3,a4,a5] 284)).alloc (.cells #[b0,b1,b2,b3,b4,b5] 284)).alloc (.cells #[c0,c1,c2,c3,c4,c5] 284)).alloc (.cells #[d0,d1,d2,d3,d4,d5] 284)).alloc (.cells #[zF,zn,zn,zF,zn,zn] 284)) (w.heap.size+1+1+1) 284 #[d0,d1,d2,d3,d4,d5]):=zH (((Blk.new' (((w.alloc (.cells #[a0,a1,a2,a3,a4,a5] 284)).alloc (.cells #[b0,b1,b2,b3,b4,b5] 284)).alloc (.cells #[c0,c1,c2,c3,c4,c5] 284)) 284 #[d0,d1,d2,d3,d4,d5] zP).alloc _))
 have a9:Hid (Blk (((((w.alloc (.cells #[a0,a1,a2,a3,a4,a5] 284)).alloc (.cells #[b0,b1,b2,b3,b4,b5] 284)).alloc (.cells #[c0,c1,c2,c3,c4,c5] 284)).alloc (.cells #[d0,d1,d2,d3,d4,d5] 284)).alloc (.cells #[zF,zn,zn,zF,zn,zn] 284)) (w.heap.size+1+1+1+1) 284 #[zF,zn,zn,zF,zn,zn]):=zH ((Blk.new' ((((w.alloc (.cells #[a0,a1,a2,a3,a4,a5] 284)).alloc (.cells #[b0,b1,b2,b3,b4,b5] 284)).alloc (.cells #[c0,c1,c2,c3,c4,c5] 284)).alloc (.cells #[d0,d1,d2,d3,d4,d5] 284)) 284 #[zF,zn,zn,zF,zn,zn] zP));go_enter func179,ntmps179
 go_wp2_with fail
 refine(FR _ _ k k s r _ (E.o.2.2.2.on hB) (E.o.2.2.1.on hB) n n zO zO).mono ?_;rintro e w1 hr;obtain⟨g9,G9,gn9,gc9,H9,X,Y,e9,E9,en9,ec9,F9,fm9,fd9,rfl,r9,a⟩:=C9 hr;have B1:=zT hB a;have al:=a.size;simp only[World.size_alloc]at al;have N:Bw w1 (w1.alloc (.cells #[.bool g9,.slice G9 gn9 gc9,.slice H9 X Y,.bool e9,.slice E9 en9 ec9,.slice F9 fm9 fd9] 284)):=zA _;have HE:=zH (Blk.new w1 284 #[.bool g9,.slice G9 gn9 gc9,.slice H9 X Y,.bool e9,.slice E9 en9 ec9,.slice F9 fm9 fd9]);have Z:=zH (r9.on N);have H:=zH ((H.o.below a).below N);have I:=zH ((I.o.below a).below N);have K:=zH ((K.o.below a).below N);have a9:=zH ((a9.o.below a).below N);have ax:=trivial;have HB:=zH (zT B1 N);have E:=zH (zu2 (E.o.1.on HB.o) (zu2 (E.o.2.1.on HB.o) (E.o.2.2.1.on HB.o)));clear a B1 hB N r9 hr
 go_upto_region 2 with fail
 generalize am:w1.alloc (.cells #[.bool g9,.slice G9 gn9 gc9,.slice H9 X Y,.bool e9,.slice E9 en9 ec9,.slice F9 fm9 fd9] 284)=wy at *
 have bf:w1.heap.size<wy.heap.size:=by rw[<-am];simp
 clear am;have bg:w.heap.size+1+1+1+1<w1.heap.size:=by have:=al;omega
 have HK:=zH (zu2 ((Mj f.o.1.1 f.o.1.2 f.o.2.2.1 f.o.2.2.2).mono zO:qk (BW (AW r p) (AW s r)) (8*k+7)) ((Mj f.o.2.1.1 f.o.2.1.2 f.o.2.2.1 f.o.2.2.2).mono zO:qk (BW (AW q p) (AW s r)) (8*k+7)))
 go_cut [11,12] (λs11 s12 wx=>∃(g:Nat)(bq:Bool)(C:oA)(cn cc:Nat)(D:oA)(dn dc:Nat)(ok:Bool),s11=.pointer (sa g 0)∧s12=.bool ok∧Blk wx g 217 #[.bool bq,.slice C cn cc,.slice D dn dc]∧Hid ((ok=true↔BW (AW q p) (AW s r)≠0)∧(ok=true->Dh wx (.agg #[.bool bq,.slice C cn cc,.slice D dn dc]) (BW (AW r p) (AW s r)/BW (AW q p) (AW s r))))∧Bw wy wx∧wy.heap.size<=g)
 case first=>
  have s0:=Ak H.o;have s1:=Ak I.o;have s2:=Ak K.o;have s9:=Ak HE.o
  go_region_held3(λw'=>w'.cell? (ad w.heap.size 0)=some (a0)∧w'.cell? (ad w.heap.size 1)=some (a1)∧w'.cell? (ad w.heap.size 2)=some (a2)∧w'.cell? (ad w.heap.size 3)=some (a3)∧w'.cell? (ad w.heap.size 4)=some (a4)∧w'.cell? (ad w.heap.size 5)=some (a5)∧w'.cell? (ad (w.heap.size+1) 0)=some (b0)∧w'.cell? (ad (w.heap.size+1) 1)=some (b1)∧w'.cell? (ad (w.heap.size+1) 2)=some (b2)∧w'.cell? (ad (w.heap.size+1) 3)=some (b3)∧w'.cell? (ad (w.heap.size+1) 4)=some (b4)∧w'.cell? (ad (w.heap.size+1) 5)=some (b5)∧w'.cell? (ad (w.heap.size+1+1) 0)=some (c0)∧w'.cell? (ad (w.heap.size+1+1) 1)=some (c1)∧w'.cell? (ad (w.heap.size+1+1) 2)=some (c2)∧w'.cell? (ad (w.heap.size+1+1) 3)=some (c3)∧w'.cell? (ad (w.heap.size+1+1) 4)=some (c4)∧w'.cell? (ad (w.heap.size+1+1) 5)=some (c5)∧w'.cell? (ad w1.heap.size 0)=some (.bool g9)∧w'.cell? (ad w1.heap.size 1)=some (.slice G9 gn9 gc9)∧w'.cell? (ad w1.heap.size 2)=some (.slice H9 X Y)∧w'.cell? (ad w1.heap.size 3)=some (.bool e9)∧w'.cell? (ad w1.heap.size 4)=some (.slice E9 en9 ec9)∧w'.cell? (ad w1.heap.size 5)=some (.slice F9 fm9 fd9))
   (go_keep)
   (first
   | (go_at_call_of 182 (Value.agg #[c0,c1,c2,c3,c4,c5]);(first|(refine(FR _ _ k k r p _ (by exact E.o.2.2) (by exact E.o.1) n n zO zO).mono ?_)|(refine(FR _ _ k k r p _ (by exact E.o.2.2.on (zA _).drew) (by exact E.o.1.on (zA _).drew) n n zO zO).mono ?_));rintro e w3 an;obtain⟨g0,G0,gn0,gc0,H0,ay,a6,e0,E0,en0,ec0,F0,fm0,fd0,rfl,r0,t⟩:=C9 an;(first|(have aa:=zH (show Bw wy w3 from(zX t));(try(have j:=zH (j.out.below aa.o))))|(obtain⟨a6,l⟩:=aft (T:=217) (cs:=#[zF,zn,zn]) (show Bw (wy.alloc _) w3 from(zX t));have aa:=zH a6;have j:=zH l;clear a6 l;have x:=zH (show wy.heap.size<=wy.heap.size from zs2 _);obtain⟨nz0,nx0,nz1,nx1,nz2,nx2,nz3,nx3⟩:=Vn (b:=w.heap.size) (c:=w1.heap.size) x.out zO));have F:=zH (aa.o:Bw wy w3);have s0_0:=Ak (H.o.below F.o);have s1_0:=Ak (I.o.below F.o);have s2_0:=Ak (K.o.below F.o);have s9_0:=Ak (HE.o.below F.o);have R:=zH r0;clear r0;clear an t)
   | (go_at_call_of 222 (Value.agg #[.bool g0,.slice G0 gn0 gc0,.slice H0 ay a6,.bool e0,.slice E0 en0 ec0,.slice F0 fm0 fd0]);(first|(refine(Jt _ _ (k+k+1) (k+k+1) (AW r p) (AW s r) _ (PtN.A (by exact R.o) f.o.1.1 f.o.1.2) (PtN.A (by exact Z.o.on F.o) f.o.2.2.1 f.o.2.2.2) zO zO zO zO).mono ?_)|(refine(Jt _ _ (k+k+1) (k+k+1) (AW r p) (AW s r) _ (PtN.A (by exact R.o.on (zA _)) f.o.1.1 f.o.1.2) (PtN.A (by exact Z.o.on (F.o.alloc F.o.size _)) f.o.2.2.1 f.o.2.2.2) zO zO zO zO).mono ?_));rintro e w4 ao;obtain⟨g1,G1,gn1,gc1,H1,bh,ab,rfl,r1,a⟩:=C8 ao;(first|(have a7:=zH (show Bw w3 w4 from(zX a));(try(have j:=zH (j.out.below a7.o))))|(obtain⟨ab,l⟩:=aft (T:=217) (cs:=#[zF,zn,zn]) (show Bw (w3.alloc _) w4 from(zX a));have a7:=zH ab;have j:=zH l;clear ab l;have x:=zH (show wy.heap.size<=w3.heap.size from F.o.size);obtain⟨nz0,nx0,nz1,nx1,nz2,nx2,nz3,nx3⟩:=Vn (b:=w.heap.size) (c:=w1.heap.size) x.out zO));have m:=zH (zT F.o a7.o:Bw wy w4);have s0_1:=Ak (H.o.below m.o);have s1_1:=Ak (I.o.below m.o);have s2_1:=Ak (K.o.below m.o);have s9_1:=Ak (HE.o.below m.o);have af:=zH (R.o.on a7.o);have ag:=zH r1;clear r1;clear ao a)
   | (go_at_call_of 182 (Value.agg #[b0,b1,b2,b3,b4,b5]);(first|(refine(FR _ _ k k q p _ (by exact E.o.2.1.on m.o) (by exact E.o.1.on m.o) n n zO zO).mono ?_)|(refine(FR _ _ k k q p _ (by exact E.o.2.1.on (m.o.alloc m.o.size _)) (by exact E.o.1.on (m.o.alloc m.o.size _)) n n zO zO).mono ?_));rintro e w5 ap;obtain⟨g2,G2,gn2,gc2,H2,az,a8,e2,E2,en2,ec2,F2,fm2,fd2,rfl,r2,y⟩:=C9 ap;(first|(have W:=zH (show Bw w4 w5 from(zX y));(try(have j:=zH (j.out.below W.o))))|(obtain⟨a8,l⟩:=aft (T:=217) (cs:=#[zF,zn,zn]) (show Bw (w4.alloc _) w5 from(zX y));have W:=zH a8;have j:=zH l;clear a8 l;have x:=zH (show wy.heap.size<=w4.heap.size from m.o.size);obtain⟨nz0,nx0,nz1,nx1,nz2,nx2,nz3,nx3⟩:=Vn (b:=w.heap.size) (c:=w1.heap.size) x.out zO));have G:=zH (zT m.o W.o:Bw wy w5);have s0_2:=Ak (H.o.below G.o);have s1_2:=Ak (I.o.below G.o);have s2_2:=Ak (K.o.below G.o);have s9_2:=Ak (HE.o.below G.o);have ah:=zH (af.o.on W.o);have ai:=zH (ag.o.on W.o);have S:=zH r2;clear r2;clear ap y)
   | (go_at_call_of 222 (Value.agg #[.bool g2,.slice G2 gn2 gc2,.slice H2 az a8,.bool e2,.slice E2 en2 ec2,.slice F2 fm2 fd2]);(first|(refine(Jt _ _ (k+k+1) (k+k+1) (AW q p) (AW s r) _ (PtN.A (by exact S.o) f.o.2.1.1 f.o.2.1.2) (PtN.A (by exact Z.o.on G.o) f.o.2.2.1 f.o.2.2.2) zO zO zO zO).mono ?_)|(refine(Jt _ _ (k+k+1) (k+k+1) (AW q p) (AW s r) _ (PtN.A (by exact S.o.on (zA _)) f.o.2.1.1 f.o.2.1.2) (PtN.A (by exact Z.o.on (G.o.alloc G.o.size _)) f.o.2.2.1 f.o.2.2.2) zO zO zO zO).mono ?_));rintro e w6 aq;obtain⟨g3,G3,gn3,gc3,H3,bi,ac,rfl,r3,z⟩:=C8 aq;(first|(have Q:=zH (show Bw w5 w6 from(zX z));(try(have j:=zH (j.out.below Q.o))))|(obtain⟨ac,l⟩:=aft (T:=217) (cs:=#[zF,zn,zn]) (show Bw (w5.alloc _) w6 from(zX z));have Q:=zH ac;have j:=zH l;clear ac l;have x:=zH (show wy.heap.size<=w5.heap.size from G.o.size);obtain⟨nz0,nx0,nz1,nx1,nz2,nx2,nz3,nx3⟩:=Vn (b:=w.heap.size) (c:=w1.heap.size) x.out zO));have O:=zH (zT G.o Q.o:Bw wy w6);have s0_3:=Ak (H.o.below O.o);have s1_3:=Ak (I.o.below O.o);have s2_3:=Ak (K.o.below O.o);have s9_3:=Ak (HE.o.below O.o);have aj:=zH (ah.o.on Q.o);have U:=zH (ai.o.on Q.o);have ak:=zH (S.o.on Q.o);have V:=zH r3;clear r3;clear aq z)
   | (go_at_call 221;(first|(refine(Vi _ _ (8*k+7) (8*k+7) (BW (AW r p) (AW s r)) (BW (AW q p) (AW s r)) _ (Dh.A (by exact U.o) HK.o.1) (Dh.A (by exact V.o) HK.o.2) zO zO zO zO).mono ?_)|(refine(Vi _ _ (8*k+7) (8*k+7) (BW (AW r p) (AW s r)) (BW (AW q p) (AW s r)) _ (Dh.A (by exact U.o.on (zA _)) HK.o.1) (Dh.A (by exact V.o.on (zA _)) HK.o.2) zO zO zO zO).mono ?_));rintro e w7 ar;obtain⟨bq,C0,cn0,cc0,D0,dn0,dc0,ok,rfl,r4,B⟩:=Tn.two ar;(first|(have P:=zH (show Bw w6 w7 from(zX B));(try(have j:=zH (j.out.below P.o))))|(obtain⟨au,l⟩:=aft (T:=217) (cs:=#[zF,zn,zn]) (show Bw (w6.alloc _) w7 from(zX B));have P:=zH au;have j:=zH l;clear au l;have x:=zH (show wy.heap.size<=w6.heap.size from O.o.size);obtain⟨nz0,nx0,nz1,nx1,nz2,nx2,nz3,nx3⟩:=Vn (b:=w.heap.size) (c:=w1.heap.size) x.out zO));have L:=zH (zT O.o P.o:Bw wy w7);have s0_4:=Ak (H.o.below L.o);have s1_4:=Ak (I.o.below L.o);have s2_4:=Ak (K.o.below L.o);have s9_4:=Ak (HE.o.below L.o);have ba:=zH (aj.o.on P.o);have bb:=zH (U.o.on P.o);have bc:=zH (ak.o.on P.o);have bd:=zH (V.o.on P.o);(try(have d0:=j.out.c (i:=0) (v:=zF) rfl;have d1:=j.out.c (i:=1) (v:=zn) rfl;have d2:=j.out.c (i:=2) (v:=zn) rfl;have y0:=j.out.frozen 0;have y1:=j.out.frozen 1;have y2:=j.out.frozen 2));clear ar B))
  all_goals
   go_wp2_with fail
   go_meet
   first
   | exact⟨w7.heap.size,bq,C0,cn0,cc0,D0,dn0,dc0,ok,rfl,rfl,Blk.new _ _ _,⟨r4.out.1,λh=>(r4.out.2 h).on (zA _)⟩,L.o.alloc L.o.size _,L.o.size⟩
   | exact⟨_,bq,C0,cn0,cc0,D0,dn0,dc0,ok,rfl,rfl,j.out.put3 _ _ _,⟨r4.out.1,λh=>(r4.out.2 h).put3 (NoU.blk j.out zP) 0 (Lt _) (GQ _ _ _)⟩,Fi L.o x.out _ _ _,x.out⟩
 case rest=>
  obtain⟨g,bq,C,cn,cc,D,dn,dc,ok,rfl,rfl,hG,hQ,M,bj⟩:=hcut;have s0:=Ak (H.o.below M);have s1:=Ak (I.o.below M);have J:=a9.o.below M;have t0:=CT hG;have BT:=zT HB.o M;by_cases av:ok=true
  ·subst av;have aw:=hQ.out.1.1 rfl;have hN:=hQ.out.2 rfl;have HT:=zH (qS _ _ _ k k (16*k+14) p q (BW (AW r p) (AW s r)/BW (AW q p) (AW s r)) wc (E.o.1.on M) (E.o.2.1.on M) (hN.A ((jJ HK.o.1 HK.o.2).mono zO)) n n zO zO zO zO);have HZ:=zH J;have b6:=zH aw;clear J aw hN hQ hG M;go_wp2_with(go_at_call 223;go_must((refine HT.o.mono ?_);rintro e w8 hr;obtain⟨g8,G8,gn8,gc8,H8,b7,b8,e8,E8,en8,ec8,F8,fm8,fd8,rfl,r8,ae⟩:=C9 hr;have Zf:=HZ.o.below ae;have HF:=zH (Vj (w:=w) (p:=onQ p q (BW (AW r p) (AW s r)/BW (AW q p) (AW s r))) r8 Zf zP (zT BT ae) zO);have k0:=Zf.c (i:=0) rfl;have z0:=Zf.frozen 0;have k1:=Zf.c (i:=1) rfl;have z1:=Zf.frozen 1;have k2:=Zf.c (i:=2) rfl;have z2:=Zf.frozen 2;have k3:=Zf.c (i:=3) rfl;have z3:=Zf.frozen 3;have k4:=Zf.c (i:=4) rfl;have z4:=Zf.frozen 4;have k5:=Zf.c (i:=5) rfl;have z5:=Zf.frozen 5;clear hr r8 ae Zf))
   refine bodyPost_ret (v:=.tuple #[.agg #[.bool g8,.slice G8 gn8 gc8,.slice H8 b7 b8,.bool e8,.slice E8 en8 ec8,.slice F8 fm8 fd8],zi 0]) (by simp[results,results179,go_sem,k0,k1,k2,k3,k4,k5]) rfl ?_;obtain⟨v,hv,hN,hb⟩:=HF.o;injection hv with hv
   subst hv;refine⟨hb,?_⟩;rw[if_neg b6.o];exact⟨_,rfl,hN⟩
  obtain rfl:ok=false:=by simpa using av
  have h0:BW (AW q p) (AW s r)=0:=Classical.byContradiction λh=>by have:=hQ.out.1.2 h;cases this
  have b9:=zH h0;have k0:=J.c (i:=0) rfl;have z0:=J.frozen 0;have k1:=J.c (i:=1) rfl;have z1:=J.frozen 1;have k2:=J.c (i:=2) rfl;have z2:=J.frozen 2;have k3:=J.c (i:=3) rfl;have z3:=J.frozen 3;have k4:=J.c (i:=4) rfl;have z4:=J.frozen 4;have k5:=J.c (i:=5) rfl;have z5:=J.frozen 5;clear hG h0 hQ M
  go_wp2_with fail
  refine bodyPost_ret (v:=.tuple #[.agg #[zF,zn,zn,zF,zn,zn],zi 10]) (by simp[results,results179,go_sem,k0,k1,k2,k3,k4,k5]) rfl ?_;refine⟨Mi BT zO _ _ _ _ _ _,?_⟩;rw[if_pos b9.o]
theorem Nt(a b c d:Pt):BW (AW (toQ b) (toQ a)) (AW (toQ d) (toQ c))=(((b.1-a.1)*(d.2-c.2)-(b.2-a.2)*(d.1-c.1):Int):Rat):=by
 simp only[BW,AW,toQ,Rat.intCast_sub,Rat.intCast_mul]
theorem jL{b:Pt}(h:BW (AW (toQ b) (toQ a)) (AW (toQ d) (toQ c))=0):F3 a b c d=none:=by
 rw[Nt]at h;unfold F3;rw[if_pos (by exact_mod_cast h)]
theorem jM{b:Pt}(h:BW (AW (toQ b) (toQ a)) (AW (toQ d) (toQ c))≠0):F3 a b c d=some (onQ (toQ a) (toQ b) (BW (AW (toQ c) (toQ a)) (AW (toQ d) (toQ c))/BW (AW (toQ b) (toQ a)) (AW (toQ d) (toQ c)))):=by
 have e:=h;rw[Nt]at e
 have f:BW (AW (toQ c) (toQ a)) (AW (toQ d) (toQ c))=(((c.1-a.1)*(d.2-c.2)-(c.2-a.2)*(d.1-c.1):Int):Rat):=by
  simp only[BW,AW,toQ,Rat.intCast_sub,Rat.intCast_mul]
 unfold F3;rw[if_neg (λg=>e (by rw[g];rfl)),f,Nt];simp only[onQ,toQ,Rat.intCast_sub]
def inS(p:Pt):Prop:=-4611686018427387904<p.1∧p.1<4611686018427387904∧-4611686018427387904<p.2∧p.2<4611686018427387904
theorem Da{p:Pt}(h:inS p):qk (toQ p).1 2∧qk (toQ p).2 2:=by
 obtain⟨a,b,e,f⟩:=h;exact⟨⟨JF (by show(p.1:Int).natAbs<_;omega),zs0 (JQ (v:=1) (by unfold bs;omega)) zO⟩,⟨JF (by show(p.2:Int).natAbs<_;omega),zs0 (JQ (v:=1) (by unfold bs;omega)) zO⟩⟩
theorem Pd(p q:Pt)(w:World)(a : -4700000000000000000<p.1+q.1∧p.1+q.1<4700000000000000000)(b : -4700000000000000000<p.2+q.2∧p.2+q.2<4700000000000000000) :
  CP 136 #[.agg #[zi p.1,zi p.2],.agg #[zi q.1,zi q.2]] w (zR (.agg #[zi (p.1+q.1),zi (p.2+q.2)]) w):=by
 go_enter func136,ntmps136;go_wp2;refine bodyPost_ret (v:=.agg #[zi (p.1+q.1),zi (p.2+q.2)]) (by simp[results,results136,go_sem]) rfl ⟨rfl,?_⟩;exact((zA _).alloc zP _).alloc zQ _
theorem KY(p:Pt)(k:Int)(w:World)(l:0<=k∧k<=4611686018427387904) :
  CP 138 #[.agg #[zi p.1,zi p.2],zi k] w (zR (.bool (Cv p k)) w):=by
 obtain⟨R,f⟩:=zG (Cv p k);have a:=zH f;have b:=zH (show Bw w (zw w #[zi p.1,zi p.2] 56)from zA _);rw[f];clear f;go_enter func138,ntmps138;by_cases g : -k<=p.1
 ·by_cases i:p.1<=k
  ·by_cases j : -k<=p.2
   ·go_wp2;go_ret;exact⟨by rw[<-a.o];simp[Cv,g,i,j],b.o⟩
   go_wp2;go_ret;exact⟨by rw[<-a.o];simp[Cv];omega,b.o⟩
  go_wp2;go_ret;exact⟨by rw[<-a.o];simp[Cv];omega,b.o⟩
 go_wp2;go_ret;exact⟨by rw[<-a.o];simp[Cv];omega,b.o⟩
end Go.Proofs.YteafekbddckemaaGreatDoor
