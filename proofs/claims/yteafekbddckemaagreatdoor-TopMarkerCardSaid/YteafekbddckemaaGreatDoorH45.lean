/- Parts of the proof. -/
import Derived.Test.YteafekbddckemaaGreatDoorH42
import Derived.Test.YteafekbddckemaaGreatDoorH44
set_option maxRecDepth 100000
set_option maxHeartbeats 40000000
namespace Go.Proofs.YteafekbddckemaaGreatDoor
open Go.Proofs.Tryz Go.RowKit
open Go.Lib hiding intOf
variable{A:oA}{B g gp k n:Nat}{T t:TypeId}{a0 a1 a2 a3:Value}{b:AG}{cs:aV}{puts:List Am}{s:Al}{ss:List Ae}{w w' w1 wr:World}{xs:lV}{z:Int}{zs:List Int}
theorem rY{a c o size:Nat}(h:w.ownsRow a T size (.slice (sa g o) n c) n xs):a<=g:=by
 rcases h.2 with⟨e,_⟩|⟨g',cap,cur,e,b,_⟩
 ·cases e
 injection e with e
 injection e with e
 injection e with e1 e2
 rw[e1];exact b
def tD(x:Except Int (List Am))(w:World)(e:Ending)(w':World):Prop:=Bw w w'∧match x with
 | .ok l=>∃A c,e=.returned (.tuple #[.slice A l.length c,zi 0])∧Ab 5 Hs w' A l.length l∧l.length<=c∧∀g o,A=some ⟨g,o,none⟩->w.heap.size<=g
 | .error z=>e=.returned (.tuple #[zn,zi z])
theorem rZ(b:AG)(A:oA)(n c:Nat)(ss:List Ae)(OA:oA)(m d:Nat)(order:List Nat)(w:World)(R:Ab 5 D6 w A n ss)(L:Sl w w.heap.size OA m (Ar (order.map λk:Nat=>(k:Int))))(hm:m<=60)(S:∀s∈ss,s.poly.length<=1000000) :
  CP 20 #[.agg #[zi b.length,zi b.width,zi b.rx,zi b.ry],.slice A n c,.slice OA m d] w (tD (Ch b ss order []) w):=by
 obtain⟨Q,M⟩:=zG (tD (Ch b ss order []) w);rw[M];have T:=zH M;have HA:=zH R;have HO:=zH L;have U:=zH S;have a8:order.length=m:=by have:=L.ilen;rwa[zq6]at this
 have V:Hid (Bw w (zw w #[zi b.length,zi b.width,zi b.rx,zi b.ry] 33)):=zH (Rg b w);have HX:=zH (Blk.new w 33 #[zi b.length,zi b.width,zi b.rx,zi b.ry]);clear M R L S;go_enter func20,ntmps20
 go_wp2_with fail
 go_loopw[8,10,11,12,18,19,20,21,22,23,24,25,26,27,28,29,30,31,32,33,34,35,36,37] (λv _ _ _ i _ _ _ _ _ _ _ _ _ _ _ _ _ _ _ _ _ _ _ wr=>∃(j:Nat)(done:List Am)(PA:oA)(pc:Nat),j<=m∧i=zi (j:Int)∧v=.slice PA done.length pc∧Hid (Ch b ss order []=Ch b ss (order.drop j) done)∧Hid (done.length=j∧∀p∈done,Q4 p.turn)∧Hid (wr.ownsRow w.heap.size 87 5 (.slice PA done.length pc) done.length (done.flatMap GK))∧Hid (Blk wr w.heap.size 33 #[zi b.length,zi b.width,zi b.rx,zi b.ry])∧Hid (Bw w wr)) (λ_ _ _ _ i _ _ _ _ _ _ _ _ _ _ _ _ _ _ _ _ _ _ _ _=>m-(intOf i).toNat)
 case atStart=>exact⟨0,[],none,0,zs3 _,rfl,rfl,zH zP,zH ⟨rfl,λp h=>by cases h⟩,zH (World.ownsRow_nil _ _ _ _),HX,V⟩
 case round=>
  obtain⟨j,done,PA,pc,hj,rfl,rfl,N,F,f,G,a⟩:=hrel;by_cases W:j<m
  ·obtain⟨b2,O,kk,rfl,X,H,f0'⟩:=HO.o.int_ W;have f0:=(a.o.cell (p:=ad b2 (O+j)) X).trans f0';rw[zr5,Option.map_eq_some_iff]at H;obtain⟨k,Y,rfl⟩:=H;have I:=zH (Et Y);have a9:done.length<=60:=by rw[F.o.1];omega
   have y:=zH (qN b A n c ss PA done.length pc done k wr (HA.o.on Bz a.o) (Pc f.o rfl) zO U.o F.o.2);obtain⟨y0,y1,y2,y3⟩:=Ez G.o;obtain⟨i1,i2⟩:=zI (k:=j) (n:=m) (by omega);clear f0' Y
   cases hst:DM b ss done k with
   | error z=>
    have Z:=Su hst;have aa:(z != 0)=true:=by simpa using Z
    have l:Hid (Ch b ss order []=.error z):=zH (by rw[N.o,I.o,vZ hst]);rw[hst]at y;clear hst Z;go_wp2_with(go_at_call 40;refine y.o.mono ?_;rintro e w5 ⟨q,r⟩;replace r:e=.returned (.tuple #[.agg #[zi 0,zF,zi 0,zi 0,zi 0],zi z]):=r;subst r;have a0:=zH (zT a.o q);clear q)
    rw[<-T.o,l.o];exact⟨Below.alo a0.o _,rfl⟩
   | ok x=>
    have l:Hid (Ch b ss order []=Ch b ss (order.drop (j+1)) (done++[x])):=zH (by rw[N.o,I.o,qP hst])
    have a1:Hid ((done++[x]).length=j+1∧∀p∈done++[x],Q4 p.turn):=zH ⟨by rw[zq5,F.o.1];rfl,λp C=>by
     rcases zr1.1 C with C|C
     ·exact F.o.2 p C
     obtain rfl:=zr9.1 C;exact Yc hst⟩
    rw[hst]at y;clear hst
    go_wp2_with(first
     | (go_at_call 40;refine y.o.mono ?_;rintro e w5 ⟨q,r⟩;replace r:e=.returned (.tuple #[.agg #[zi x.shape,.bool x.turn.flip,zi x.turn.quarter,zi x.at_.1,zi x.at_.2],zi 0]):=r;subst r;have B:=zH (Below.alo (Below.alo q (.cells #[zi x.shape,.bool x.turn.flip,zi x.turn.quarter,zi x.at_.1,zi x.at_.2] 87)) (.cells #[zi x.shape,.bool x.turn.flip,zi x.turn.quarter,zi x.at_.1,zi x.at_.2] 87));have t:=zH (Ah f.o B.o);have J:=zH (G.o.below B.o);have K:=zH (zs0 a.o.size B.o.size);have a2:=zH (EV (cs:=GK x) (show Blk (zw (zw w5 #[zi x.shape,.bool x.turn.flip,zi x.turn.quarter,zi x.at_.1,zi x.at_.2] 87) #[zi x.shape,.bool x.turn.flip,zi x.turn.quarter,zi x.at_.1,zi x.at_.2] 87) (w5.heap.size+1) 87 (GK x).toArray from Blk.new' (zw w5 #[zi x.shape,.bool x.turn.flip,zi x.turn.quarter,zi x.at_.1,zi x.at_.2] 87) 87 #[zi x.shape,.bool x.turn.flip,zi x.turn.quarter,zi x.at_.1,zi x.at_.2] (g:=w5.heap.size+1) zP));clear q)
     | (at_builtin;refine Bt (P:=prog) (by rfl) _ _ 81 (by rfl) w.heap.size 87 (.agg #[zi 0,zF,zi 0,zi 0,zi 0]) 5 40 underlying81 Vh rfl zD (.slice PA done.length pc) done.length (done.flatMap GK) (by rfl) t.o ⟨w5.heap.size+1,0,none⟩ 1 1 (GK x) (by rfl) (by rfl) a2.o (Vg x) zU zO K.o ?_;intro v7 w7 D E a3;obtain⟨A7,c7,a4⟩:=AX D;subst a4;have a5:=zH D;have a6:=zH (J.o.grown E (λe=>Fb t.o J.o zD e.symm));have a7:=zH (Ax (zT a.o B.o) E K.o (λk e=>(t.o.lt k e).1));clear D E a3))
    go_roundw
    case rel=>exact⟨j+1,done++[x],A7,c7,by omega,by go_num,by simp,l,a1,zH (by have:=a5.o;simpa[zr7]using this),a6,a7⟩
    case measure=>exact zM
  obtain rfl:j=m:=zO;have l:Hid (Ch b ss order []=.ok done):=zH (by rw[N.o,zr6 zO];rfl)
  go_wp2_with fail
  rw[<-T.o,l.o];exact⟨a.o,PA,pc,rfl,Pc f.o rfl,Rk f.o,λg o e=>by subst e;exact rY f.o⟩
def K3(w:World)(g:Nat)(zs:List Int):Prop:=∃cur,Blk w g 3 cur∧∀(j:Nat)(u:Value),(Ar zs)[j]?=some u->cur[j]?=some u
theorem K3.below(h:K3 w g zs)(a:Bw w w'):K3 w' g zs:=by
 obtain⟨cur,b,e⟩:=h;exact⟨cur,b.below a,e⟩
theorem K3.sl(h:K3 w g zs)(b:zs.length=n):Sl w w.heap.size (sa g 0) n (Ar zs):=by
 obtain⟨cur,a,e⟩:=h;refine⟨by unfold Ar;rw[zq6];exact b,λ_=>⟨g,0,rfl,a.lt,λj u f=>?_⟩⟩;rw[Nat.zero_add];exact a.c (e j u f)
theorem K3.six(h:K3 w g zs)(b:Blk w k t cs)(j:3≠t)(u0 u1 u2 u3 u4 u5:Value):K3 ((((((w.setCell (ad k 0) u0).setCell (ad k 1) u1).setCell (ad k 2) u2).setCell (ad k 3) u3).setCell (ad k 4) u4).setCell (ad k 5) u5) g zs:=by
 obtain⟨cur,f,l⟩:=h
 have a:g≠k:=by
  rintro rfl;have i:=f;unfold Blk at i b;rw[i]at b;injection b with b
  injection b with _ e _
  exact j e
 exact⟨cur,(((((f.far (p:=ad k 0) a _).far (p:=ad k 1) a _).far (p:=ad k 2) a _).far (p:=ad k 3) a _).far (p:=ad k 4) a _).far (p:=ad k 5) a _,l⟩
theorem bR(Sa:oA)(n sc:Nat)(zs:List Int)(w:World)(h:Sl w w.heap.size Sa n (Ar zs))(r:0<n)(y:n<=1000000) :
  CP 22 #[.slice Sa n sc] w λe w'=>∃g c,e=.returned (.slice (sa g 0) n c)∧K3 w' g zs∧n<=c∧Bw w w':=by
 obtain⟨b,f,rfl,B,s⟩:=h.2 r;obtain⟨i0,hi,i,k,l⟩:=info_parts J2
 refine(Tryz.slices_Clone i0 (zi 0) 1 8 hi i k l rfl zD sizeOf3 b f n sc (Ar zs) w (by rw[h.1];omega) zU zO s (λu a=>by
  unfold Ar at a;obtain⟨z,_,rfl⟩:=zr2.1 a;rfl)).mono ?_
 rintro e w' ⟨v,rfl,t,m,o⟩;rcases t.2 with⟨e,C⟩|⟨g,cap,cur,rfl,x,p,q1,q2,q3,q4⟩
 ·exact absurd e m
 have q:Blk w' g 3 cur:=p;refine⟨g,cap,rfl,⟨cur,q,λj u a=>?_⟩,q1,o⟩;rw[<-q4,zr8]at a;split at a
 ·rwa[zt9]at a
 cases a
theorem AaE(h:Sl w gp A n xs)(m:gp<=w.heap.size)(g:GB w.heap.size gp w wr):Sl wr wr.heap.size A n xs:=by
 refine⟨h.1,λi=>?_⟩;obtain⟨b,f,e,o,k⟩:=h.2 i;exact⟨b,f,e,by have:=g.size;omega,λj u l=>(World.cell?_of_block (a:=⟨b,f+j,none⟩) (g.block b zO zO)).trans (k j u l)⟩
theorem Yl{x:List Ae×List Ac}(h:AI s zs=.ok x):1<=zs.length:=by
 unfold AI at h;split at h
 ·cases h
 split at h
 ·cases h
 omega
theorem lJ(h:Blk w g T cs)(a:g≠gp)(b:GB w.heap.size gp w wr):Blk wr g T cs:=(b.block g h.lt a).trans h
def AaF(r:Except Int Au)(w:World)(e:Ending)(w':World):Prop:=Bw w w'∧match r with
 | .error z=>e=.returned (.tuple #[.agg #[zi 0,zi 0,zi 0,zi 0,zn,zn],zi z])
 | .ok m=>∃A c B d,e=.returned (.tuple #[.agg #[zi m.length,zi m.width,zi m.repeat_.1,zi m.repeat_.2,.slice A m.sizes.length c,.slice B m.places.length d],zi 0])∧Sl w' w'.heap.size A m.sizes.length (Ar m.sizes)∧Ab 7 Dy w' B m.places.length m.places∧m.sizes.length<=c∧m.places.length<=d
theorem Fg(h:Below B w w1)(a:B<=g)(u0 u1 u2 u3 u4 u5:Value):Below B w ((((((w1.setCell (ad g 0) u0).setCell (ad g 1) u1).setCell (ad g 2) u2).setCell (ad g 3) u3).setCell (ad g 4) u4).setCell (ad g 5) u5):=
 (((((h.setCell (p:=ad g 0) a _).setCell (p:=ad g 1) a _).setCell (p:=ad g 2) a _).setCell (p:=ad g 3) a _).setCell (p:=ad g 4) a _).setCell (p:=ad g 5) a _
theorem xB(h:Blk w k t cs)(a:k≠g)(u0 u1 u2 u3 u4 u5:Value):Blk ((((((w.setCell (ad g 0) u0).setCell (ad g 1) u1).setCell (ad g 2) u2).setCell (ad g 3) u3).setCell (ad g 4) u4).setCell (ad g 5) u5) k t cs:=
 (((((h.far (p:=ad g 0) a _).far (p:=ad g 1) a _).far (p:=ad g 2) a _).far (p:=ad g 3) a _).far (p:=ad g 4) a _).far (p:=ad g 5) a _
theorem bS(h:Blk w g t #[a0,a1,a2,a3]):zL w g 0 a0∧zL w g 1 a1∧zL w g 2 a2∧zL w g 3 a3:=⟨h.c rfl,h.c rfl,h.c rfl,h.c rfl⟩
theorem Pg{b:AG}{ss:List Ae}:∀{l:List Nat}{puts:List Am}{z:Int},Ch b ss l puts=.error z->z≠0
 | [],puts,z,h=>by rw[Ch]at h;cases h
 | k::l,puts,z,h=>by
  rw[Ch]at h;split at h
  ·rename_i e a;injection h with h
   subst h;exact Su a
  exact Pg h
theorem VV{b:AG}{ss:List Ae}:∀{l:List Nat}{puts r:List Am},Ch b ss l puts=.ok r->(∀p∈puts,Q4 p.turn)->(∀p∈r,Q4 p.turn)∧r.length=puts.length+l.length
 | [],puts,r,h,h0=>by
  rw[Ch]at h;injection h with h
  subst h;exact⟨h0,rfl⟩
 | k::l,puts,r,h,h0=>by
  rw[Ch]at h;split at h
  ·cases h
  rename_i q e
  obtain⟨f,g⟩:=VV h (λp a=>by
   rcases zr1.1 a with a|a
   ·exact h0 p a
   obtain rfl:p=q:=by simpa using a
   exact Yc e)
  refine⟨f,?_⟩;simp at g⊢
  omega
theorem VW(h:De ss puts=.error z):z≠0:=by
 unfold De at h;split at h
 ·rename_i e a;injection h with h
  subst h;obtain⟨p,_,b⟩:=zr2.1 (FQ a);exact Ey b
 cases h
theorem JI{a4 a5:Value}(h:Blk w1 g T #[a0,a1,a2,a3,a4,a5])(u0 u1 u2 u3 u4 u5:Value):Blk ((((((w1.setCell (ad g 0) u0).setCell (ad g 1) u1).setCell (ad g 2) u2).setCell (ad g 3) u3).setCell (ad g 4) u4).setCell (ad g 5) u5) g T #[u0,u1,u2,u3,u4,u5]:=
 (((((h.set_ 0 u0).set_ 1 u1).set_ 2 u2).set_ 3 u3).set_ 4 u4).set_ 5 u5
theorem SS(s:Al)(Z:oA)(z zc:Nat)(M:oA)(m mc:Nat)(P:oA)(p pc:Nat)(U:oA)(u uc:Nat)(E:oA)(e ec:Nat)(O:oA)(o oc:Nat)(b:AG)(Sa:oA)(n sc:Nat)(zs:List Int)(w:World)(h:Co w s Z z zc M m mc P p pc U u uc E e ec O o oc)(hs:Dj s)(hz:Sl w w.heap.size Sa n (Ar zs))(cj:n<=9223372036854775807)(al:∀x,AI s zs=.ok x->x.1.length<20) :
  CP 6 #[.agg #[.string s.name,.slice Z z zc,.slice M m mc,.slice P p pc,.slice U u uc,.slice E e ec,.slice O o oc],.agg #[zi b.length,zi b.width,zi b.rx,zi b.ry],.slice Sa n sc] w (AaF (BE s b zs) w):=by
 have hB:Bw w (zw (zw (zw w #[.string s.name,.slice Z z zc,.slice M m mc,.slice P p pc,.slice U u uc,.slice E e ec,.slice O o oc] 29) #[zi b.length,zi b.width,zi b.rx,zi b.ry] 33) #[zi 0,zi 0,zi 0,zi 0,zn,zn] 40):=yU _ _ _ _;have G:=QE s Z z zc M m mc P p pc U u uc E e ec O o oc Sa n sc zs (zw (zw (zw w #[.string s.name,.slice Z z zc,.slice M m mc,.slice P p pc,.slice U u uc,.slice E e ec,.slice O o oc] 29) #[zi b.length,zi b.width,zi b.rx,zi b.ry] 33) #[zi 0,zi 0,zi 0,zi 0,zn,zn] 40) (h.on hB) hs (hz.on hB) cj;have X0:=((Blk.new w 29 #[.string s.name,.slice Z z zc,.slice M m mc,.slice P p pc,.slice U u uc,.slice E e ec,.slice O o oc]).alloc (.cells #[zi b.length,zi b.width,zi b.rx,zi b.ry] 33)).alloc (.cells #[zi 0,zi 0,zi 0,zi 0,zn,zn] 40);have X1:=(Blk.new' (zw w #[.string s.name,.slice Z z zc,.slice M m mc,.slice P p pc,.slice U u uc,.slice E e ec,.slice O o oc] 29) 33 #[zi b.length,zi b.width,zi b.rx,zi b.ry] (g:=w.heap.size+1) zP).alloc (.cells #[zi 0,zi 0,zi 0,zi 0,zn,zn] 40);have X2:=Blk.new' (zw (zw w #[.string s.name,.slice Z z zc,.slice M m mc,.slice P p pc,.slice U u uc,.slice E e ec,.slice O o oc] 29) #[zi b.length,zi b.width,zi b.rx,zi b.ry] 33) 40 #[zi 0,zi 0,zi 0,zi 0,zn,zn] (g:=w.heap.size+1+1) zP;have HB:=zH hB;have dd:=zH X0;have cn:=zH X1;have bo:=zH X2;obtain⟨x0,x1,x2,x3,x4,x5,x6⟩:=AS X0;obtain⟨r,Y⟩:=zG (AI s zs)
 rw[Y]at G
 cases r with
 | error z=>
  have HE:Hid (BE s b zs=.error z):=by rw[Hid,BE,Y]
  have D:z≠0:=lD Y;have bp:(z != 0)=true:=by simpa using D
  have G:=zH G;clear hB X0 X1 X2 h hs hz Y al D;go_enter func6,ntmps6;go_wp2_with(go_at_call 16;go_must((refine G.o.mono ?_);rintro e1 w1 ⟨t,rfl⟩;have a8:=zH (zT HB.o t);have a:=bo.o.below t;have a0:=zH a;have am:=a.lt;have z0:=a.frozen 0;have z1:=a.frozen 1;have z2:=a.frozen 2;have z3:=a.frozen 3;have z4:=a.frozen 4;have z5:=a.frozen 5;obtain⟨y0,y1,y2,y3,y4,y5⟩:=B9 a;clear t a))
  obtain⟨y0,y1,y2,y3,y4,y5⟩:=B9 ((JI a0.o (zi 0) (zi 0) (zi 0) (zi 0) (zn) (zn)).alloc (.cells #[zn] 73));refine bodyPost_ret (v:=.tuple #[.agg #[zi 0,zi 0,zi 0,zi 0,zn,zn],zi z]) (by simp[results,results6,go_sem,y0,y1,y2,y3,y4,y5]) rfl ?_;rw[HE.o];exact⟨Below.alo (Fg a8.o zO _ _ _ _ _ _) _,rfl⟩
 | ok x=>
  obtain⟨an,bq⟩:=I0 Y;have br:=al x Y;have ao:=zH Y
  have bt:BE s b zs=(match Ch b x.1 (Gk x.1) []with
   | .error e=>.error e
   | .ok puts=>match De x.1 puts with
    | .error e=>.error e
    | .ok n=>.ok ⟨n,b.width,(b.rx,b.ry),zs,BP x.2 puts⟩):=by rw[BE,Y];rfl
  have co:=zH bt;have G:=zH G;have ap:=zH an;have bu:=zH bq;have cp:=zH hz;have a9:zs.length=n:=hz.ilen;have aq:=zH a9;obtain⟨ss,ps⟩:=x;simp only at *
  obtain⟨N,hN⟩:=zG ss.length;have a1:=zH hN;rw[hN]at br;clear hB X0 X1 X2 h hs hz Y al bt an bq a9;have de:=λW=>lE N zO W
  have n0:(0:Int)<=(N:Int):=zO;go_enter func6,ntmps6;go_wp2_with(go_at_call 16;go_must((refine G.o.mono ?_);rintro e1 w1 ⟨t,A1,c1,B1,d1,rfl,bv,bw,bx⟩;have a8:=zH (zT HB.o t);have ar:=zH (cn.o.below t);have a0:=zH (bo.o.below t);have bz:=zH bv;have df:=zH bw;have cq:=zH bx;have cr:=zH t.size;clear t bv bw bx))
  go_loopw[12,34,35,36,37,38,39,40,41] (λ_ i _ _ _ _ _ _ _ wr=>∃k:Nat,k<=N∧i=zi (k:Int)∧Hid (Ia wr (w1.heap.size+1) N k)∧Hid (Blk wr w1.heap.size 73 #[.slice A1 N c1])∧Hid (Bw w1 wr)) (λ_ i _ _ _ _ _ _ _ _=>N-(intOf i).toNat)
  case atStart=>exact⟨0,zs3 _,rfl,zH (by have:=Xe (zw w1 #[.slice A1 N c1] 73) N;simpa using this),zH ((Blk.new w1 73 #[.slice A1 N c1]).alloc _),zH (Below.alo (zA _) _)⟩
  case round=>
   obtain⟨k,hk,rfl,au,l,av⟩:=hrel;by_cases aa:k<N
   ·obtain⟨zz,c0,f0,aw⟩:=au.o.cell aa;obtain⟨i1,i2⟩:=zI (k:=k) (n:=N) (by omega)
    go_wp2_with fail
    go_round
    case rel=>exact⟨k+1,by omega,by go_num,zH (au.o.step aa),zH (by exact(Below.heap_setCell wr ⟨w1.heap.size+1,k,none⟩ _ w1.heap.size zP).trans l.o),zH (av.o.setCell (p:=ad (w1.heap.size+1) k) (zt1 _) _)⟩
    case measure=>exact zM
   obtain rfl:N=k:=zO
   have ax:0<(DE N).size->∀W,GB wr.heap.size (w1.heap.size+1) wr W->∀x y:Fin (N-1+1),CP 18 #[zi ((x.val:Nat):Int),zi ((y.val:Nat):Int),.pointer (sa w1.heap.size 0)] W (zR (zi (Ep ((ss.map (·.poly)).getD y.val [])-Ep ((ss.map (·.poly)).getD x.val []))) W):=by
    intro h0 W hW x y;have Q:Below (w1.heap.size+1) wr W:=hW.lowB (zs2 _) (zV l.o.lt);rw[Ib]at h0;have a:=x.isLt;have hy:=y.isLt;exact rX ss A1 N c1 w1.heap.size x.val y.val W (by have:=bz.o.on Bz (av.o.trans (Q.mono (zt1 _)));rw[a1.o]at this;exact this) ((Q.cell (p:=ad w1.heap.size 0) (zs7 _)).trans (l.o.c rfl)) zO zO (λq F=>zs0 (ap.o q F) zD) (zs1 (l.o.lt) hW.size)
   have ay:=bN (λx:Fin (N-1+1)=>((x.val:Nat):Int)) (λx y=>Ep ((ss.map (·.poly)).getD y.val [])-Ep ((ss.map (·.poly)).getD x.val [])) w1.heap.size wr.heap.size (w1.heap.size+1) N (DE N) wr wr (zs2 _) ax ⟨GB.refl _ _ _,au.o.done⟩ (by rw[Ib];exact br);rw[Ib]at ay;have az:=zH ay;have cs:=zH (show w1.heap.size+1<=wr.heap.size from l.o.lt);have d9:=l.o.c (i:=0) rfl;clear ax ay;go_wp2_with(go_at_call 17;go_must((refine az.o.mono ?_);rintro e2 w2 ⟨rfl,b4⟩;have Q:=b4.gb.lowB (b:=w1.heap.size+1) (zs2 _) cs.o;have H:=zH (av.o.trans (Q.mono (zt1 _)));have ct:=zH (lF (by rw[Ib];exact b4) a1.o);have a5:=zH (show Blk w2 w1.heap.size 73 #[.slice A1 N c1]from(Q.block _ (zs7 _)).trans l.o);have dg:=a5.o.c (i:=0) rfl;have b6:=ar.o.below H.o;obtain⟨b0,b1,b2,b3⟩:=bS b6;clear b4 Q b6))
   have b7:=zH (show Ab 5 D6 w2 A1 N ss by have:=bz.o.on Bz H.o;rw[a1.o]at this;exact this);have b8:=zH (show ∀q∈ss,q.poly.length<=1000000 from λq F=>zs0 (ap.o q F) zD);have R:=rZ b A1 N c1 ss (sa (w1.heap.size+1) 0) N N (Gk ss) w2 b7.o ct.o zO b8.o;have a6:=zH (a0.o.below H.o);have S:=zH (zT a8.o H.o);obtain⟨r2,I⟩:=zG (Ch b ss (Gk ss) []);have B:=co.o;rw[I]at R B
   cases r2 with
   | error z=>
    have D:=Pg I;have bp:(z != 0)=true:=by simpa using D
    have HE:Hid (BE s b zs=.error z):=B;have ab:=zH R;clear R B I D;go_wp2_with(go_at_call 20;go_must((refine ab.o.mono ?_);rintro e3 w3 ⟨f,rfl⟩;have J:=zH (zT S.o f);have a:=a6.o.below f;have K:=zH a;have am:=a.lt;have z0:=a.frozen 0;have z1:=a.frozen 1;have z2:=a.frozen 2;have z3:=a.frozen 3;have z4:=a.frozen 4;have z5:=a.frozen 5;obtain⟨y0,y1,y2,y3,y4,y5⟩:=B9 a;clear f a))
    obtain⟨y0,y1,y2,y3,y4,y5⟩:=B9 (JI K.o (zi 0) (zi 0) (zi 0) (zi 0) (zn) (zn));refine bodyPost_ret (v:=.tuple #[.agg #[zi 0,zi 0,zi 0,zi 0,zn,zn],zi z]) (by simp[results,results6,go_sem,y0,y1,y2,y3,y4,y5]) rfl ?_;rw[HE.o];exact⟨Fg J.o zO _ _ _ _ _ _,rfl⟩
   | ok puts=>
    have cu:=zH (VU I);obtain⟨b9,ba⟩:=VV I (λp hp=>by cases hp);have c2:=zH b9
    have a7:puts.length=N:=by
     have:=(Fp ss).length_eq;have h9:=a1.o;simp at this ba;omega
    have ac:=zH a7;have ab:=zH R;obtain⟨r3,a2⟩:=zG (De ss puts);simp only at B;rw[a2]at B;have c3:=zH a2
    cases r3 with
    | error z=>
     have D:=VW a2;have bp:(z != 0)=true:=by simpa using D
     have HE:Hid (BE s b zs=.error z):=B;clear R B I a2 D b9 ba a7
     go_wp2_with(first
      | (go_at_call 20;go_must((refine ab.o.mono ?_);rintro e3 w3 ⟨f,PA,pc,rfl,a3,bb,bc⟩;have J:=zH (zT S.o f);have K:=zH (a6.o.below f);have ae:=zH a3;have bd:=zH (b7.o.on Bz f);have cv:=(a5.o.below f).c (i:=0) rfl;clear f a3 bb))
      | (go_at_call 21;go_must((refine(Qm A1 N c1 ss PA puts.length pc puts w3 bd.o ae.o (zV ac.o) b8.o c2.o).mono ?_);rintro e4 w4 a4;rw[c3.o]at a4;obtain⟨C,rfl⟩:=a4;have T:=zH (zT J.o C);have a:=K.o.below C;have be:=zH a;have am:=a.lt;have z0:=a.frozen 0;have z1:=a.frozen 1;have z2:=a.frozen 2;have z3:=a.frozen 3;have z4:=a.frozen 4;have z5:=a.frozen 5;obtain⟨y0,y1,y2,y3,y4,y5⟩:=B9 a;clear C a)))
     obtain⟨y0,y1,y2,y3,y4,y5⟩:=B9 (JI be.o (zi 0) (zi 0) (zi 0) (zi 0) (zn) (zn));refine bodyPost_ret (v:=.tuple #[.agg #[zi 0,zi 0,zi 0,zi 0,zn,zn],zi z]) (by simp[results,results6,go_sem,y0,y1,y2,y3,y4,y5]) rfl ?_;rw[HE.o];exact⟨Fg T.o zO _ _ _ _ _ _,rfl⟩
    | ok L=>
     have HE:Hid (BE s b zs=.ok ⟨L,b.width,(b.rx,b.ry),zs,BP ps puts⟩):=B;clear R B I a2 b9 ba a7
     go_wp2_with(first
      | (go_at_call 20;go_must((refine ab.o.mono ?_);rintro e3 w3 ⟨f,PA,pc,rfl,a3,bb,bc⟩;have J:=zH (zT S.o f);have K:=zH (a6.o.below f);have c4:=zH (zT H.o f);have cw:=zH bc;clear bc;have ae:=zH a3;have bd:=zH (b7.o.on Bz f);have cv:=(a5.o.below f).c (i:=0) rfl;clear f a3 bb))
      | (go_at_call 21;go_must((refine(Qm A1 N c1 ss PA puts.length pc puts w3 bd.o ae.o (zV ac.o) b8.o c2.o).mono ?_);rintro e4 w4 a4;rw[c3.o]at a4;obtain⟨C,rfl⟩:=a4;have T:=zH (zT J.o C);have be:=zH (K.o.below C);have ck:=zH (ae.o.on D7 C);have af:=zH (zT c4.o C);clear C)))
     obtain⟨gp,ag,bf,c5,c6⟩:=lI cq.o rfl cr.o;have cl:=zH bf;clear bf;have bg:0<puts.length->0<ps.length:=λh=>by have:=ac.o;have:=bu.o;have:=a1.o;omega
     have bh:=zH c5;have cx:=zH bg;have cy:=zH c6;have ah:=zH ag;clear c5 bg c6 ag
     go_loopw[16,68,69,70,71,72,73,74,75,76,77,78,79,80,81,82,83,84,85,86,87,88] (λ_ i _ _ _ _ _ _ _ _ _ _ _ _ _ _ _ _ _ _ _ _ wr=>∃k:Nat,k<=puts.length∧i=zi (k:Int)∧Hid (GB w4.heap.size gp w4 wr)∧Hid (0<ps.length->ER wr gp (BP ps (puts.take k)))) (λ_ i _ _ _ _ _ _ _ _ _ _ _ _ _ _ _ _ _ _ _ _ _=>puts.length-(intOf i).toNat)
     case atStart=>exact⟨0,zs3 _,rfl,zH (GB.refl _ _ _),zH (λh=>(bh.o h).2.2.below af.o)⟩
     case round=>
      obtain⟨k,hk,rfl,V,bi⟩:=hrel;have d8:puts.length<20:=by have:=ac.o;omega
      by_cases aa:k<puts.length
      ·have X:=cx.o zO;obtain⟨rfl,aw,_⟩:=bh.o X;obtain⟨b5,da,q,rfl,dh,bj,e0,e1,e2,e3,e4⟩:=Ik (xA ck.o (λg o e=>by have:=cw.o g o e;have:=H.o.size;omega) V.o) aa;obtain⟨kk,c7,bk⟩:=(cu.o q (zq2 bj)).resolve_left (λh=>by cases h)
       have c8:kk<ps.length:=by
        have h1:=(Fp ss).mem_iff.1 c7;rw[zt8]at h1;have:=bu.o;omega
       rw[bk]at e0;obtain⟨pp,bl⟩:∃pp,(BP ps (puts.take k))[kk]?=some pp:=⟨_,zq0 (by rw[OB];exact c8)⟩;obtain⟨v4,v5,v6,ai,db⟩:=(bi.o X).cells bl;have f4:=ai (kk*7+4);have f5:=ai (kk*7+5);have f6:=ai (kk*7+6);have cz:=zH (lH (ps:=ps) bj);have az:=zH ((bi.o X).step bl q);have d0:=zH bk;have i1:(0:Int)<=(k:Int):=zO;have i2:(k:Int)<(puts.length:Int):=zO;have i3:(0:Int)<=(kk:Int):=zO;have i4:(kk:Int)<(ps.length:Int):=zO;have X5:=Blk.new wr 87 #[zi (kk:Int),.bool q.turn.flip,zi q.turn.quarter,zi q.at_.1,zi q.at_.2];have Y5:Blk (zw (wr.setCell (ad gp (kk*7+4)) (zi q.turn.quarter)) #[zi (kk:Int),.bool q.turn.flip,zi q.turn.quarter,zi q.at_.1,zi q.at_.2] 87) wr.heap.size 87 #[zi (kk:Int),.bool q.turn.flip,zi q.turn.quarter,zi q.at_.1,zi q.at_.2]:=Blk.new' _ _ _ zP;obtain⟨g0,g1,g2,g3,g4⟩:=Ff X5;obtain⟨h0,h1,h2,h3,h4⟩:=Ff Y5;clear X5 Y5 ai bk bj bl c7 c8
       go_wp2_with fail
       go_round
       case rel=>exact⟨k+1,by omega,by go_num,zH ((((V.o.set_ _ _).set_ _ _).set_ _ _).alo _),zH (λ_=>by rw[cz.o,d0.o];exact az.o.below (zA _))⟩
       case measure=>exact zM
      obtain rfl:k=puts.length:=zO;have aj:=lJ (ar.o.below af.o) (λe=>by have:=ah.o;simp at this;omega) V.o;have c9:=lJ (a0.o.below af.o) (λe=>by have:=ah.o;simp at this;omega) V.o;obtain⟨b0,b1,b2,b3⟩:=bS aj;have d2:=zH c9;have aw:=aj.lt;have d3:=zH (λW (hW:Bw wr W)=>bS (aj.below hW));have ca:Sl wr wr.heap.size Sa n (Ar zs):=AaE ((cp.o.below T.o).more (by have:=ah.o;simp at this;omega)) (by have:=T.o.size;have:=af.o.size;have:=cl.o;omega) V.o;have dc:=(Kv ao.o).1;have d4:=zH (λW (hW:Bw wr W)=>bR Sa n sc zs W (ca.on hW) (by have:=Yl ao.o;have:=aq.o;omega) (zV aq.o));have cm:=zH (λw' (hw:w'=wr)=>hw);clear aj c9 ca cm
      go_wp2_with fail
      go_cut [17]from 89 to 98 (λv17 wx=>∃(g ga cc:Nat),v17=.pointer (sa g 0)∧Blk wx g 40 #[zi L,zi b.width,zi b.rx,zi b.ry,.slice (sa ga 0) n cc,.slice B1 ps.length d1]∧K3 wx ga zs∧n<=cc∧Bw wr wx)
      case first=>
       have F:=Below.refl wr.heap.size wr
       go_region_held3(λw'=>w'.cell? (ad (w.heap.size+1) 0)=some (zi b.length)∧w'.cell? (ad (w.heap.size+1) 1)=some (zi b.width)∧w'.cell? (ad (w.heap.size+1) 2)=some (zi b.rx)∧w'.cell? (ad (w.heap.size+1) 3)=some (zi b.ry))
        ((refine d3.o _ ?_;repeat(first|(with_reducible exact zJ)|(with_reducible exact F)|(with_reducible refine Fg ?_ (zs2 _) _ _ _ _ _ _)|(with_reducible refine Below.drew ?_)|(with_reducible refine Below.alo ?_ _))))
        ((go_at_call 22;go_must((refine(d4.o _ zB).mono ?_);rintro e5 w5 ⟨ga,cc,rfl,cb,cd,ak⟩;(first|replace F:=Ag F ak|((have j:Blk w5 wr.heap.size 40 #[zi 0,zi 0,zi 0,zi 0,zn,zn]:=Blk.below (by exact Blk.new' wr 40 #[zi 0,zi 0,zi 0,zi 0,zn,zn] rfl) ak);(obtain⟨m0,m1,m2,m3,m4,m5⟩:=B9 j);have s0:=j.frozen 0;have s1:=j.frozen 1;have s2:=j.frozen 2;have s3:=j.frozen 3;have s4:=j.frozen 4;have s5:=j.frozen 5;have di:=j.lt;have bm:=zH j;clear j;replace F:=Ag (Below.alo F _) ak));have ce:=zH cb;have cf:=zH cd;clear ak cb cd)))
       all_goals
        go_wp2_with fail
        go_meet
        first
        | ((with_reducible refine⟨w5.heap.size,ga,cc,rfl,Blk.new _ _ _,?_,cf.o,Below.alo F _⟩);(exact ce.o.below (zA _)))
        | exact⟨wr.heap.size,ga,cc,rfl,JI bm.o _ _ _ _ _ _,ce.o.six bm.o zD _ _ _ _ _ _,cf.o,Fg F (zs2 _) _ _ _ _ _ _⟩
      case rest=>
       obtain⟨g7,ga,cc,rfl,bn,hi,hc,j⟩:=hcut;have a:=d2.o.below j;have HX:=zH a;have HI:=zH hi;have l:=zH j;have am:=a.lt;have z0:=a.frozen 0;have z1:=a.frozen 1;have z2:=a.frozen 2;have z3:=a.frozen 3;have z4:=a.frozen 4;have z5:=a.frozen 5;obtain⟨y0,y1,y2,y3,y4,y5⟩:=B9 a;obtain⟨q0,q1,q2,q3,q4,q5⟩:=B9 bn;have dj:=bn.lt;clear a hi j bn
       go_wp2_with fail
       obtain⟨y0,y1,y2,y3,y4,y5⟩:=B9 (JI HX.o (zi L) (zi b.width) (zi b.rx) (zi b.ry) (.slice (sa ga 0) n cc) (.slice B1 ps.length d1));refine bodyPost_ret (v:=.tuple #[.agg #[zi L,zi b.width,zi b.rx,zi b.ry,.slice (sa ga 0) n cc,.slice B1 ps.length d1],zi 0]) (by simp[results,results6,go_sem,y0,y1,y2,y3,y4,y5]) rfl ?_;rw[HE.o];have ag:=ah.o;simp at ag;have a9:=aq.o;have cg:(BP ps puts).length=ps.length:=OB;have ch:Bw w wr:=T.o.trans (V.o.lowB zO (zV T.o.size));refine⟨Fg (zT ch l.o) zO _ _ _ _ _ _,some ⟨ga,0,none⟩,cc,B1,d1,?_,?_,?_,?_,?_⟩
       ·show _=Ending.returned (.tuple #[.agg #[zi L,zi b.width,zi b.rx,zi b.ry,.slice (sa ga 0) zs.length cc,.slice B1 (BP ps puts).length d1],zi 0]);rw[a9,cg]
       ·exact(HI.o.six HX.o zD _ _ _ _ _ _).sl rfl
       ·show Ab 7 Dy _ B1 (BP ps puts).length (BP ps puts);by_cases X:0<ps.length
        ·obtain⟨rfl,aw,_⟩:=bh.o X;have ci:=bi.o X;rw[List.take_length]at ci;obtain⟨pcs,d5,d6⟩:=ci.below l.o;have d7:gp≠w.heap.size+1+1:=zO;exact ER.recs (g:=gp) ⟨pcs,xB d5 d7 _ _ _ _ _ _,d6⟩ rfl
        have h0:BP ps puts=[]:=zt7 zO;rw[h0];exact Ab.nil _ _ _ _
       ·show zs.length<=cc;omega
       show(BP ps puts).length<=d1;rw[cg];exact cy.o
theorem ST{s:Al}(h:∀x∈s.uses,1<=x.count∧x.count<=4):∀k,k<=s.uses.length->((Gg s k).length:Int)=Ir (s.uses.take k)
 | 0,_=>rfl
 | k+1,hk=>by
  have a:s.uses[k]?=some s.uses[k]:=zq0 zO;have b:=ST h k zO;have e:=h _ (List.getElem_mem (show k<s.uses.length by omega));rw[Mr a,Ny a,<-b];simp only[zq5,zq6,zq8];omega
theorem lK(a:Ir s.uses*(zs.length:Int)<=6){x:List Ae×List Ac}(h:AI s zs=.ok x):x.1.length<20:=by
 obtain⟨f,b⟩:=Hr h;have g:=(I0 h).2;have e:=ST (λu i=>(Du b u i).2.2) s.uses.length (zs2 _);rw[List.take_length,<-Ms b]at e;rw[<-e]at a
 have j:(AP s).length*zs.length<=6:=by
  have:((((AP s).length*zs.length:Nat)):Int)<=6:=by rw[Int.natCast_mul];exact a
  omega
 rw[g,f];omega
theorem bT(h:BE s b zs=.error z):z≠0:=by
 unfold BE at h;split at h
 ·rename_i e a;injection h with h
  subst h;exact lD a
 split at h
 ·rename_i e a;injection h with h
  subst h;exact Pg a
 split at h
 ·rename_i e a;injection h with h
  subst h;exact VW a
 cases h
theorem bV:BE CC ⟨100,20,0,0⟩ [0]=.ok Eq:=by
 have h:=YM
 cases hr:BE CC ⟨100,20,0,0⟩ [0]with
 | error z=>rw[hr]at h;cases h
 | ok mk=>
  rw[hr]at h;have a:=zs6 h;rw[a];rfl
theorem Xg:(AP CC).length=2:=by decide +kernel
theorem sA{x:List Ae×List Ac}(h:AI CC [0]=.ok x):x.1.length<20:=by
 rw[(I0 h).2,(Hr h).1,Xg];decide
def SU:ByteArray:=⟨#[109,97,114,107,101,114,32,49,48,32,50,48,32,48,32,48,10,115,105,122,101,115,32,48,10,112,108,97,99,101,32,48,32,48,32,48,32,48,32,48,32,48,10,112,108,97,99,101,32,48,32,48,32,49,32,102,108,105,112,32,48,32,49,48,32,49,48,10]⟩
theorem bW:(if CZ Eq=0 then bytes (E4 Eq)else(⟨#[]⟩:ByteArray))=SU:=by
 rw[if_pos MW.1,MW.2];rfl
theorem VX(w:World):CP 8 #[.string ⟨#[]⟩] w λe w'=>e=.returned (.tuple #[.agg #[zi 0,zi 0,zi 0,zi 0,zn,zn],zi 4,zi 1])∧Below w.heap.size w w':=by
 have a:Below w.heap.size w ((w.alloc (.cells #[zi 0,zi 0,zi 0,zi 0,zn,zn] 40)).alloc (.cells #[zi 0,zi 0,zi 0,zi 0,zn,zn] 40)):=I8 _ _ _;have X0:=(Blk.new w 40 #[zi 0,zi 0,zi 0,zi 0,zn,zn]).alloc (.cells #[zi 0,zi 0,zi 0,zi 0,zn,zn] 40);go_enter func8,ntmps8
 go_wp2_with fail
 obtain⟨W,f⟩:=zG ((w.alloc (.cells #[zi 0,zi 0,zi 0,zi 0,zn,zn] 40)).alloc (.cells #[zi 0,zi 0,zi 0,zi 0,zn,zn] 40));obtain⟨g,b⟩:=zG w.heap.size;rw[b]at X0;rw[f]at a X0⊢
 rw[b]at a⊢
 have j:g<=g:=zs2 _;clear f
 go_loopw[0,6,7,8,9,10,15,16,17,18,19,20,21,22,23,24,25,26,27,28,29,30,31,32,33,34,35,36,37,38,39,40,41,42,43,44,45] (λs i _ _ _ _ _ _ _ _ _ _ _ _ _ _ _ _ _ _ _ _ _ _ _ _ _ _ _ _ _ _ _ _ _ _ _ wr=>s=.string ⟨#[]⟩∧i=zi 1∧wr=W) (λ_ _ _ _ _ _ _ _ _ _ _ _ _ _ _ _ _ _ _ _ _ _ _ _ _ _ _ _ _ _ _ _ _ _ _ _ _ _=>1)
 case atStart=>exact⟨rfl,rfl,rfl⟩
 case round=>
  obtain⟨rfl,rfl,rfl⟩:=hrel;have y0:=X0.frozen 0;have y1:=X0.frozen 1;have y2:=X0.frozen 2;have y3:=X0.frozen 3;have y4:=X0.frozen 4;have y5:=X0.frozen 5;have yl:=X0.lt;obtain⟨c0,c1,c2,c3,c4,c5⟩:=B9 X0
  go_wp2_with fail
  obtain⟨z0,z1,z2,z3,z4,z5⟩:=B9 (JI X0 (zi 0) (zi 0) (zi 0) (zi 0) (zn) (zn));refine bodyPost_ret (v:=.tuple #[.agg #[zi 0,zi 0,zi 0,zi 0,zn,zn],zi 4,zi 1]) (by simp[results,results8,go_sem,z0,z1,z2,z3,z4,z5]) rfl ?_;rw[b];exact⟨rfl,Fg a (zs2 _) _ _ _ _ _ _⟩
theorem KH(w:World)(r:Std w):CP 5 #[] w λe w'=>e=.returned (zY)∧Below w.heap.size w w':=by
 have D:=zH r;clear r;go_enter func5,ntmps5
 go_wp2_with(first
  | (go_at_call 15;go_must((refine(rH _).mono ?_);rintro e1 w1 ⟨gZ,gM,gP,gU,rfl,s,f⟩;have a:Below w1.heap.size w1 (zw w1 #[zi 0] 3):=zA _;have j:=zH (zT f a);have t:=zH (SS CC _ 2 2 _ 2 2 _ 1 1 _ 1 1 _ 0 0 _ 0 0 ⟨100,20,0,0⟩ (sa w1.heap.size 0) 1 1 [0] _ (s.on a) aU (Sl.blkM (Blk.new w1 3 #[zi 0]) rfl rfl) zD (λx E=>sA E));clear s f a))
  | (go_at_call 6;go_must((refine t.o.mono ?_);rintro e2 w2 k;rw[bV]at k;obtain⟨a,A,c,B,d,rfl,l,m,v,y⟩:=k;have b:Below w2.heap.size w2 (zw w2 (EG Eq A 1 c B 2 d) 40):=zA _;have g:=zT j.o a;have i:=zT g b;have z:=zH (Mp Eq A 1 c B 2 d _ (D.o.below i) (l.on b) (m.on Ba b) zD zD);have n:=zH i;obtain⟨m0,m1,m2,m3,m4,m5⟩:=B9 (Blk.new w2 40 (EG Eq A 1 c B 2 d));clear a b g i l m v y))
  | (go_at_call 7;go_must((refine z.o.mono ?_);rintro e4 w4 ⟨q,p⟩;rw[bW,MW.1]at q;unfold SU at q;subst q;have C:=zH (zT n.o p);clear p)))
 go_ret;exact⟨rfl,C.o⟩
end Go.Proofs.YteafekbddckemaaGreatDoor
