/- Parts of the proof. -/
import Derived.Test.YteafekbddckemaaGreatDoorH43
set_option maxRecDepth 100000
set_option maxHeartbeats 40000000
namespace Go.Proofs.YteafekbddckemaaGreatDoor
open Go.Proofs.Tryz Go.RowKit
open Go.Lib hiding intOf
variable{A:oA}{B b g gp j k n:Nat}{W X w w' w0 wr:World}{fl:Bool}{l:List Dw}{p:Am}{ps:List Ac}{puts:List Am}{q:Ae}{s:Al}{ss:List Ae}{u0 u1 u2:Value}{x:Dw}{y z:Int}{zs:List Int}{α:Type}
theorem kT(d:Nat)(x:Ac)(w:World):(Op.equalIn (d+3) 58 (.agg #[zi x.garment,zi x.use,zi x.copy,.bool x.turn.flip,zi x.turn.quarter,zi x.at_.1,zi x.at_.2]) (.agg #[zi x.garment,zi x.use,zi x.copy,.bool x.turn.flip,zi x.turn.quarter,zi x.at_.1,zi x.at_.2])).run prog w=.ok true w:=by
 have ui:=underlying3;have ai:=isAgg3;have zi:=sizeOf3;have ub:=underlying4;have ab:=isAgg4;have zb:=sizeOf4;have uT:=underlying55;have aT:=isAgg55;have zT:=sizeOf55;have uS:=underlying56;have aS:=isAgg56;have zS:=sizeOf56;have up:=underlying58;have ap:=isAgg58;have zp:=sizeOf58;have a:prog.underlying 58=some (.struct (prog.fieldsOf 58)):=zk;have b:prog.stoodInHeld 58=false:=zk;have e:=U5 d x.turn x.turn;have f:=U6 d x.at_ x.at_;simp only[decide_true]at e f;rw[show d+3=(d+2)+1 from rfl,run_equalIn_agg w (d+2) _ _ _ a b];simp only[Program.fieldsOf,underlying58];go_simp
theorem wX(d:Nat)(x y:Int)(w:World):(Op.equalIn (d+2) 31 (.agg #[zi x,zi y]) (.agg #[zi x,zi y])).run prog w=.ok true w:=by
 have ui:=underlying3;have ai:=isAgg3;have zi:=sizeOf3;have a:prog.underlying 31=some (.struct (prog.fieldsOf 31)):=zk;have b:prog.stoodInHeld 31=false:=zk;rw[show d+2=(d+1)+1 from rfl,run_equalIn_agg w (d+1) _ _ _ a b];simp only[Program.fieldsOf,underlying31];go_simp
theorem kU(m:Au)(S1 S2 P1 P2:oA)(n c1 c2 k d1 d2:Nat)(w:World)(x:Sl w w.heap.size S1 n (Ar m.sizes))(y:Sl w w.heap.size S2 n (Ar m.sizes))(B:Ab 7 Dy w P1 k m.places)(C:Ab 7 Dy w P2 k m.places)(P:n<=1000)(Q:k<=1000) :
  CP 9 #[.agg #[zi m.length,zi m.width,zi m.repeat_.1,zi m.repeat_.2,.slice S1 n c1,.slice P1 k d1],.agg #[zi m.length,zi m.width,zi m.repeat_.1,zi m.repeat_.2,.slice S2 n c2,.slice P2 k d2]] w (zR (zY) w):=by
 have G:Bw w ((w.alloc (.cells #[zi m.length,zi m.width,zi m.repeat_.1,zi m.repeat_.2,.slice S1 n c1,.slice P1 k d1] 40)).alloc (.cells #[zi m.length,zi m.width,zi m.repeat_.1,zi m.repeat_.2,.slice S2 n c2,.slice P2 k d2] 40)):=I8 _ _ _;have X0:=(Blk.new w 40 #[zi m.length,zi m.width,zi m.repeat_.1,zi m.repeat_.2,.slice S1 n c1,.slice P1 k d1]).alloc (.cells #[zi m.length,zi m.width,zi m.repeat_.1,zi m.repeat_.2,.slice S2 n c2,.slice P2 k d2] 40);have X1:=Blk.new' (w.alloc (.cells #[zi m.length,zi m.width,zi m.repeat_.1,zi m.repeat_.2,.slice S1 n c1,.slice P1 k d1] 40)) 40 #[zi m.length,zi m.width,zi m.repeat_.1,zi m.repeat_.2,.slice S2 n c2,.slice P2 k d2] (g:=w.heap.size+1) zP;have H:=zH x;have I:=zH y;have J:=zH B;have K:=zH C;have qr:=λW=>wX 9998 m.repeat_.1 m.repeat_.2 W
 clear x y B C;go_enter func9,ntmps9
 go_wp2_with fail
 generalize(w.alloc (.cells #[zi m.length,zi m.width,zi m.repeat_.1,zi m.repeat_.2,.slice S1 n c1,.slice P1 k d1] 40)).alloc (.cells #[zi m.length,zi m.width,zi m.repeat_.1,zi m.repeat_.2,.slice S2 n c2,.slice P2 k d2] 40)=w0 at *
 have s:=zH G;have D:=zH X0;have E:=zH X1;clear G X0 X1 qr
 go_loopw[5,44,45,46,47,48,49,50,51,52,53,54,55,56,57,58,59,60,61] (λi _ _ _ _ _ _ _ _ _ _ _ _ _ _ _ _ _ _ wr=>∃j:Nat,j<=n∧i=zi (j:Int)∧Hid (Bw w0 wr)) (λi _ _ _ _ _ _ _ _ _ _ _ _ _ _ _ _ _ _ _=>n-(intOf i).toNat)
 case atStart=>exact⟨0,zs3 _,rfl,zH zJ⟩
 case round=>
  obtain⟨j,R,rfl,b⟩:=hrel;have F:=zH (zT s.o b.o);obtain⟨x0,x1,x2,x3,x4,x5⟩:=B9 (D.o.below b.o);obtain⟨y0,y1,y2,y3,y4,y5⟩:=B9 (E.o.below b.o);by_cases a:j<n
  ·obtain⟨b1,o1,z,rfl,L,M,k1⟩:=(H.o.on F.o).int_ a;obtain⟨b2,o2,z',rfl,N,f,k2⟩:=(I.o.on F.o).int_ a;rw[M]at f;obtain rfl:=zs6 f;obtain⟨i1,i2⟩:=zI (k:=j) (n:=n) (by omega);clear M f
   go_wp2_with fail
   go_quiet (fail)
   go_wp2_with fail
   go_roundw
   case rel=>exact⟨j+1,by omega,by go_num,zH (Ai b.o _)⟩
   case measure=>exact zM
  obtain rfl:j=n:=zO;obtain⟨wo,rfl⟩:=zE wr
  go_wp2_with fail
  go_loopw[6,62,63,64,65,66,67,68,69,70,71,72,73,74,75,76,77,78,79] (λi _ _ _ _ _ _ _ _ _ _ _ _ _ _ _ _ _ _ wr=>∃l:Nat,l<=k∧i=zi (l:Int)∧Hid (Bw w0 wr)) (λi _ _ _ _ _ _ _ _ _ _ _ _ _ _ _ _ _ _ _=>k-(intOf i).toNat)
  case atStart=>exact⟨0,zs3 _,rfl,b⟩
  case round=>
   clear x0 x1 x2 x3 x4 x5 y0 y1 y2 y3 y4 y5;obtain⟨l,S,rfl,t⟩:=hrel;have q:=zH (zT s.o t.o);obtain⟨x0,x1,x2,x3,x4,x5⟩:=B9 (D.o.below t.o);obtain⟨y0,y1,y2,y3,y4,y5⟩:=B9 (E.o.below t.o);by_cases a:l<k
   ·obtain⟨b1,o1,p,rfl,L,O,k0,k1,k2,k3,k4,k5,k6⟩:=EB (J.o.on Ba q.o) a;obtain⟨b2,o2,p',rfl,N,r,l0,l1,l2,l3,l4,l5,l6⟩:=EB (K.o.on Ba q.o) a;rw[O]at r;obtain rfl:=zs6 r;have qp:=λW=>kT 9997 p W
    obtain⟨i1,i2⟩:=zI (k:=l) (n:=k) (by omega);clear O r
    go_wp2_with fail
    go_quiet (fail)
    go_wp2_with fail
    go_roundw
    case rel=>exact⟨l+1,by omega,by go_num,zH (Ai t.o _)⟩
    case measure=>exact zM
   obtain rfl:l=k:=zO
   go_wp2_with fail
   go_ret;exact⟨rfl,q.o⟩
def Ir(l:List Dw):Int:=(l.map λx=>min (max x.count 0) 9).foldl (· + ·) 0
theorem Ny(h:l[j]?=some x):Ir (l.take (j+1))=Ir (l.take j)+min (max x.count 0) 9:=by
 unfold Ir;rw[List.take_add_one,h,zr0,List.foldl_append];rfl
theorem Yj(l:List Dw):∀j,0<=Ir (l.take j)∧Ir (l.take j)<=9*(j:Int)
 | 0=>by simp[Ir]
 | j+1=>by
  have a:=Yj l j
  cases h:l[j]? with
  | none=>
   rw[List.take_add_one,h];simp only[Option.toList_none,zt3];omega
  | some x=>
   rw[Ny h];omega
def AaC(s:Al)(g:Int)(w:World)(e:Ending)(w':World):Prop:=∃b:Bool,e=.returned (.bool b)∧Bw w w'∧(b=true->Ir s.uses*g<=6∧0<=g∧g<=7)
theorem bH(s:Al)(Z:oA)(z zc:Nat)(M:oA)(m mc:Nat)(P:oA)(p pc:Nat)(U:oA)(u uc:Nat)(E:oA)(e ec:Nat)(O:oA)(o oc:Nat)(g:Int)(w:World)(h:Co w s Z z zc M m mc P p pc U u uc E e ec O o oc)(f:Dj s)(H : -9223372036854775808<=g∧g<=9223372036854775807) :
  CP 4 #[.agg #[.string s.name,.slice Z z zc,.slice M m mc,.slice P p pc,.slice U u uc,.slice E e ec,.slice O o oc],zi g] w (AaC s g w):=by
 have a:Hid (Bw w (w.alloc (.cells #[.string s.name,.slice Z z zc,.slice M m mc,.slice P p pc,.slice U u uc,.slice E e ec,.slice O o oc] 29))):=zA _;have HX:=zH (Blk.new w 29 #[.string s.name,.slice Z z zc,.slice M m mc,.slice P p pc,.slice U u uc,.slice E e ec,.slice O o oc]);have I:=zH h;have HS:=zH f;have l1:p<=9223372036854775807:=by rw[<-h.pieces.len];exact f.pcs
 have l2:u<=9223372036854775807:=by rw[<-h.uses.len];exact f.us
 have l3:e<=9223372036854775807:=by rw[<-h.seams.len];exact f.sm
 have l4:o<=9223372036854775807:=by rw[<-h.ops.len];exact f.ops
 have l5:z<=9223372036854775807:=by rw[<-h.sizes.slen];exact f.szs
 have l6:m<=9223372036854775807:=by have:=h.mults.ilen;have:=f.mul;omega
 have C:=h.uses.len;have J:=zH C;have af:=H.1;have ag:=H.2;clear h f C H;by_cases a3:4<p
 ·have v:(4:Int)<(p:Int):=zO;go_enter func4,ntmps4
  go_wp2_with fail
  go_ret;exact⟨false,rfl,a.o,λh=>by cases h⟩
 have n4lp:¬(4:Int)<(p:Int):=zO;by_cases a4:4<u
 ·have v:(4:Int)<(u:Int):=zO;go_enter func4,ntmps4
  go_wp2_with fail
  go_ret;exact⟨false,rfl,a.o,λh=>by cases h⟩
 have n4lu:¬(4:Int)<(u:Int):=zO;by_cases a5:4<z
 ·have v:(4:Int)<(z:Int):=zO;go_enter func4,ntmps4
  go_wp2_with fail
  go_ret;exact⟨false,rfl,a.o,λh=>by cases h⟩
 have n4lz:¬(4:Int)<(z:Int):=zO;by_cases a6:4<m
 ·have v:(4:Int)<(m:Int):=zO;go_enter func4,ntmps4
  go_wp2_with fail
  go_ret;exact⟨false,rfl,a.o,λh=>by cases h⟩
 have n4lm:¬(4:Int)<(m:Int):=zO;by_cases a7:6<e
 ·have v:(6:Int)<(e:Int):=zO;go_enter func4,ntmps4
  go_wp2_with fail
  go_ret;exact⟨false,rfl,a.o,λh=>by cases h⟩
 have n6le:¬(6:Int)<(e:Int):=zO;by_cases a8:8<o
 ·have v:(8:Int)<(o:Int):=zO;go_enter func4,ntmps4
  go_wp2_with fail
  go_ret;exact⟨false,rfl,a.o,λh=>by cases h⟩
 have n8lo:¬(8:Int)<(o:Int):=zO;by_cases a9:g<0
 ·go_enter func4,ntmps4
  go_wp2_with fail
  go_ret;exact⟨false,rfl,a.o,λh=>by cases h⟩
 by_cases aa:7<g
 ·go_enter func4,ntmps4
  go_wp2_with fail
  go_ret;exact⟨false,rfl,a.o,λh=>by cases h⟩
 have K:=zH (I.o.pieces.on FW a.o);have L:=zH (I.o.uses.on JK a.o);go_enter func4,ntmps4
 go_wp2_with fail
 generalize w.alloc (.cells #[.string s.name,.slice Z z zc,.slice M m mc,.slice P p pc,.slice U u uc,.slice E e ec,.slice O o oc] 29)=w0 at *
 obtain⟨x0,x1,x2,x3,x4,x5,x6⟩:=AS HX.o
 go_loop [5,6,7,52,53,54,55,56,57,58,59,60,61,62,63,64,65,66,67,68,69,70,71,72,73,74,75,76,77,78,79,80,81,82,83,84,85,86,87,88,89,90,91,92,93,94,95,96,97,98,99,100,101,102,103,104,105,106,107,108,109] (λvi _ _ _ _ _ _ _ _ _ _ _ _ _ _ _ _ _ _ _ _ _ _ _ _ _ _ _ _ _ _ _ _ _ _ _ _ _ _ _ _ _ _ _ _ _ _ _ _ _ _ _ _ _ _ _ _ _ _ _ _=>∃i:Nat,i<=p∧vi=zi (i:Int)) (λvi _ _ _ _ _ _ _ _ _ _ _ _ _ _ _ _ _ _ _ _ _ _ _ _ _ _ _ _ _ _ _ _ _ _ _ _ _ _ _ _ _ _ _ _ _ _ _ _ _ _ _ _ _ _ _ _ _ _ _ _=>p-(intOf vi).toNat)
 case atStart=>exact⟨0,zs3 _,rfl⟩
 case round=>
  obtain⟨i,hi,rfl⟩:=hrel;by_cases Q:i<p
  ·obtain⟨b,R,y,A1,n1,c1',A2,n2,c2',A3,n3,c3',A4,n4,c4',rfl,S,V,d0,d1,d2,d3,d4,d5,d6,r1,r2,r3,r4,r5,r6,r7,r8⟩:=Ex K.o Q;have l:=HS.o.pc y (zq2 V);have ah:n1<=9223372036854775807:=by rw[<-r1.len];exact l.eds
   have ai:n2<=9223372036854775807:=by rw[<-r3.len];exact l.not
   have W:=zH r1;have X:=zH (λ(x:As)(k:x∈y.edges)=>(l.ed x k).ln);obtain⟨i1,i2⟩:=zI (k:=i) (n:=p) (by omega);clear V r1 r2 r3 r4 r5 r6 r7 r8 l
   go_wp2_with fail
   go_loop [6,7,59,60,61,62,63,64,65,66,67,68,69,70,71,72,73,74,75,76,77,78,79,80,81,82,83,84,85,86,87] (λvn vj _ _ _ _ _ _ _ _ _ _ _ _ _ _ _ _ _ _ _ _ _ _ _ _ _ _ _ _ _=>∃(j:Nat)(N:Int),j<=17∧0<=N∧N<=20*(j:Int)∧vj=zi (j:Int)∧vn=zi N) (λvn vj _ _ _ _ _ _ _ _ _ _ _ _ _ _ _ _ _ _ _ _ _ _ _ _ _ _ _ _ _=>17-(intOf vj).toNat)
   case atStart=>exact⟨0,0,zs3 _,by omega,by omega,rfl,rfl⟩
   case round=>
    obtain⟨j,N,hj,aj,ak,rfl,rfl⟩:=hrel;by_cases Y:j<n1
    ·by_cases ab:j<17
     ·obtain⟨b2,ac,x,B2,ln,lc,rfl,ae,k,k0,k1,n,a0⟩:=EO W.o Y;have al:ln<=9223372036854775807:=by rw[<-n.len];exact X.o x (zq2 k)
      obtain⟨q,hq⟩:=zG (min (ln:Int) 20);have D:0<=q:=zO;have F:q<=20:=zO;obtain⟨i3,i4⟩:=zI (k:=j) (n:=n1) (by omega);have i5:(j:Int)<17:=zO;clear k n a0
      go_wp2_with fail
      go_round
      case rel=>exact⟨j+1,N+q,by omega,by omega,by omega,by go_num,by rfl⟩
      case measure=>exact zM
     obtain rfl:j=17:=zO;have i4:(17:Int)<(n1:Int):=zO;have i5:¬(17:Int)<17:=zO;by_cases q1:24<N
     ·go_wp2_with fail
      go_ret;exact⟨false,rfl,a.o,λh=>by cases h⟩
     have q2':(16:Int)<(n1:Int):=zO
     go_wp2_with fail
     go_ret;exact⟨false,rfl,a.o,λh=>by cases h⟩
    have i4:¬(j:Int)<(n1:Int):=zO;by_cases q1:24<N
    ·go_wp2_with fail
     go_ret;exact⟨false,rfl,a.o,λh=>by cases h⟩
    by_cases q2:16<n1
    ·have q2':(16:Int)<(n1:Int):=zO
     go_wp2_with fail
     go_ret;exact⟨false,rfl,a.o,λh=>by cases h⟩
    have q2':¬(16:Int)<(n1:Int):=zO;by_cases q3:16<n2
    ·have q3':(16:Int)<(n2:Int):=zO
     go_wp2_with fail
     go_ret;exact⟨false,rfl,a.o,λh=>by cases h⟩
    have q3':¬(16:Int)<(n2:Int):=zO
    go_wp2_with fail
    go_round
    case rel=>exact⟨i+1,by omega,by go_num⟩
    case measure=>exact zM
  obtain rfl:i=p:=zO
  go_wp2_with fail
  go_loop [8,9,110,111,112,113,114,115,116,117,118,119,120,121,122,123,124,125,126] (λvn vj _ _ _ _ _ _ _ _ _ _ _ _ _ _ _ _ _=>∃j:Nat,j<=u∧vj=zi (j:Int)∧vn=zi (Ir (s.uses.take j))) (λvn vj _ _ _ _ _ _ _ _ _ _ _ _ _ _ _ _ _=>u-(intOf vj).toNat)
  case atStart=>exact⟨0,zs3 _,rfl,rfl⟩
  case round=>
   obtain⟨j,hj,rfl,rfl⟩:=hrel;have B:=Yj s.uses j;by_cases a1:j<u
   ·obtain⟨b,R,x,rfl,S,k,k0,k1,k2⟩:=Lg L.o a1;have r:=zH (Ny k);obtain⟨T,t⟩:=zG (Ir (s.uses.take j));rw[t]at r B⊢
    obtain⟨q1,D⟩:=zG (max x.count 0);rw[D]at r;obtain⟨q2,F⟩:=zG (min q1 9);rw[F]at r;have am:0<=q2∧q2<=9:=zO;obtain⟨i3,i4⟩:=zI (k:=j) (n:=u) (by omega);have i5:IntKind.i64.wrap (T+q2)=T+q2:=zs5 _ zO;clear k t
    go_wp2_with fail
    go_round
    case rel=>exact⟨j+1,by omega,by go_num,by rw[r.o]⟩
    case measure=>exact zM
   obtain rfl:j=u:=zO;have G:s.uses.take j=s.uses:=zq4 (by rw[J.o];exact zs2 _);rw[G]at B⊢
   have a2:=Io (Ir s.uses) g 36 7 zO zO;obtain⟨T,t⟩:=zG (Ir s.uses);have HT:=zH t;rw[t]at B a2⊢
   have i5:IntKind.i64.wrap (T*g)=T*g:=zs5 _ zO;clear G t
   go_wp2_with fail
   go_ret;refine⟨decide (T*g<=6),rfl,a.o,λh=>⟨?_,by omega,by omega⟩⟩;rw[HT.o];simpa using h
theorem Oy(l:lP):(AQ l).natAbs<=87960930222080:=by
 unfold AQ;split
 ·simp
 rename_i h;obtain⟨a,e,b⟩:=Fs (l:=l) (by simpa using h);have:=Q2 a zO l.length;rw[Um];omega
theorem SQ(l:lP):((AQ l).natAbs:Int)=Ep l:=by
 unfold Ep;omega
theorem bO{q o1 o2:Nat}(e:zL w q 0 u0)(f:zL w b o1 u1)(g:zL w b o2 u2)(i:q<w.heap.size)(a:b<w.heap.size)(h:Bw w W):zL W q 0 u0∧zL W b o1 u1∧zL W b o2 u2:=
 ⟨(h.cell (p:=ad q 0) i).trans e,(h.cell (p:=ad b o1) a).trans f,(h.cell (p:=ad b o2) a).trans g⟩
theorem rX(ss:List Ae)(A:oA)(n c q x y:Nat)(w:World)(j:Ab 5 D6 w A n ss)(E:zL w q 0 (.slice A n c))(F:x<n)(G:y<n)(k:∀s∈ss,s.poly.length<=1000000)(p:q<w.heap.size) :
  CP 18 #[zi (x:Int),zi (y:Int),.pointer (sa q 0)] w (zR (zi (Ep ((ss.map (·.poly)).getD y [])-Ep ((ss.map (·.poly)).getD x []))) w):=by
 obtain⟨b,f,s,A1,n1,c1,rfl,H,l,k0,_,_,_,_,p1,m1⟩:=J4 j F;obtain⟨b',off',t,A2,n2,c2,e,_,m,k1,_,_,_,_,p2,m2⟩:=J4 j G
 obtain⟨rfl,rfl⟩:b=b'∧f=off':=by
  injection e with e
  injection e with e1 e2
  exact⟨e1,e2⟩
 clear e;have r:=Oy s.poly;have v:=Oy t.poly;have z:=zH (λW (g:Bw w W)=>SC A1 n1 c1 s.poly W (p1.on Aa g) m1 (by rw[<-p1.len];exact k _ (zq2 l)) zO);have B:=zH (λW (g:Bw w W)=>SC A2 n2 c2 t.poly W (p2.on Aa g) m2 (by rw[<-p2.len];exact k _ (zq2 m)) zO);have I:=zH (Lk l);have J:=zH (Lk m);have C:=zH (SQ s.poly);have D:=zH (SQ t.poly);generalize(AQ s.poly).natAbs=z1 at *
 generalize(AQ t.poly).natAbs=z2 at *
 have L:IntKind.i64.wrap ((z2:Int)-(z1:Int))=(z2:Int)-(z1:Int):=zs5 _ zO;have K:=zH (λW (g:Bw w W)=>bO E k0 k1 p H g);obtain⟨i1,i2⟩:=zI (k:=x) (n:=n) (by omega);obtain⟨i3,i4⟩:=zI (k:=y) (n:=n) (by omega);have a:=Below.refl w.heap.size w;clear j l m p1 p2 m1 m2 k r v;go_enter func18,ntmps18
 go_wp2_with fail
 go_region_held3(λw'=>w'.cell? (ad q 0)=some (.slice (sa b f) n c)∧w'.cell? (ad b (f+x*5))=some (.slice A1 n1 c1)∧w'.cell? (ad b (f+y*5))=some (.slice A2 n2 c2))
  ((refine K.o _ ?_;repeat(first|(with_reducible exact zJ)|(with_reducible exact a)|(with_reducible refine Below.drew ?_))))
  (first
   | (go_at_call 19;(with_reducible refine(z.o _ zB).mono ?_);rintro e w1 ⟨rfl,i⟩;replace a:=Ag a i;clear i)
   | (go_at_call 19;(with_reducible refine(B.o _ zB).mono ?_);rintro e w1 ⟨rfl,i⟩;replace a:=Ag a i;clear i))
 all_goals
  go_wp2_with fail
  go_ret;exact⟨by rw[I.o,J.o,<-C.o,<-D.o];rfl,a⟩
section
open Go.Sort
section
variable{α : Type}(f : α->Int)
def EC(x : α):List α->List α
 | []=>[x]
 | y::l=>if f x>f y then x::y::l else y::EC x l
theorem SR{x y : α}(h:f x>f y):∀p:List α,EC f x (p++[y])=EC f x p++[y]
 | []=>by simp[EC,h]
 | z::p=>by
  simp only[List.cons_append,EC];split
  ·rfl
  rw[SR h p];rfl
theorem VP{x : α}:∀p:List α,(∀z∈p,¬f x>f z)->EC f x p=p++[x]
 | [],_=>rfl
 | z::p,h=>by
  simp only[EC];rw[if_neg (h z zP),VP p (λy a=>h y (by simp[a]))];rfl
theorem VQ{x a : α}:∀p:List α,a∈EC f x p->a=x∨a∈p
 | [],h=>.inl (by simpa[EC]using h)
 | y::p,h=>by
  simp only[EC]at h;split at h
  ·rcases zr3.1 h with h|h
   ·exact .inl h
   exact .inr h
  rcases zr3.1 h with h|h
  ·exact .inr (by simp[h])
  rcases VQ p h with h|h
  ·exact .inl h
  exact .inr (by simp[h])
theorem Oz{x : α}:∀p:List α,p.Pairwise (λa b=>f b<=f a)->(EC f x p).Pairwise (λa b=>f b<=f a)
 | [],_=>by simp[EC]
 | y::p,h=>by
  obtain⟨g,i⟩:=List.pairwise_cons.1 h;simp only[EC];split
  ·rename_i j;refine List.pairwise_cons.2 ⟨λa e=>?_,h⟩;rcases zr3.1 e with rfl|e
   ·omega
   have:=g a e;omega
  rename_i j;refine List.pairwise_cons.2 ⟨λa e=>?_,Oz p i⟩;rcases VQ f p e with rfl|e
  ·omega
  exact g a e
end
section
variable{α : Type}[Inhabited α]{f : α->Int}{lt : α->α->Bool}
theorem KG{d:Array α}{p s:List α}{x : α}(hd:d.toList=p++x::s)(a:p.length=k):d[k]! = x:=by
 subst a;have h:d.toList[p.length]?=some x:=by rw[hd];simp
 rw[zt9]at h;obtain⟨b,e⟩:=Array.getElem?_eq_some_iff.1 h;rw[getElem!_pos d _ b,e]
theorem lC{d:Array α}{p s:List α}{x y : α}(hd:d.toList=p++y::x::s)(a:p.length=k):(swp d (k+1) k).toList=p++x::y::s:=by
 have b:d[k]! = y:=KG hd a;have e:d[k+1]! = x:=KG (p:=p++[y]) (s:=s) (by rw[hd];simp) (by simp[a]);unfold swp;rw[b,e,Array.toList_setIfInBounds,Array.toList_setIfInBounds,hd];subst a;simp
theorem MD(l:∀x y,lt x y=decide (f x>f y)):∀(k:Nat)(d:Array α)(p s:List α)(x : α),d.toList=p++x::s->p.length=k->p.Pairwise (λa b=>f b<=f a)->(insInner lt 0 k d).toList=EC f x p++s
 | 0,d,p,s,x,hd,hk,_=>by
  obtain rfl:=List.length_eq_zero_iff.1 hk;rw[insInner,hd];rfl
 | k+1,d,p,s,x,hd,hk,hp=>by
  obtain⟨p',y,rfl⟩:∃p' y,p=p'++[y]:=by
   have n:p≠[]:=by intro e;subst e;simp at hk
   rcases List.eq_nil_or_concat p with e|⟨p',y,e⟩
   ·exact absurd e n
   exact⟨p',y,by simpa using e⟩
  have g:p'.length=k:=by simpa using hk
  have m:d.toList=p'++y::x::s:=by rw[hd];simp
  have o:d[k]! = y:=KG m g;have q:d[k+1]! = x:=KG hd (by simpa using hk);rw[insInner,o,q,l];obtain⟨q1,_,q3⟩:=List.pairwise_append.1 hp;by_cases j:f x>f y
  ·rw[if_pos (by simp[j]),MD l k _ p' (y::s) x (lC m g) g q1,SR f j];simp
  rw[if_neg (by simp[j]),hd,VP f]
  ·simp
  intro z i;rcases zr1.1 i with i|i
  ·have:=q3 z i y zP;omega
  obtain rfl:z=y:=by simpa using i
  exact j
theorem ME(e:∀x y,lt x y=decide (f x>f y)):∀(s:List α)(d:Array α)(p:List α)(b:Nat),d.toList=p++s->b=p.length+s.length->p.Pairwise (λa b=>f b<=f a)->(insOuter lt 0 b p.length d).toList=s.foldl (λl x=>EC f x l) p
 | [],d,p,b,hd,hb,_=>by
  rw[insOuter_stop _ _ _ _ _ (by simp at hb;omega),hd];simp
 | x::s,d,p,b,hd,hb,hp=>by
  have hi:=MD e p.length d p s x hd rfl hp;rw[insOuter_go _ _ _ _ _ (by simp at hb;omega)]
  have g:(EC f x p).length=p.length+1:=by
   have i:=congrArg List.length hi;have j:=congrArg List.length hd
   have m:(insInner lt 0 p.length d).size=d.size:=by
    have:∀(k:Nat)(d:Array α),(insInner lt 0 k d).size=d.size:=by
     intro k;induction k with
     | zero=>intro d;rw[insInner]
     | succ k ih=>
      intro d;rw[insInner];split
      ·rw[ih,size_swp]
      rfl
    exact this _ _
   simp at i j;omega
  have:=ME e s (insInner lt 0 p.length d) (EC f x p) b hi (by rw[g,hb];simp;omega) (Oz f p hp);rw[g]at this;rw[this];rfl
theorem NB(a:∀x y,lt x y=decide (f x>f y))(d:Array α):(insertionSort lt d 0 d.size).toList=d.toList.foldl (λl x=>EC f x l) []:=by
 unfold insertionSort
 cases hd:d.toList with
 | nil=>
  have b:d.size=0:=by have:=congrArg List.length hd;simpa using this
  rw[insOuter_stop _ _ _ _ _ zO,hd];rfl
 | cons x s=>
  have:=ME a s d [x] d.size (by rw[hd];rfl) (by have:=congrArg List.length hd;simp at this;simp;omega) zP;exact this
end
theorem VR{α : Type}{ss:List Ae}{g : α->Nat}(x : α):∀l:List α,(EC (λx=>Ep ((ss.map (·.poly)).getD (g x) [])) x l).map g=G6 ss (g x) (l.map g)
 | []=>rfl
 | y::l=>by
  simp only[EC,List.map_cons,G6];split
  ·rfl
  rw[List.map_cons,VR x l]
theorem VS[Inhabited α]{g : α->Nat}{d:Array α}(hd:d.toList.map g=List.range ss.length):(insertionSort (λx y=>decide (Ep ((ss.map (·.poly)).getD (g y) [])-Ep ((ss.map (·.poly)).getD (g x) [])<0)) d 0 d.size).toList.map g=Gk ss:=by
 rw[NB (f:=λx=>Ep ((ss.map (·.poly)).getD (g x) [])) (λx y=>decide_eq_decide.2 zO)]
 have key:∀(l acc:List α),(l.foldl (λl x=>EC (λx=>Ep ((ss.map (·.poly)).getD (g x) [])) x l) acc).map g=(l.map g).foldl (λl i=>G6 ss i l) (acc.map g):=by
  intro l;induction l with
  | nil=>intro acc;rfl
  | cons x l ih=>
   intro acc;rw[List.foldl_cons,List.map_cons,List.foldl_cons,ih,VR]
 rw[key,hd];rfl
end
theorem VT(e:AA s=0)(n:¬(zs.any λk=>decide (k<0)||decide ((s.sizes.length:Int)<=k))=true){a:Int×Ac}(o:a∈(List.range zs.length).flatMap λg=>(AP s).map λp=>(zs.getD g 0,({ p with garment:=g }:Ac))):∃x y,CY s a.1 a.2=Gp x y a.2.turn.flip:=by
 obtain⟨g,f,q⟩:=List.mem_flatMap.1 o;obtain⟨p,i,rfl⟩:=zr2.1 q;rw[zt8]at f;obtain⟨z,b⟩:∃z,zs[g]?=some z:=⟨_,zq0 f⟩;have l:zs.getD g 0=z:=by rw[zq3,b];rfl
 have B:0<=z∧z<(s.sizes.length:Int):=by
  refine Classical.byContradiction λE=>n ?_
  rw[List.any_eq_true];refine⟨z,zq2 b,?_⟩;simp only[Bool.or_eq_true,decide_eq_true_eq];omega
 obtain⟨k,rfl⟩:∃k:Nat,z=(k:Int):=⟨z.toNat,by omega⟩;have C:=Jk i;obtain⟨j,r⟩:∃j:Nat,p.use=(j:Int):=⟨p.use.toNat,by omega⟩;obtain⟨v,m⟩:∃v,s.uses[j]?=some v:=⟨_,zq0 zO⟩;have D:=Du e v (zq2 m);obtain⟨x,t⟩:∃x,s.pieces[v.piece.toNat]?=some x:=⟨_,zq0 zO⟩;obtain⟨y,w⟩:∃y,s.multiples[k]?=some y:=⟨_,zq0 (by rw[QC e];omega)⟩;refine⟨x,y,?_⟩;show CY s (zs.getD g 0) _=_;rw[l];exact VN (p:=({ p with garment:=g }:Ac)) e zO m t w r
theorem lD(h:AI s zs=.error z):z≠0:=by
 unfold AI at h;split at h
 ·rename_i g;injection h with h;rw[<-h];exact g
 rename_i i;split at h
 ·injection h with h;omega
 split at h
 ·injection h with h;omega
 rename_i j;split at h
 ·injection h with h;omega
 simp only at h;split at h
 ·rename_i e b;injection h with h
  subst h;obtain⟨a,k,b⟩:=zr2.1 (FQ b);obtain⟨x,y,f⟩:=VT (by simpa using i) j k;exact QD (f.symm.trans b)
 cases h
theorem bQ{x:Aw}(h:Gp x y fl=.ok q):q.poly.length<=40:=by
 unfold Gp at h;split at h
 ·cases h
 split at h
 ·cases h
 rename_i es _ poly a;injection h with h
 subst h;have:=(Fs (kG a)).2.1;unfold Eg;split
 ·simpa[RZ]using this
 exact this
theorem I0{x:List Ae×List Ac}(h:AI s zs=.ok x):(∀q∈x.1,q.poly.length<=40)∧x.1.length=x.2.length:=by
 unfold AI at h;split at h
 ·cases h
 rename_i g;split at h
 ·cases h
 split at h
 ·cases h
 rename_i i;split at h
 ·cases h
 simp only at h;split at h
 ·cases h
 rename_i l j;injection h with h
 subst h;have b:=CE j;refine⟨λq k=>?_,?_⟩
 ·have e:(Except.ok q:Except Int Ae)∈l.map .ok:=zr2.2 ⟨q,k,rfl⟩;rw[<-b]at e;obtain⟨a,m,n⟩:=zr2.1 e;obtain⟨x,y,f⟩:=VT (by simpa using g) i m;exact bQ (f.symm.trans n)
 have:=congrArg List.length b;simp only[zq6]at this⊢
 omega
theorem VU{b:AG}{ss:List Ae}:∀{l:List Nat}{puts r:List Am},Ch b ss l puts=.ok r->∀p∈r,p∈puts∨∃k∈l,p.shape=(k:Int)
 | [],puts,r,h,p,hp=>by
  rw[Ch]at h;injection h with h
  subst h;exact .inl hp
 | k::l,puts,r,h,p,hp=>by
  rw[Ch]at h;split at h
  ·cases h
  rename_i q e;rcases VU h p hp with a|⟨j,f,g⟩
  ·rcases zr1.1 a with a|a
   ·exact .inl a
   obtain rfl:p=q:=by simpa using a
   exact .inr ⟨k,by simp,(RA e).2⟩
  exact .inr ⟨j,by simp[f],g⟩
theorem lE(n:Nat)(a:n<=1000000)(W:World):(Instr.makeSlice 23 (zi (n:Int)) (zi (n:Int))).run prog W=.ok (.slice (sa W.heap.size 0) n n) (zw W (madeCells #[zi 0] n) 3):=
 run_make_row' (P:=prog) 23 3 (zi 0) 8 underlying23 J2 rfl .i64 .i64 n zO zO W
def Ia(w:World)(g n k:Nat):Prop:=∃cs:Array Value,Blk w g 3 cs∧cs.size=n∧(∀i,i<n->∃z:Int,cs[i]?=some (zi z))∧∀j,j<k->cs[j]?=some (zi (j:Int))
theorem Xe(W:World)(n:Nat):Ia (zw W (madeCells #[zi 0] n) 3) W.heap.size n 0:=by
 refine⟨_,Blk.new _ _ _,by simp[madeCells],λi hi=>⟨0,?_⟩,λj a=>by omega⟩;unfold madeCells;rw[Array.getElem?_map,Array.getElem?_eq_getElem (by simpa using hi)];simp[Nat.mod_one]
section
variable{w w':World}{g n k:Nat}
theorem Ia.step(h:Ia w g n k)(m:k<n):Ia (w.setCell (ad g k) (zi (k:Int))) g n (k+1):=by
 obtain⟨cs,a,b,f,l⟩:=h;refine⟨cs.setIfInBounds k (zi (k:Int)),a.set_ _ _,by simp[b],λi hi=>?_,λj o=>?_⟩
 ·rw[zs9];split
  ·rw[if_pos zO];exact⟨_,rfl⟩
  exact f i hi
 rw[zs9];split
 ·rename_i e;rw[if_pos zO,e]
 exact l j zO
theorem Ia.cell(h:Ia w g n k)(b:k<n):∃z:Int,zL w g k (zi z)∧w.frozen? (ad g k)=false∧g<w.heap.size:=by
 obtain⟨cs,a,i,e,j⟩:=h;obtain⟨z,f⟩:=e k b;exact⟨z,a.c f,a.frozen _,a.lt⟩
def DE(n:Nat):Array (Fin (n-1+1)):=Array.ofFn λi:Fin n=>⟨i.val,by omega⟩
theorem Ib(n:Nat):(DE n).size=n:=by simp[DE]
theorem Xf(n:Nat):(DE n).toList.map Fin.val=List.range n:=by
 apply List.ext_getElem
 ·simp[DE]
 intro i a b;simp[DE]
theorem Ia.done(h:Ia w g n n):Blk w g 3 ((DE n).map λx=>zi ((x.val:Nat):Int)):=by
 obtain⟨cs,a,b,j,f⟩:=h
 have e:cs=(DE n).map λx=>zi ((x.val:Nat):Int):=by
  apply Array.ext
  ·simp[DE,b]
  intro i hi l;have:=f i zO;rw[Array.getElem?_eq_getElem hi]at this;rw[zs6 this];simp[DE]
 rw[<-e];exact a
end
theorem GB.lowB(h:GB B g w w')(a:b<=g)(e:b<=B):Below b w w':=⟨h.os,h.tape,h.output,h.size,λi hi=>h.block i zO zO⟩
theorem lF{N:Nat}(h:StI B g (λx:Fin (N-1+1)=>((x.val:Nat):Int)) w0 (Go.Sort.insertionSort (λx y=>decide (Ep ((ss.map (·.poly)).getD y.val [])-Ep ((ss.map (·.poly)).getD x.val [])<0)) (DE N) 0 (DE N).size) w)(a:ss.length=N):Sl w w.heap.size (sa g 0) N (Ar ((Gk ss).map λk:Nat=>(k:Int))):=by
 have b:=VS (ss:=ss) (g:=λx:Fin (N-1+1)=>x.val) (d:=DE N) (by rw[a];exact Xf N)
 have e:(Ar ((Gk ss).map λk:Nat=>(k:Int))).length=N:=by
  have:=(Fp ss).length_eq;simp[Ar,this,a]
 refine⟨e,λ_=>⟨g,0,rfl,h.blk.lt,λj u f=>?_⟩⟩;rw[Nat.zero_add];refine h.blk.c ?_;rw[<-f,<-b];unfold Ar;rw[<-zt9,Array.toList_map,List.map_map,List.map_map];rfl
def lG(p:Am)(c:Ac):Ac:={ c with turn:=⟨c.turn.flip,p.turn.quarter⟩,at_:=p.at_ }
theorem lH(h:puts[k]?=some p):BP ps (puts.take (k+1))=(BP ps (puts.take k)).modify p.shape.toNat (lG p):=by
 unfold BP;rw[List.take_add_one,h,List.foldl_append];rfl
theorem OB:∀{ps:List Ac},(BP ps puts).length=ps.length:=by
 unfold BP;induction puts with
 | nil=>intro ps;rfl
 | cons p l ih=>
  intro ps;rw[List.foldl_cons,ih,List.length_modify]
def ER(w:World)(g:Nat)(l:List Ac):Prop:=∃cs:Array Value,Blk w g 58 cs∧∀(k:Nat)(p:Ac),l[k]?=some p->∀(i:Nat)(u:Value),(AN p)[i]?=some u->cs[k*7+i]?=some u
section
variable{w w':World}{g k:Nat}{l:List Ac}{p:Ac}
theorem ER.below(h:ER w g l)(a:Bw w w'):ER w' g l:=by
 obtain⟨cs,b,e⟩:=h;exact⟨cs,b.below a,e⟩
theorem ER.cells(h:ER w g l)(b:l[k]?=some p):zL w g (k*7+4) (zi p.turn.quarter)∧zL w g (k*7+5) (zi p.at_.1)∧zL w g (k*7+6) (zi p.at_.2)∧(∀i,w.frozen? (ad g i)=false)∧g<w.heap.size:=by
 obtain⟨cs,a,e⟩:=h;exact⟨a.c (e k p b 4 _ rfl),a.c (e k p b 5 _ rfl),a.c (e k p b 6 _ rfl),λi=>a.frozen i,a.lt⟩
theorem ER.step(h:ER w g l)(f:l[k]?=some p)(t:Am):ER (((w.setCell (ad g (k*7+4)) (zi t.turn.quarter)).setCell (ad g (k*7+5)) (zi t.at_.1)).setCell (ad g (k*7+6)) (zi t.at_.2)) g (l.modify k (lG t)):=by
 obtain⟨cs,n,m⟩:=h;have o:=(Array.getElem?_eq_some_iff.1 (m k p f 4 _ rfl)).1;have r:=(Array.getElem?_eq_some_iff.1 (m k p f 6 _ rfl)).1;refine⟨((cs.setIfInBounds (k*7+4) (zi t.turn.quarter)).setIfInBounds (k*7+5) (zi t.at_.1)).setIfInBounds (k*7+6) (zi t.at_.2),((n.set_ _ _).set_ _ _).set_ _ _,λj q b i u a=>?_⟩;have hi:i<7:=(zq1.1 a).1;rw[List.getElem?_modify]at b;rw[zs9,zs9,zs9];by_cases e:k=j
 ·subst e;rw[f]at b;simp only[zt6,if_true,Option.some.injEq,Option.map_eq_map]at b;subst b;have old:=m k p f
  match i,hi,a with
  | 0,_,a=>rw[if_neg zO,if_neg zO,if_neg zO];exact old 0 _ a
  | 1,_,a=>rw[if_neg zO,if_neg zO,if_neg zO];exact old 1 _ a
  | 2,_,a=>rw[if_neg zO,if_neg zO,if_neg zO];exact old 2 _ a
  | 3,_,a=>rw[if_neg zO,if_neg zO,if_neg zO];exact old 3 _ a
  | 4,_,a=>rw[if_neg zO,if_neg zO,if_pos rfl,if_pos (by simpa using o)];exact a
  | 5,_,a=>rw[if_neg zO,if_pos rfl,if_pos zQ];exact a
  | 6,_,a=>rw[if_pos rfl,if_pos zQ];exact a
 rw[if_neg zO,if_neg zO,if_neg zO];simp only[if_neg e]at b;exact m j q (by simpa using b) i u a
theorem ER.recs(h:ER w g l)(b:l.length=n):Ab 7 Dy w (sa g 0) n l:=by
 obtain⟨cs,a,e⟩:=h;refine⟨b,λ_=>⟨g,0,rfl,a.lt,λj x f=>⟨AN x,rfl,λi u m=>?_⟩⟩⟩;rw[Nat.zero_add];exact a.c (e j x f i u m)
end
theorem GB.alo(h:GB X.heap.size b X W)(o:Obj):GB X.heap.size b X (W.alloc o):=h.trans (GB.of ((Below.alo (Below.refl W.heap.size W) o).mono h.size))
theorem xA{l:List Am}(h:Ab 5 Hs w A n l)(q:∀g o,A=some ⟨g,o,none⟩->g≠gp)(r:GB w.heap.size gp w wr):Ab 5 Hs wr A n l:=by
 refine⟨h.1,λt=>?_⟩;obtain⟨b,f,e,m,v⟩:=h.2 t;refine⟨b,f,e,zs1 m r.size,λj x y=>?_⟩;obtain⟨vs,z,s⟩:=v j x y;exact⟨vs,z,λi u B=>(World.cell?_of_block (a:=⟨b,f+j*5+i,none⟩) (r.block b m (q b f e))).trans (s i u B)⟩
theorem lI{c:Nat}{l:List Ac}(h:w.ownsRow B 58 7 (.slice A n c) n (l.flatMap AN))(s:l.length=n)(m:B<=w.heap.size):∃g,B<=g∧g<=w.heap.size∧(0<n->A=some ⟨g,0,none⟩∧g<w.heap.size∧ER w g l)∧n<=c:=by
 rcases h.2 with⟨e,t⟩|⟨g,cap,cur,e,o,b,q,v,x,r⟩
 ·exact⟨B,zs2 _,m,λy=>by omega,by injection e with _ _ e;omega⟩
 injection e with e1 _ e2
 subst e1 e2;refine⟨g,o,Nat.le_of_lt (Array.getElem?_eq_some_iff.1 b).1,λ_=>⟨rfl,(Array.getElem?_eq_some_iff.1 b).1,cur,b,λk p f i u j=>?_⟩,q⟩;have z:k<n:=by have:=(zq1.1 f).1;omega
 have hi:i<7:=(zq1.1 j).1;have a:(l.flatMap AN)[k*7+i]?=some u:=JB Mq f i u j;rw[<-r,zr8]at a;split at a
 ·rwa[zt9]at a
 cases a
end Go.Proofs.YteafekbddckemaaGreatDoor
