/- Parts of the proof. -/
import Derived.Lib.SmallJoins
import Derived.Test.YteafekbddckemaaGreatDoorH15
set_option maxRecDepth 100000
set_option maxHeartbeats 40000000
namespace Go.Proofs.YteafekbddckemaaGreatDoor
open Tryz Go.RowKit
open Go.Lib hiding intOf
variable{a0 a1 a2 a3 a4 a5:Value}{b:AG}{c p q:Ac}{g g1 g2 i j k n:Nat}{hi lo size z:Int}{l sizes:List Int}{m:Au}{puts:List Am}{s:Al}{sh:Ae}{ss:List Ae}{t t1 t2:TypeId}{v:Dw}{w w':World}
theorem QV(A:oA)(n c:Nat)(es:List Aw)(p:Aw)(E:oA)(en ec:Nat)(N:oA)(nn nc:Nat)(C:oA)(cn cc:Nat)(D:oA)(dn dc:Nat)(w:World)(he:Ab 7 K8 w A n es)(hn:n<=9223372036854775807)(h:PcA w p E en ec N nn nc C cn cc D dn dc) :
  CP 52 #[.slice A n c,.agg #[.string p.name,.slice E en ec,zi p.grain,.slice N nn nc,.slice C cn cc,.slice D dn dc,.bool p.match_]] w (zR (zi (BD es p)) w):=by
 have r:Hid (Bw w (zw w #[.string p.name,.slice E en ec,zi p.grain,.slice N nn nc,.slice C cn cc,.slice D dn dc,.bool p.match_] 66)):=zA _;have HX:=zH (Blk.new w 66 #[.string p.name,.slice E en ec,zi p.grain,.slice N nn nc,.slice C cn cc,.slice D dn dc,.bool p.match_]);have HA:=zH h;have ab:=zH he;have H:=zH (zu2 h.eds.len (zu2 h.wids.ilen he.len));have l1:dn<=9223372036854775807:=by rw[<-h.wids.ilen];exact h.small.wid
 have l2:en<=9223372036854775807:=by rw[<-h.eds.len];exact h.small.eds
 have v:=λW=>RG p.name W (zV h.small.nm)
 have a0:=zH (λW (hb:Bw w W)=>PN p E en ec N nn nc C cn cc D dn dc W (h.on hb));have a4:=zH (λW (hb:Bw w W)=>Zj p E en ec N nn nc C cn cc D dn dc W (h.on hb));clear h he
 cases hnm:AD p.name.data.toList
 ·have a:Hid (BD es p=1):=Zd hnm;simp only[hnm]at v;have v:=zH v;clear hnm;go_enter func52,ntmps52;go_wp2_with(go_at_call 80;refine(v.o _).mono ?_;rintro e w1 ⟨rfl,l⟩;have s:=zH (zT r.o l);clear l)
  go_ret;exact⟨by rw[a.o];rfl,s.o⟩
 have z:=zH hnm;simp only[hnm]at v;have v:=zH v;clear hnm;obtain⟨G,hG⟩:=zG p.grain;have a5:=zH hG;rw[hG]at HX r a0 a4⊢
 clear hG;by_cases B:G≠1∧G≠2∧G≠4
 ·have a:Hid (BD es p=1):=Wo z.o (by rw[a5.o];exact B);obtain⟨a1,a2,a3⟩:=B;have b1:(G != 1)=true:=by simpa using a1
  have b2:(G != 2)=true:=by simpa using a2
  have b3:(G != 4)=true:=by simpa using a3
  clear a1 a2 a3;go_enter func52,ntmps52;go_wp2_with(go_at_call 80;refine(v.o _).mono ?_;rintro e w1 ⟨rfl,l⟩;have s:=zH (zT r.o l);obtain⟨x0,x1,x2,x3,x4,x5,x6⟩:=AS (HX.o.below l);clear l)
  go_ret;exact⟨by rw[a.o];rfl,s.o⟩
 have I:Hid (¬(p.grain≠1∧p.grain≠2∧p.grain≠4)):=by rw[a5.o];exact B
 have ac:(G != 1)=false∨((G != 1)=true∧(G != 2)=false)∨((G != 1)=true∧(G != 2)=true∧(G != 4)=false):=by
  by_cases a1:G=1
  ·exact .inl (by simpa using a1)
  by_cases a2:G=2
  ·exact .inr (.inl ⟨by simpa using a1,by simpa using a2⟩)
  by_cases a3:G=4
  ·exact .inr (.inr ⟨by simpa using a1,by simpa using a2,by simpa using a3⟩)
  exact absurd ⟨a1,a2,a3⟩ B
 clear B;rcases ac with b1|⟨b1,b2⟩|⟨b1,b2,b3⟩
 all_goals
  go_enter func52,ntmps52
  go_wp2_with fail
  refine(v.o _).mono ?_;rintro e w1 ⟨rfl,l⟩;have s:=zH (zT r.o l);have J:=zH (HX.o.below l);obtain⟨x0,x1,x2,x3,x4,x5,x6⟩:=AS J.o;clear l
  go_wp2_with fail
  clear x0 x1 x2 x3 x4 x5 x6
  go_loopw[6,32] (λ_ i wr=>∃k:Nat,k<=n∧i=zi (k:Int)∧Hid (∀(j:Nat)(y:Aw),j<k->es[j]?=some y->y.name≠p.name)∧Bw w1 wr) (λ_ i _=>n-(intOf i).toNat)
  case atStart=>exact⟨0,zs3 _,rfl,(λj y hj=>by omega),zJ⟩
  case round=>
   obtain⟨k,hk,rfl,S,m⟩:=hrel;have O:=zH (zT s.o m);have a6:=zH m;have ae:=(J.o.below m).lt;obtain⟨x0,x1,x2,x3,x4,x5,x6⟩:=AS (J.o.below m);by_cases F:k<n
   ·obtain⟨b,af,y,A1,n1,c1,A2,n2,c2,A3,n3,c3,A4,n4,c4,rfl,ag,hy,d0,d1,d2,d3,d4,d5,d6,r1,r2,r3,r4,r5,r6,r7,r8⟩:=Ex (ab.o.on FW O.o) F;have HY:=zH hy;have a7:Hid (Bw wr (zw wr #[.string y.name,.slice A1 n1 c1,zi y.grain,.slice A2 n2 c2,.slice A3 n3 c3,.slice A4 n4 c4,.bool y.match_] 66)):=zA _;obtain⟨i1,i2⟩:=zI (k:=k) (n:=n) (by omega);clear hy r1 r2 r3 r4 r5 r6 r7 r8 m;by_cases P:y.name=p.name
    ·have a:Hid (BD es p=7):=Wp z.o I.o (by
      have:=N8 (f:=λq:Aw=>q.name) (x:=p) (i:=n) F HY.o P;rw[zq4 (by rw[H.o.2.2];exact zs2 _)]at this;exact this)
     have ah:(y.name.toList == p.name.toList)=true:=by rw[P];simp
     clear P
     go_wp2_with fail
     go_ret;exact⟨by rw[a.o];rfl,zT O.o a7.o⟩
    have a:Hid (∀(j:Nat)(y:Aw),j<k+1->es[j]?=some y->y.name≠p.name):=λj y' hj T=>by
     by_cases ej:j=k
     ·subst ej;rw[HY.o]at T;rw[<-zs6 T];exact P
     exact S.out j y' zO T
    have ah:=M1 P;clear P
    go_wp2_with fail
    go_roundw
    case rel=>exact⟨k+1,by omega,by go_num,a,zT a6.o a7.o⟩
    case measure=>exact zM
   obtain rfl:k=n:=zO
   have HH:Hid (Dz p.name (es.map (·.name))=false):=by
    have:=Pp (f:=λq:Aw=>q.name) S.out;rw[zq4 (by rw[H.o.2.2];exact zs2 _)]at this;exact this
   have ai:=zH (J.o.below m);clear S m hk F
   go_wp2_with fail
   refine(a0.o _ O.o).mono ?_;rintro e w2 ⟨A2,m2,c2,rfl,aj,U⟩;have K:=zH (zT O.o U);have a8:=zH (ai.o.below U);clear aj U x0 x1 x2 x3 x4 x5 x6 ae;obtain⟨x0,x1,x2,x3,x4,x5,x6⟩:=AS a8.o;obtain⟨Q,hQ⟩:=zG (AB p);rw[hQ];have HQ:=zH hQ;clear hQ;by_cases h0:Q=0
   ·subst h0
    go_wp2_with fail
    refine(a4.o _ K.o).mono ?_;rintro e w3 ⟨A3,m3,c3,rfl,V⟩;have t:=zH (zT K.o V);have ak:=zH (a8.o.below V);clear V x0 x1 x2 x3 x4 x5 x6;obtain⟨x0,x1,x2,x3,x4,x5,x6⟩:=AS ak.o;obtain⟨R,hR⟩:=zG (Cm p);rw[hR];have HR:=zH hR;clear hR;by_cases h1:R=0
    ·subst h1;have HW:Hid (BD es p=Fn p):=Ua z.o I.o HH.o HQ.o HR.o;by_cases L:dn=en
     ·have a9:Hid (p.widths.length=p.edges.length):=by rw[Hid,H.o.1,H.o.2.1];exact L
      subst L
      go_wp2_with fail
      go_loopw[12,68] (λ_ i wq=>∃k:Nat,k<=dn∧i=zi (k:Int)∧Hid (∀(j:Nat)(x:Int),j<k->p.widths[j]?=some x->0<=x∧x<=500)∧w3=wq) (λ_ i _=>dn-(intOf i).toNat)
      case atStart=>exact⟨0,zs3 _,rfl,(λj x hj=>by omega),by trivial⟩
      case round=>
       obtain⟨k,hk,rfl,X,rfl⟩:=hrel;by_cases F:k<dn
       ·obtain⟨b,af,x,rfl,ag,Y,c0⟩:=(HA.o.wids.on t.o).int_ F;have aa:=zH Y;obtain⟨i1,i2⟩:=zI (k:=k) (n:=dn) (by omega);clear Y;by_cases M:0<=x∧x<=500
        ·have a:Hid (∀(j:Nat)(x:Int),j<k+1->p.widths[j]?=some x->0<=x∧x<=500):=λj x' hj Z=>by
          by_cases ej:j=k
          ·subst ej;rw[aa.o]at Z;rw[<-zs6 Z];exact M
          exact X.out j x' zO Z
         obtain⟨q1,q2⟩:=M;have q3:¬x<0:=zO;have q4:¬500<x:=zO
         go_wp2_with fail
         go_roundw
         case rel=>exact⟨k+1,by omega,by go_num,a,by trivial⟩
         case measure=>exact zM
        have a:Hid (BD es p=3):=by rw[Hid,HW.o];exact eY a9.o aa.o zO
        by_cases q:x<0
        ·clear M
         go_wp2_with fail
         go_ret;exact⟨by rw[a.o];rfl,t.o⟩
        have q2:500<x:=zO;clear M
        go_wp2_with fail
        go_ret;exact⟨by rw[a.o];rfl,t.o⟩
       obtain rfl:dn=k:=zO
       have a:Hid (BD es p=0):=by
        rw[Hid,HW.o];exact eZ a9.o λj x Y=>X.out j x (by have:=(zq1.1 Y).1;rw[H.o.2.1]at this;exact this) Y
       go_wp2_with fail
       go_ret;exact⟨by rw[a.o];rfl,t.o⟩
     have a:Hid (BD es p=1):=by rw[Hid,HW.o];exact Zc (by rw[H.o.1,H.o.2.1];exact L)
     have al:((dn:Int) != (en:Int))=true:=by simp;omega
     clear L
     go_wp2_with fail
     go_ret;exact⟨by rw[a.o];rfl,t.o⟩
    have am:(R != 0)=true:=by simpa using h1
    have a:Hid (BD es p=R):=T9 z.o I.o HH.o HQ.o HR.o h1;clear h1
    go_wp2_with fail
    go_ret;exact⟨by rw[a.o];rfl,t.o⟩
   have an:(Q != 0)=true:=by simpa using h0
   have a:Hid (BD es p=Q):=T8 z.o I.o HH.o HQ.o h0;clear h0
   go_wp2_with fail
   go_ret;exact⟨by rw[a.o];rfl,K.o⟩
theorem fN{a6 b0 b1 b2 b3 b4 b5 b6:Value}(b:Blk w g1 t1 #[a0,a1,a2,a3,a4,a5,a6])(e:Blk w g2 t2 #[b0,b1,b2,b3,b4,b5,b6])(a:Bw w w') :
  zL w' g1 3 a3∧zL w' g2 0 b0∧zL w' g2 1 b1∧zL w' g2 2 b2∧zL w' g2 3 b3∧zL w' g2 4 b4∧zL w' g2 5 b5∧zL w' g2 6 b6:=
 ⟨(b.below a).c rfl,AS (e.below a)⟩
theorem yB:Ie s v=if v.piece<0∨(s.pieces.length:Int)<=v.piece∨v.count<1∨4<v.count then 3 else 0:=rfl
theorem uE{v:Gs}:LD s v=if Dd s v.pa v.ea=false∨Dd s v.pb v.eb=false then 3 else if v.ease<0 then 1 else 0:=rfl
theorem NQ(h:Blk w g t #[a0,a1,a2,a3,a4,a5]):zL w g 0 a0∧zL w g 1 a1∧zL w g 2 a2∧zL w g 3 a3∧zL w g 4 a4∧zL w g 5 a5:=
 ⟨h.c rfl,h.c rfl,h.c rfl,h.c rfl,h.c rfl,h.c rfl⟩
theorem M5(s:Al)(Z:oA)(z zc:Nat)(M:oA)(m mc:Nat)(P:oA)(p pc:Nat)(U:oA)(u uc:Nat)(E:oA)(e ec:Nat)(O:oA)(o oc:Nat)(w:World)(h:Co w s Z z zc M m mc P p pc U u uc E e ec O o oc)(hs:Dj s) :
  CP 32 #[.agg #[.string s.name,.slice Z z zc,.slice M m mc,.slice P p pc,.slice U u uc,.slice E e ec,.slice O o oc]] w (zR (zi (AA s)) w):=by
 have a1:Hid (Bw w (zw w #[.string s.name,.slice Z z zc,.slice M m mc,.slice P p pc,.slice U u uc,.slice E e ec,.slice O o oc] 29)):=zA _;have HX:=zH (Blk.new w 29 #[.string s.name,.slice Z z zc,.slice M m mc,.slice P p pc,.slice U u uc,.slice E e ec,.slice O o oc]);have HA:=zH h;have HS:=zH hs;have HL:=zH (zu2 h.pieces.len (zu2 h.uses.len h.seams.len));have l1:p<=9223372036854775807:=by rw[<-h.pieces.len];exact hs.pcs
 have l2:u<=9223372036854775807:=by rw[<-h.uses.len];exact hs.us
 have l3:e<=9223372036854775807:=by rw[<-h.seams.len];exact hs.sm
 have aj:=h.pcap;have HW:=zH (fM s Z z zc M m mc P p pc U u uc E e ec O o oc _ (h.on a1.o) hs);clear h hs;obtain⟨Q,hQ⟩:=zG (AM s);rw[hQ]at HW;have K:=zH hQ;clear hQ;go_enter func32,ntmps32
 go_wp2_with fail
 refine HW.o.mono ?_;rintro e1 w1 ⟨rfl,a2⟩;have a3:=zH (zT a1.o a2);have ab:=zH (HX.o.below a2);obtain⟨x0,x1,x2,x3,x4,x5,x6⟩:=AS ab.o;clear a2;by_cases h0:Q=0
 ·subst h0
  go_wp2_with fail
  clear x0 x1 x2 x3 x4 x5 x6
  go_loopw[4,5,6,19] (λ_ _ _ i wr=>∃k:Nat,k<=p∧i=zi (k:Int)∧Hid (∀j,j<k->F6 s j=0)∧Bw w1 wr) (λ_ _ _ i _=>p-(intOf i).toNat)
  case atStart=>exact⟨0,zs3 _,rfl,(λj H=>by omega),zJ⟩
  case round=>
   obtain⟨k,hk,rfl,x,a⟩:=hrel;have HB:=zH (zT a3.o a);have ac:=zH a;have a4:=zH (ab.o.below a);obtain⟨x0,x1,x2,x3,x4,x5,x6⟩:=AS a4.o;by_cases D:k<p
   ·obtain⟨b,G,y,A1,n1,c1,A2,n2,c2,A3,n3,c3,A4,n4,c4,rfl,ae,hy,d0,d1,d2,d3,d4,d5,d6,r1,r2,r3,r4,r5,r6,r7,r8⟩:=Ex (HA.o.pieces.on FW HB.o) D;have HY:=zH hy;have r:Bw wr (zw wr #[.string y.name,.slice A1 n1 c1,zi y.grain,.slice A2 n2 c2,.slice A3 n3 c3,.slice A4 n4 c4,.bool y.match_] 66):=zA _;have N:=zH r;have ah:=zH (PcA.mk r1 r2 r3 r4 r5 r6 r7 r8 (HS.o.pc y (zq2 hy)));have af:=zH (λW (I:Bw (zw wr #[.string y.name,.slice A1 n1 c1,zi y.grain,.slice A2 n2 c2,.slice A3 n3 c3,.slice A4 n4 c4,.bool y.match_] 66) W)=>QV (sa b G) k pc (s.pieces.take k) y A1 n1 c1 A2 n2 c2 A3 n3 c3 A4 n4 c4 W (((HA.o.pieces.on FW HB.o).take zO).on FW (zT r I)) zO (ah.o.on (zT r I)));have a5:Hid (F6 s k=BD (s.pieces.take k) y):=oH hy;have HK:=λw'=>zH (λI=>fN (w':=w') (a4.o.alloc (.cells #[.string y.name,.slice A1 n1 c1,zi y.grain,.slice A2 n2 c2,.slice A3 n3 c3,.slice A4 n4 c4,.bool y.match_] 66)) (Blk.new wr 66 #[.string y.name,.slice A1 n1 c1,zi y.grain,.slice A2 n2 c2,.slice A3 n3 c3,.slice A4 n4 c4,.bool y.match_]) I)
    obtain⟨i1,i2⟩:=zI (k:=k) (n:=p) (by omega);have i3:(k:Int)<=(pc:Int):=zO;have i4:k<=pc:=zO;have f:=Below.refl (zw wr #[.string y.name,.slice A1 n1 c1,zi y.grain,.slice A2 n2 c2,.slice A3 n3 c3,.slice A4 n4 c4,.bool y.match_] 66).heap.size (zw wr #[.string y.name,.slice A1 n1 c1,zi y.grain,.slice A2 n2 c2,.slice A3 n3 c3,.slice A4 n4 c4,.bool y.match_] 66);generalize BD (s.pieces.take k) y=R at af a5;clear hy r1 r2 r3 r4 r5 r6 r7 r8 a r x0 x1 x2 x3 x4 x5 x6
    go_wp2_with fail
    go_region_held3(λw'=>w'.cell? (ad w.heap.size 3)=some (.slice (sa b G) p pc)∧w'.cell? (ad wr.heap.size 0)=some (.string y.name)∧w'.cell? (ad wr.heap.size 1)=some (.slice A1 n1 c1)∧w'.cell? (ad wr.heap.size 2)=some (zi y.grain)∧w'.cell? (ad wr.heap.size 3)=some (.slice A2 n2 c2)∧w'.cell? (ad wr.heap.size 4)=some (.slice A3 n3 c3)∧w'.cell? (ad wr.heap.size 5)=some (.slice A4 n4 c4)∧w'.cell? (ad wr.heap.size 6)=some (.bool y.match_))
     ((refine(HK _).out ?_;repeat(first|(with_reducible exact zJ)|(with_reducible exact f)|(with_reducible refine Below.drew ?_))))
     ((go_at_call 52;go_must((refine(af.o _ zB).mono ?_);rintro e2 w2 ⟨rfl,g⟩;replace f:=Ag f g;clear g)))
    by_cases hR:R=0
    ·have HZ:Hid (∀j,j<k+1->F6 s j=0):=λj H=>by
      by_cases ej:j=k
      ·rw[ej,a5.o,hR]
      exact x.out j zO
     subst hR
     go_wp2_with fail
     go_roundw
     case rel=>exact⟨k+1,by omega,by go_num,HZ,ac.o.trans ((zT N.o f).mono ac.o.size)⟩
     case measure=>exact zM
    have ak:(R != 0)=true:=by simpa using hR
    have B:Hid (AA s=R):=Ws K.o (i:=k) (by rw[HL.o.1];exact D) x.out a5.o hR;clear hR
    go_wp2_with fail
    go_ret;exact⟨by rw[B.o];rfl,HB.o.trans ((zT N.o f).mono HB.o.size)⟩
   obtain rfl:k=p:=zO;have J:Hid (EI s=0):=Wt λj H=>x.out j (by rw[HL.o.1]at H;exact H)
   obtain⟨wo,rfl⟩:∃wo:World,wo=wr:=⟨_,rfl⟩;clear x a hk D
   go_wp2_with fail
   clear x0 x1 x2 x3 x4 x5 x6
   go_loopw[8,37] (λ_ i wr=>∃k:Nat,k<=u∧i=zi (k:Int)∧Hid (∀(j:Nat)(v:Dw),j<k->s.uses[j]?=some v->Ie s v=0)∧Bw wo wr) (λ_ i _=>u-(intOf i).toNat)
   case atStart=>exact⟨0,zs3 _,rfl,(λj v H=>by omega),zJ⟩
   case round=>
    obtain⟨j,H,rfl,x,a⟩:=hrel;have t:=zH (zT HB.o a);have a6:=zH a;have a7:=zH (a4.o.below a);have ai:=a7.o.lt;obtain⟨x0,x1,x2,x3,x4,x5,x6⟩:=AS a7.o;by_cases D:j<u
    ·obtain⟨b,G,v,rfl,ae,g,c0,c1,c2⟩:=Lg (HA.o.uses.on JK t.o) D;have L:=zH g;have n:Hid (Bw wr (zw wr #[zi v.piece,zi v.count,.bool v.pair] 60)):=zA _;obtain⟨i1,i2⟩:=zI (k:=j) (n:=u) (by omega);have a8:=zH (yB (s:=s) (v:=v));rw[HL.o.1]at a8;clear g a;by_cases l:v.piece<0∨(k:Int)<=v.piece∨v.count<1∨4<v.count
     ·have B:Hid (AA s=3):=fB K.o J.o L.o x.out (by rw[a8.o,if_pos l]);by_cases g1:v.piece<0
      ·clear l
       go_wp2_with fail
       go_ret;exact⟨by rw[B.o];rfl,zT t.o n.o⟩
      by_cases g2:(k:Int)<=v.piece
      ·clear l
       go_wp2_with fail
       go_ret;exact⟨by rw[B.o];rfl,zT t.o n.o⟩
      by_cases g3:v.count<1
      ·clear l
       go_wp2_with fail
       go_ret;exact⟨by rw[B.o];rfl,zT t.o n.o⟩
      have g4:4<v.count:=zO;clear l
      go_wp2_with fail
      go_ret;exact⟨by rw[B.o];rfl,zT t.o n.o⟩
     have HZ:Hid (∀(i:Nat)(v:Dw),i<j+1->s.uses[i]?=some v->Ie s v=0):=λi v' hi F=>by
      by_cases ej:i=j
      ·subst ej;rw[L.o]at F;rw[<-zs6 F,a8.o,if_neg l]
      exact x.out i v' zO F
     have g1:¬v.piece<0:=λh=>l (.inl h)
     have g2:¬(k:Int)<=v.piece:=λh=>l (.inr (.inl h))
     have g3:¬v.count<1:=λh=>l (.inr (.inr (.inl h)))
     have g4:¬4<v.count:=λh=>l (.inr (.inr (.inr h)))
     clear l
     go_wp2_with fail
     go_roundw
     case rel=>exact⟨j+1,by omega,by go_num,HZ,zT a6.o n.o⟩
     case measure=>exact zM
    obtain rfl:j=u:=zO;have S:Hid (∀(i:Nat)(v:Dw),s.uses[i]?=some v->Ie s v=0):=λi v g=>x.out i v (by have:=(zq1.1 g).1;rw[HL.o.2.1]at this;exact this) g
    obtain⟨wp,rfl⟩:∃wp:World,wp=wr:=⟨_,rfl⟩;clear x a H D
    go_wp2_with fail
    clear x0 x1 x2 x3 x4 x5 x6
    go_loopw[10,66] (λ_ i wr=>∃k:Nat,k<=e∧i=zi (k:Int)∧Hid (∀(j:Nat)(v:Gs),j<k->s.seams[j]?=some v->LD s v=0)∧Bw wp wr) (λ_ i _=>e-(intOf i).toNat)
    case atStart=>exact⟨0,zs3 _,rfl,(λj v H=>by omega),zJ⟩
    case round=>
     obtain⟨i,hi,rfl,x,a⟩:=hrel;have C:=zH (zT t.o a);have a9:=zH a;have aa:=zH (a7.o.below a);have ai:=aa.o.lt;obtain⟨x0,x1,x2,x3,x4,x5,x6⟩:=AS aa.o;by_cases D:i<e
     ·obtain⟨b,G,v,rfl,ae,g,c0,c1,c2,c3,c4,c5⟩:=tY (HA.o.seams.on Rx C.o) D;have L:=zH g;have r:Bw wr (zw wr #[zi v.pa,zi v.ea,zi v.pb,zi v.eb,.bool v.rev,zi v.ease] 133):=zA _;have n:=zH r;have T:=zH (aa.o.alloc (.cells #[zi v.pa,zi v.ea,zi v.pb,zi v.eb,.bool v.rev,zi v.ease] 133));have V:=zH (Blk.new wr 133 #[zi v.pa,zi v.ea,zi v.pb,zi v.eb,.bool v.rev,zi v.ease]);have X:=zH (λW (I:Bw (zw wr #[zi v.pa,zi v.ea,zi v.pb,zi v.eb,.bool v.rev,zi v.ease] 133) W)=>RO s Z z zc M m mc P k pc U j uc (sa b G) e ec O o oc v.pa v.ea W ((HA.o.on C.o).on (zT r I)));have Y:=zH (λW (I:Bw (zw wr #[zi v.pa,zi v.ea,zi v.pb,zi v.eb,.bool v.rev,zi v.ease] 133) W)=>RO s Z z zc M m mc P k pc U j uc (sa b G) e ec O o oc v.pb v.eb W ((HA.o.on C.o).on (zT r I)));obtain⟨i1,i2⟩:=zI (k:=i) (n:=e) (by omega);have a0:=zH (uE (s:=s) (v:=v));generalize Dd s v.pa v.ea=b1 at *
      generalize Dd s v.pb v.eb=b2 at *
      have f:=zH (Below.refl (zw wr #[zi v.pa,zi v.ea,zi v.pb,zi v.eb,.bool v.rev,zi v.ease] 133).heap.size (zw wr #[zi v.pa,zi v.ea,zi v.pb,zi v.eb,.bool v.rev,zi v.ease] 133));clear g a r
      cases b1
      ·have B:Hid (AA s=3):=LU K.o J.o S.o L.o x.out (by rw[a0.o];rfl) zD;go_wp2_with(go_at_call 53;(first|(with_reducible refine(X.o _ (by repeat(first|(with_reducible exact zJ)|(with_reducible exact f.out)))).mono ?_)|(with_reducible refine(Y.o _ (by repeat(first|(with_reducible exact zJ)|(with_reducible exact f.out)))).mono ?_));rintro e2 w2 ⟨rfl,g⟩;replace f:=zH (Ag f.out g);clear g;obtain⟨x0,x1,x2,x3,x4,x5,x6⟩:=AS (T.o.below f.out);obtain⟨y0,y1,y2,y3,y4,y5⟩:=NQ (V.o.below f.out))
       go_ret;exact⟨by rw[B.o];rfl,C.o.trans ((zT n.o f.out).mono C.o.size)⟩
      cases b2
      ·have B:Hid (AA s=3):=LU K.o J.o S.o L.o x.out (by rw[a0.o];rfl) zD;go_wp2_with(go_at_call 53;(first|(with_reducible refine(X.o _ (by repeat(first|(with_reducible exact zJ)|(with_reducible exact f.out)))).mono ?_)|(with_reducible refine(Y.o _ (by repeat(first|(with_reducible exact zJ)|(with_reducible exact f.out)))).mono ?_));rintro e2 w2 ⟨rfl,g⟩;replace f:=zH (Ag f.out g);clear g;obtain⟨x0,x1,x2,x3,x4,x5,x6⟩:=AS (T.o.below f.out);obtain⟨y0,y1,y2,y3,y4,y5⟩:=NQ (V.o.below f.out))
       go_ret;exact⟨by rw[B.o];rfl,C.o.trans ((zT n.o f.out).mono C.o.size)⟩
      by_cases ag:v.ease<0
      ·have B:Hid (AA s=1):=LU K.o J.o S.o L.o x.out (by rw[a0.o,if_neg zP,if_pos ag]) zD;go_wp2_with(go_at_call 53;(first|(with_reducible refine(X.o _ (by repeat(first|(with_reducible exact zJ)|(with_reducible exact f.out)))).mono ?_)|(with_reducible refine(Y.o _ (by repeat(first|(with_reducible exact zJ)|(with_reducible exact f.out)))).mono ?_));rintro e2 w2 ⟨rfl,g⟩;replace f:=zH (Ag f.out g);clear g;obtain⟨x0,x1,x2,x3,x4,x5,x6⟩:=AS (T.o.below f.out);obtain⟨y0,y1,y2,y3,y4,y5⟩:=NQ (V.o.below f.out))
       go_ret;exact⟨by rw[B.o];rfl,C.o.trans ((zT n.o f.out).mono C.o.size)⟩
      have HZ:Hid (∀(j:Nat)(v:Gs),j<i+1->s.seams[j]?=some v->LD s v=0):=λj' v' al F=>by
       by_cases ej:j'=i
       ·subst ej;rw[L.o]at F;rw[<-zs6 F,a0.o,if_neg zP,if_neg ag]
       exact x.out j' v' zO F
      go_wp2_with(go_at_call 53;(first|(with_reducible refine(X.o _ (by repeat(first|(with_reducible exact zJ)|(with_reducible exact f.out)))).mono ?_)|(with_reducible refine(Y.o _ (by repeat(first|(with_reducible exact zJ)|(with_reducible exact f.out)))).mono ?_));rintro e2 w2 ⟨rfl,g⟩;replace f:=zH (Ag f.out g);clear g;obtain⟨x0,x1,x2,x3,x4,x5,x6⟩:=AS (T.o.below f.out);obtain⟨y0,y1,y2,y3,y4,y5⟩:=NQ (V.o.below f.out))
      go_roundw
      case rel=>exact⟨i+1,by omega,by go_num,HZ,a9.o.trans ((zT n.o f.out).mono a9.o.size)⟩
      case measure=>exact zM
     obtain rfl:i=e:=zO;have B:Hid (AA s=0):=oI K.o J.o S.o λj v g=>x.out j v (by have:=(zq1.1 g).1;rw[HL.o.2.2]at this;exact this) g
     clear x a
     go_wp2_with fail
     go_ret;exact⟨by rw[B.o];rfl,C.o⟩
 have am:(Q != 0)=true:=by simpa using h0
 have B:Hid (AA s=Q):=Wr K.o h0;clear h0
 go_wp2_with fail
 go_ret;exact⟨by rw[B.o];rfl,a3.o⟩
theorem Hr{x:List Ae×List Ac}(h:AI s sizes=.ok x):x.2.length=(AP s).length*sizes.length∧AA s=0:=by
 unfold AI at h;split at h
 ·cases h
 rename_i b;split at h
 ·cases h
 split at h
 ·cases h
 split at h
 ·cases h
 simp only at h;split at h
 ·cases h
 injection h with h
 subst h;refine⟨?_,by simpa using b⟩;simp only[zq6,List.length_flatMap]
 have:∀(n:Nat)(l:List Nat),(l.map λ_=>n).sum=n*l.length:=by
  intro n l;induction l with
  | nil=>simp
  | cons a l ih=>simp[ih,Nat.mul_add,Nat.add_comm]
 rw[this,zq8]
theorem Gn(h:BE s b sizes=.ok m):m.places.length=(AP s).length*m.sizes.length∧m.sizes=sizes∧AA s=0:=by
 obtain⟨x,e,f,a⟩:=FK h;obtain⟨g,i⟩:=Hr e;exact⟨by rw[f,g,a],a,i⟩
theorem GI(h:BE s b sizes=.ok m):∃(x:List Ae×List Ac)(puts:List Am),AI s sizes=.ok x∧(∀(i:Nat)(p:Am),puts[i]?=some p->Bh b x.1 (puts.take i) p=0∧p.turn.flip=false)∧
  ∀(i:Nat)(q:Ac),m.places[i]?=some q->∃c p,x.2[i]?=some c∧p∈puts∧p.shape=(i:Int)∧q=Ih c p:=by
 unfold BE at h;split at h
 ·cases h
 rename_i x g;split at h
 ·cases h
 rename_i puts j;split at h
 ·cases h
 injection h with h
 subst h;obtain⟨o,f⟩:=Fq g;obtain⟨more,e1,e2,e3⟩:=JV j;rw[List.nil_append]at e1;subst e1;have a:=OW j zP
 have e:(puts.map (·.shape)).Perm ((List.range x.2.length).map λk:Nat=>(k:Int)):=by
  rw[e2,<-f];exact(Fp x.1).map _
 refine⟨x,puts,g,λi p l=>⟨?_,a p (zq2 l)⟩,λi q n=>IV e n⟩;have:=e3 i p l;rwa[List.nil_append]at this
theorem Zl(h:BE s b sizes=.ok m)(g:m.places[i]?=some p)(k:m.places[j]?=some q)(a:i≠j):BB p q=false:=by
 obtain⟨x,puts,l,_,f⟩:=GI h;obtain⟨c,_,n,_,_,rfl⟩:=f i p g;obtain⟨d,_,hd,_,_,rfl⟩:=f j q k;rw[Bool.eq_false_iff];intro e;exact a (QW (Fq l).1 n hd (D5.2 (D5.1 e)))
def Ii(s:Al)(use:Int):Aw:=s.pieces.getD (s.uses.getD use.toNat ⟨0,0,false⟩).piece.toNat ⟨ByteArray.empty,[],0,[],[],[],false⟩
theorem Wx(h:CY s size p=.ok sh):sh.grain=(Ii s p.use).grain:=by
 unfold CY at h;split at h
 ·cases h
 split at h
 ·cases h
 injection h with h
 subst h;split <;> rfl
theorem Jk(h:p∈AP s):0<=p.use∧p.use<(s.uses.length:Int):=by
 unfold AP at h;split at h
 ·cases h
 obtain⟨i,hi,a⟩:=List.mem_flatMap.1 h;obtain⟨k,_,rfl⟩:=zr2.1 a;rw[zt8]at hi;exact⟨by simp,by simpa using hi⟩
theorem fQ{x:List Ae×List Ac}(h:AI s sizes=.ok x)(e:x.2[i]?=some c) :
  (0<=c.use∧c.use<(s.uses.length:Int))∧∃sh,x.1[i]?=some sh∧sh.grain=(Ii s c.use).grain:=by
 unfold AI at h;split at h
 ·cases h
 split at h
 ·cases h
 split at h
 ·cases h
 split at h
 ·cases h
 simp only at h;split at h
 ·cases h
 rename_i l b;injection h with h
 subst h;have b:=CE b;rw[zr5,Option.map_eq_some_iff]at e;obtain⟨y,f,rfl⟩:=e;have a:=congrArg (λl=>l[i]?) b;simp only[zr5,f,zt6]at a;refine⟨?_,?_⟩
 ·obtain⟨g,_,j⟩:=List.mem_flatMap.1 (zq2 f);obtain⟨p,k,rfl⟩:=zr2.1 j;show 0<=p.use∧p.use<(s.uses.length:Int);exact Jk k
 cases hq:l[i]? with
 | none=>rw[hq]at a;cases a
 | some sh=>
  rw[hq]at a;injection a with a
  exact⟨sh,rfl,Wx a⟩
theorem MA(h:BE s b sizes=.ok m)(g:m.places[i]?=some q) :
  (0<=q.use∧q.use<(s.uses.length:Int))∧BF (Ii s q.use).grain q.turn.flip q.turn=true:=by
 obtain⟨x,puts,j,l,n⟩:=GI h;obtain⟨c,p,o,r,t,rfl⟩:=n i q g;obtain⟨v,sh,e,f⟩:=fQ j o;refine⟨v,?_⟩;obtain⟨k,w⟩:=List.getElem?_of_mem r;obtain⟨poly,y,_⟩:=ET.1 (l k p w).1;have a:=y.turn;rw[t,Int.toNat_natCast,zq3,e,Option.getD_some,f]at a;show BF (Ii s c.use).grain c.turn.flip ⟨c.turn.flip,p.turn.quarter⟩=true;unfold BF at a⊢
 rw[Bool.and_eq_true]at a⊢
 exact⟨by simp,a.2⟩
theorem KT:∀{es:List Int},Cj es=0->∀e∈es,e=0
 | [],_,e,a=>by cases a
 | x::es,h,e,a=>by
  unfold Cj at h;by_cases b:x=0
  ·subst b;rcases zr3.1 a with rfl|a
   ·rfl
   refine KT (es:=es) ?_ e a;simpa using h
  exfalso;simp[b]at h
theorem Du(h:AA s=0):∀u∈s.uses,0<=u.piece∧u.piece<(s.pieces.length:Int)∧1<=u.count∧u.count<=4:=by
 intro u e;unfold AA at h;split at h
 ·rename_i a;exact absurd h a
 split at h
 ·rename_i a;exact absurd h a
 split at h
 ·rename_i a;exact absurd h a
 rename_i a;have f:Cj (s.uses.map (Ie s))=0:=by simpa using a
 have b:=KT f (Ie s u) (List.mem_map_of_mem e);unfold Ie at b;split at b
 ·cases b
 omega
theorem fR(h:BE s b sizes=.ok m)(f:m.places[i]?=some q) :
  0<=(s.uses.getD q.use.toNat ⟨0,0,false⟩).piece∧(s.uses.getD q.use.toNat ⟨0,0,false⟩).piece<(s.pieces.length:Int):=by
 obtain⟨⟨j,k⟩,_⟩:=MA h f
 have g:s.uses.getD q.use.toNat ⟨0,0,false⟩∈s.uses:=by
  have e:q.use.toNat<s.uses.length:=zO;rw[zq3,zq0 e,Option.getD_some];exact List.getElem_mem e
 obtain⟨a,c,_,_⟩:=Du (Gn h).2.2 _ g;exact⟨a,c⟩
theorem uF(c:UInt8)(t:List UInt8):cut (c::t) [c]=([],t,true):=by
 unfold cut;rw[Mx,if_pos zO];simp
theorem uG{b c:UInt8}(t:List UInt8)(h:b≠c):cut (b::t) [c]=(b::(cut t [c]).1,(cut t [c]).2.1,(cut t [c]).2.2):=by
 have a:=index_ge t [c];unfold cut;rw[My t h];by_cases hi:index t [c] = -1
 ·rw[if_pos hi,hi,if_neg zO,if_neg zO]
 rw[if_neg hi,if_pos zO,if_pos zO];have e:(index t [c]+1).toNat=(index t [c]).toNat+1:=zO;have e2:(index t [c]).toNat+1 + [c].length=(index t [c]).toNat + [c].length+1:=zO;rw[e,e2,List.take_succ_cons,List.drop_succ_cons]
theorem Ku{c:UInt8}(t:List UInt8):∀(u:List UInt8),c∉u->cut (u++c::t) [c]=(u,t,true)
 | [],_=>uF c t
 | b::u,h=>by
  have a:b≠c:=λe=>h (by simp[e])
  have f:c∉u:=λe=>h (by simp[e])
  rw[List.cons_append,uG _ a,Ku t u f]
def BX(us:List (List UInt8)):List UInt8:=us.flatMap λu=>32::u
theorem Jl:∀(us:List (List UInt8))(u:List UInt8),(32:UInt8)∉u->(∀x∈us,(32:UInt8)∉x)->split (u++BX us) [32]=u::us
 | [],u,h,_=>by simpa[BX]using Pw u h
 | x::us,u,h,hs=>by
  have e:u++BX (x::us)=u++32::(x++BX us):=by simp[BX]
  rw[e,Pv _ u h,Jl us x (hs x zP) λy a=>hs y (by simp[a])]
theorem QX{us:List (List UInt8)}(h:∀x∈us,(10:UInt8)∉x):(10:UInt8)∉BX us:=λb=>by
 obtain⟨u,f,a⟩:=List.mem_flatMap.1 b;rcases zr3.1 a with e|a
 ·cases e
 exact h u f a
theorem IW(w:List UInt8)(l:List Int):AO w l=w++BX (l.map itoa):=by
 simp[AO,BX,List.flatMap_map]
theorem QY(z:Int):(32:UInt8)∉itoa z:=Xy z zD zD
theorem QZ(z:Int):(10:UInt8)∉itoa z:=Xy z zD zD
def BM(p:Ac):List (List UInt8):=([p.garment,p.use,p.copy].map itoa)++((if p.turn.flip=true then[[102,108,105,112]]else[])++([p.turn.quarter,p.at_.1,p.at_.2].map itoa))
theorem PP(p:Ac):FH p=(Bs++BX (BM p))++[10]:=by
 unfold FH BM;rw[IW,IW]
 cases p.turn.flip <;> simp[BX,E3]
theorem Uf(p:Ac):∀x∈BM p,(32:UInt8)∉x∧(10:UInt8)∉x:=λx a=>by
 unfold BM at a;rcases zr1.1 a with a|a
 ·obtain⟨z,_,rfl⟩:=zr2.1 a;exact⟨QY z,QZ z⟩
 rcases zr1.1 a with a|a
 ·split at a
  ·obtain rfl:x=[102,108,105,112]:=by simpa using a
   decide
  cases a
 obtain⟨z,_,rfl⟩:=zr2.1 a;exact⟨QY z,QZ z⟩
theorem NR(l:List Int):∀x∈l.map itoa,(32:UInt8)∉x∧(10:UInt8)∉x:=λx a=>by
 obtain⟨z,_,rfl⟩:=zr2.1 a;exact⟨QY z,QZ z⟩
def C7(m:Au)(k:Nat):List UInt8:=(m.places.drop k).flatMap FH
def Fk(m:Au):List (List UInt8):=[m.length,m.width,m.repeat_.1,m.repeat_.2].map itoa
theorem fS(m:Au):cut (E4 m) [10]=(Bm++BX (Fk m),(Br++BX (m.sizes.map itoa))++10::C7 m 0,true):=by
 have e:E4 m=(Bm++BX (Fk m))++10::((Br++BX (m.sizes.map itoa))++10::C7 m 0):=by
  unfold E4 Fk C7;rw[IW,IW];simp
 rw[e];refine Ku _ _ λa=>?_
 rcases zr1.1 a with a|a
 ·exact absurd a zD
 exact QX (λx b=>(NR _ x b).2) a
theorem fT(m:Au):cut ((Br++BX (m.sizes.map itoa))++10::C7 m 0) [10]=(Br++BX (m.sizes.map itoa),C7 m 0,true):=by
 refine Ku _ _ λa=>?_
 rcases zr1.1 a with a|a
 ·exact absurd a zD
 exact QX (λx b=>(NR _ x b).2) a
theorem XC(h:m.places[k]?=some p):C7 m k=(Bs++BX (BM p))++10::C7 m (k+1):=by
 unfold C7;obtain⟨a,b⟩:=zq1.1 h;rw[List.drop_eq_getElem_cons a,b,List.flatMap_cons,PP];simp
theorem fU(h:m.places[k]?=some p):cut (C7 m k) [10]=(Bs++BX (BM p),C7 m (k+1),true):=by
 rw[XC h];refine Ku _ _ λa=>?_
 rcases zr1.1 a with a|a
 ·exact absurd a zD
 exact QX (λx b=>(Uf p x b).2) a
theorem oT(h:m.places.length<=k):C7 m k=[]:=by
 unfold C7;rw[zr6 h];rfl
theorem uH(h:k<m.places.length):C7 m k≠[]:=by
 rw[XC (zq0 h)];simp
theorem Zm(m:Au):split (Bm++BX (Fk m)) [32]=Bm::Fk m:=Jl _ _ zD λx a=>(NR _ x a).1
theorem Wy(p:Ac):split (Bs++BX (BM p)) [32]=Bs::BM p:=Jl _ _ zD λx a=>(Uf p x a).1
theorem Ug(h:n<10000000):(decDigits n).length<=7:=by
 rw[decDigits_length];exact Pj zO zO
theorem fV(a : -1048576<=z)(b:z<=1048576):(itoa z).length<=8:=by
 unfold itoa;split
 ·have:=Ug (n:=z.natAbs) zO;simp only[zt5];omega
 have:=Ug (n:=z.toNat) zO;omega
theorem GJ(w:List UInt8):∀(l:List Int),(∀z∈l,-1048576<=z∧z<=1048576)->(AO w l).length<=w.length+9*l.length:=by
 intro l;induction l with
 | nil=>simp[AO]
 | cons z l ih=>
  intro h;have a:=ih λx b=>h x (by simp[b])
  have e:=fV (h z zP).1 (h z zP).2;unfold AO at a⊢
  simp only[zq5,List.flatMap_cons,zt5]at a⊢
  omega
theorem F7(h:inR lo hi l=true):∀z∈l,lo<=z∧z<=hi:=λz a=>by
 have:=List.all_eq_true.1 h z a;simp only[Bool.and_eq_true,decide_eq_true_eq]at this;exact this
theorem RQ(h:Cw p=true):(FH p).length<=70:=by
 unfold Cw at h;simp only[Bool.and_eq_true]at h;obtain⟨b,e,f⟩:=h;have a1:=F7 b;have a2:=F7 e;have a3:=F7 f;have b1:=GJ Bs [p.garment,p.use,p.copy] λz a=>by have:=a1 z a;omega
 have b2:=λw=>GJ w [p.turn.quarter,p.at_.1,p.at_.2] λz a=>by
  rcases zr3.1 a with rfl|a
  ·have:=a2 p.turn.quarter zP;omega
  exact a3 z a
 unfold FH;have b3:=b2 (AO Bs [p.garment,p.use,p.copy]++(if p.turn.flip=true then E3 else[]));have b4:(if p.turn.flip=true then E3 else[]).length<=5:=by split <;> decide
 simp only[zq5,zt5,List.length_nil,Bs]at b1 b3⊢
 omega
structure M6(m:Au):Prop where
 sz:m.sizes.length<=6
 pl:m.places.length<=60
 head:EN m=true
 size:inR 0 1048576 m.sizes=true
 plc:∀p∈m.places,Cw p=true
theorem Wz(h:CZ m=0):M6 m:=by
 unfold CZ at h;split at h
 ·cases h
 rename_i f;split at h
 ·cases h
 rename_i a;split at h
 ·cases h
 rename_i b;rw[Bool.not_eq_true,List.any_eq_false]at b;refine⟨by omega,by omega,?_,?_,λp e=>by simpa using b p e⟩
 ·cases hh:EN m
  ·exact absurd (.inl hh) a
  rfl
 cases hh:inR 0 1048576 m.sizes
 ·exact absurd (.inr hh) a
 rfl
theorem RR(h:M6 m):CZ m=0:=by
 unfold CZ;have b:=h.sz;have e:=h.pl;rw[if_neg zO,if_neg (by rw[h.head,h.size];simp),if_neg];rw[Bool.not_eq_true,List.any_eq_false];intro p a;simp[h.plc p a]
theorem LY:∀(l:List Ac),(∀p∈l,Cw p=true)->(l.flatMap FH).length<=70*l.length:=by
 intro l;induction l with
 | nil=>simp
 | cons p l ih=>
  intro h;have b:=ih λx a=>h x (by simp[a])
  have e:=RQ (h p zP);simp only[List.flatMap_cons,zq5,zt5];omega
theorem Uh(h:M6 m):(E4 m).length<=20000:=by
 have b:=h.sz;have e:=h.pl
 have a1:=GJ Bm [m.length,m.width,m.repeat_.1,m.repeat_.2] λz a=>by
  have:=F7 h.head z a;omega
 have a2:=GJ Br m.sizes λz a=>by
  have:=F7 h.size z a;omega
 have a3:=LY m.places h.plc;unfold E4;simp only[zq5,zt5,List.length_nil,Bm,Br]at a1 a2⊢
 omega
theorem S9{g:Int}{m:Bool}{t:Az}(h:t∈Cp g m):0<=t.quarter∧t.quarter<=3:=by
 unfold Cp at h;rw[List.mem_filter]at h;obtain⟨q,a,rfl⟩:=zr2.1 h.1;simp only[zr3,List.not_mem_nil,or_false]at a;rcases a with rfl|rfl|rfl|rfl <;> simp
theorem Ui{p:Am}(h:DM b ss puts k=.ok p):0<=p.turn.quarter∧p.turn.quarter<=3:=by
 unfold DM at h;split at h
 ·cases h
 split at h
 ·cases h
 split at h
 ·cases h
 rename_i placed r;simp only at h;split at h
 ·cases h
 rename_i l i;split at h
 ·cases h
 rename_i x j;obtain rfl:x.1=p:=by simpa using h
 have m:=CE i;obtain⟨o,n,f⟩:=List.mem_filterMap.1 (MS j);obtain rfl:o=some x:=f
 have q:(Except.ok (some x):Except Int (Option (Am×Int)))∈(Cp (ss.getD k ⟨[],0,false,(0,0)⟩).grain false).map (B8 b ss puts placed k (ss.getD k ⟨[],0,false,(0,0)⟩)):=by
  rw[m];exact List.mem_map_of_mem n
 obtain⟨t,g,e⟩:=zr2.1 q;unfold B8 at e;split at e
 ·cases e
 split at e
 ·cases e
 split at e
 ·cases e
 injection e with e
 rw[Option.map_eq_some_iff]at e;obtain⟨a,_,rfl⟩:=e;exact S9 g
theorem IC{b:AG}{ss:List Ae}:∀{l:List Nat}{puts out:List Am},Ch b ss l puts=.ok out->(∀p∈puts,0<=p.turn.quarter∧p.turn.quarter<=3)->∀p∈out,0<=p.turn.quarter∧p.turn.quarter<=3
 | [],puts,out,h,h0=>by
  obtain rfl:puts=out:=by simpa[Ch]using h
  exact h0
 | k::l,puts,out,h,h0=>by
  unfold Ch at h;split at h
  ·cases h
  rename_i p e;refine IC h λq a=>?_
  rcases zr1.1 a with a|a
  ·exact h0 q a
  obtain rfl:q=p:=by simpa using a
  exact Ui e
theorem ID(h:AA s=0):s.sizes.length<=12∧s.uses.length<=12:=by
 unfold AA at h;split at h
 ·rename_i b;exact absurd h b
 rename_i b;have a:AM s=0:=by simpa using b
 unfold AM at a;split at a
 ·cases a
 split at a
 ·cases a
 split at a
 ·cases a
 split at a
 ·cases a
 split at a
 ·cases a
 omega
theorem fW(h:p∈AP s):(0<=p.use∧p.use<(s.uses.length:Int))∧0<=p.copy∧p.copy<=4:=by
 refine⟨Jk h,?_⟩;unfold AP at h;split at h
 ·cases h
 rename_i a;obtain⟨i,hi,b⟩:=List.mem_flatMap.1 h;obtain⟨k,e,rfl⟩:=zr2.1 b;rw[zt8]at hi e
 have f:s.uses.getD i ⟨0,0,false⟩∈s.uses:=by
  rw[zq3,zq0 hi,Option.getD_some];exact List.getElem_mem hi
 obtain⟨_,_,_,g⟩:=Du (by simpa using a) _ f;refine⟨by simp,?_⟩;show(k:Int)<=4;omega
theorem Kv{x:List Ae×List Ac}(h:AI s sizes=.ok x):sizes.length<=6∧(∀k∈sizes,0<=k∧k<(s.sizes.length:Int))∧∀c∈x.2,(0<=c.garment∧c.garment<=6)∧(0<=c.use∧c.use<=12)∧0<=c.copy∧c.copy<=4:=by
 unfold AI at h;split at h
 ·cases h
 rename_i b;split at h
 ·cases h
 rename_i o;split at h
 ·cases h
 rename_i a;split at h
 ·cases h
 simp only at h;split at h
 ·cases h
 injection h with h
 subst h;have n:=ID (s:=s) (by simpa using b);rw[Bool.not_eq_true,List.any_eq_false]at a;refine⟨by omega,λk e=>?_,λc f=>?_⟩
 ·have:=a k e;simp only[Bool.not_eq_true,Bool.or_eq_false_iff,decide_eq_false_iff_not]at this;omega
 obtain⟨y,i,rfl⟩:=zr2.1 f;obtain⟨g,j,l⟩:=List.mem_flatMap.1 i;obtain⟨p,m,rfl⟩:=zr2.1 l;obtain⟨⟨a1,a2⟩,a3,a4⟩:=fW m;rw[zt8]at j;refine⟨⟨by simp,?_⟩,⟨a1,?_⟩,a3,a4⟩
 ·show(g:Int)<=6;omega
 show p.use<=12;omega
theorem uI{p:Pt}(h:Av p=false) : -1048576<=p.1∧p.1<=1048576∧-1048576<=p.2∧p.2<=1048576:=by
 unfold Av at h;simp only[Bool.or_eq_false_iff,decide_eq_false_iff_not]at h;omega
theorem yC{p:Am}{q:lP}(h:Af ss p=.ok q):Av p.at_=false:=by
 unfold Af at h;split at h
 ·cases h
 rename_i a
 cases hh:Av p.at_
 ·rfl
 exact absurd (.inr (.inr hh)) a
theorem Li(h:∀z∈l,lo<=z∧z<=hi):inR lo hi l=true:=by
 unfold inR;rw[List.all_eq_true];intro z a;have:=h z a;simp[this.1,this.2]
theorem Zn(h:BE s b sizes=.ok m)(M:CZ m≠0) :
  (m.repeat_.1<0∨m.repeat_.2<0∨1048576<m.repeat_.1∨1048576<m.repeat_.2)∨(m.places=[]∧(m.width<0∨1048576<m.width)):=by
 refine Classical.byContradiction λw=>M (RR ?_)
 rw[not_or]at w;obtain⟨N,O⟩:=w;have F:=Gn h;unfold BE at h;split at h
 ·cases h
 rename_i x y;split at h
 ·cases h
 rename_i puts r;split at h
 ·cases h
 rename_i L G;injection h with h
 subst h;obtain⟨i1,i2,i3⟩:=Kv y;obtain⟨Y,D⟩:=Fq y;obtain⟨more,e1,e2,e3⟩:=JV r;rw[List.nil_append]at e1;subst e1;have P:=IC r zP
 have j:(puts.map (·.shape)).Perm ((List.range x.2.length).map λk:Nat=>(k:Int)):=by
  rw[e2,<-D];exact(Fp x.1).map _
 have g:∀p∈puts,∃poly,sO b x.1 p poly:=λp f=>by
  obtain⟨i,hi⟩:=List.getElem?_of_mem f;obtain⟨poly,B,_⟩:=ET.1 (e3 i p hi);exact⟨poly,B⟩
 have n:(BP x.2 puts).length=x.2.length:=LX puts x.2;have T:=ID (Hr y).2
 have t:puts≠[]->1<=b.width∧b.width<=1048576∧b.length<=1048576:=λe=>by
  cases f:puts with
  | nil=>exact absurd f e
  | cons p l=>
   obtain⟨poly,o⟩:=g p (by rw[f];simp);have B:=o.bed;unfold BV at B;simp only[Bool.or_eq_false_iff,decide_eq_false_iff_not]at B;omega
 have H:0<=L∧L<=1048576:=by
  by_cases e:puts=[]
  ·subst e;simp[De,AE]at G;omega
  obtain⟨_,Q⟩:=RC G;obtain⟨p,f,q,I,v,R,U⟩:=Q e;obtain⟨poly,o⟩:=g p f;have C:=o.put;rw[I]at C;injection C with C
  subst C;have:=o.inside v R;have:=(t e).2.2;omega
 refine⟨?_,?_,?_,?_,?_⟩
 ·exact i1
 ·show(BP x.2 puts).length<=60;rw[n];exact Jj y
 ·refine Li λz a=>?_
  simp only[zr3,List.not_mem_nil,or_false]at a
  have E:0<=b.width∧b.width<=1048576:=by
   by_cases e:puts=[]
   ·have a:BP x.2 puts=[]:=by
     have:x.2.length=0:=by
      have:=j.length_eq;rw[e]at this;simpa using this.symm
     exact zt7 (by rw[n];exact this)
    have V:¬(b.width<0∨1048576<b.width):=λS=>O ⟨a,S⟩
    omega
   have:=t e;omega
  have W:¬(b.rx<0∨b.ry<0∨1048576<b.rx∨1048576<b.ry):=N;rcases a with rfl|rfl|rfl|rfl
  ·exact H
  ·exact E
  ·show 0<=b.rx∧b.rx<=1048576;omega
  show 0<=b.ry∧b.ry<=1048576;omega
 ·refine Li λz a=>?_
  have:=i2 z a;omega
 intro q J;obtain⟨i,hi⟩:=List.getElem?_of_mem J;obtain⟨c,p,w,f,_,rfl⟩:=IV j hi;obtain⟨⟨a1,a2⟩,⟨a3,a4⟩,a5,a6⟩:=i3 c (zq2 w);obtain⟨poly,o⟩:=g p f;have X:=uI (yC o.put);have K:=P p f;unfold Cw;simp only[Bool.and_eq_true];refine⟨Li λz a=>?_,Li λz a=>?_,Li λz a=>?_⟩
 ·simp only[zr3,List.not_mem_nil,or_false]at a;rcases a with rfl|rfl|rfl
  ·show 0<=c.garment∧c.garment<=1048576;omega
  ·show 0<=c.use∧c.use<=1048576;omega
  show 0<=c.copy∧c.copy<=1048576;omega
 ·simp only[zr3,List.not_mem_nil,or_false]at a;subst a;exact K
 simp only[zr3,List.not_mem_nil,or_false]at a;rcases a with rfl|rfl
 ·show -1048576<=p.at_.1∧p.at_.1<=1048576;omega
 show -1048576<=p.at_.2∧p.at_.2<=1048576;omega
def bytes(l:List UInt8):ByteArray:=⟨l.toArray⟩
theorem Dv(l:List UInt8):(bytes l).data.toList=l:=by simp[bytes]
theorem rI(s:ByteArray):bytes s.data.toList=s:=by simp[bytes]
theorem Eu(l:List UInt8):(bytes l).size=l.length:=rfl
theorem aY(k:Nat)(os:Array Obj):Bw w (Sort.grow (w.drewN k) os):=by
 refine⟨rfl,rfl,rfl,?_,λj a=>?_⟩
 ·show w.heap.size<=(w.heap++os).size;simp
 show(w.heap++os)[j]?=w.heap[j]?;rw[Array.getElem?_append_left zO]
theorem rJ(z:Int)(w:World)(a:Std w)(b : -9223372036854775808<=z)(f:z<=9223372036854775807):CP 42 #[zi z] w (zR (.string (bytes (itoa z))) w):=by
 refine(Tryz.strconv_Itoa z b f w a.pow).mono ?_;rintro e w' ⟨rfl,k,os,rfl⟩;exact⟨rfl,aY k os⟩
theorem rK(s:ByteArray):splitB ⟨#[32]⟩ 0 (countB s ⟨#[32]⟩) s=(split s.data.toList [32]).map bytes:=by
 have h:(splitB ⟨#[32]⟩ 0 (countB s ⟨#[32]⟩) s).map (·.data.toList)=split s.data.toList [32]:=by
  rw[splitB_data];rfl
 rw[<-h,List.map_map];conv=>lhs;rw[<-List.map_id (splitB ⟨#[32]⟩ 0 (countB s ⟨#[32]⟩) s)]
 exact List.map_congr_left λx _=>(rI x).symm
theorem VH(s:ByteArray)(us:List (List UInt8))(w:World)(f:Std w)(i:s.size<=1000000)(h:split s.data.toList [32]=us) :
  CP 44 #[.string s,.string ⟨#[32]⟩] w λe w'=>e=.returned (.slice (sa w.heap.size 0) us.length us.length)∧Blk w' w.heap.size 9 (us.map λu=>Value.string (bytes u)).toArray∧Bw w w':=by
 obtain⟨m,g⟩:=f.max;have a:=rK s;rw[h]at a
 have b:countB s ⟨#[32]⟩+1=us.length:=by
  have:=splitB_all ⟨#[32]⟩ zD 0 (countB s ⟨#[32]⟩) s rfl;rw[a,zq6]at this;exact this.symm
 refine(Tryz.strings_Split s ⟨#[32]⟩ m w zO g zD).mono ?_;rintro e w' ⟨rfl,rfl⟩;rw[a,b];refine⟨rfl,?_,zA _⟩;have:=Blk.new w 9 ((us.map bytes).map Value.string).toArray;rw[List.map_map]at this;rw[List.map_map];exact this
theorem rL(s:ByteArray)(a b:List UInt8)(ok:Bool)(w:World)(f:Std w)(i:s.size<=1000000)(h:cut s.data.toList [10]=(a,b,ok)) :
  CP 29 #[.string s,.string ⟨#[10]⟩] w (zR (.tuple #[.string (bytes a),.string (bytes b),.bool ok]) w):=by
 obtain⟨m,g⟩:=f.max;refine(Tryz.strings_Cut s ⟨#[10]⟩ m w zO g).mono ?_;rintro e w' ⟨rfl,n,rfl⟩;rw[show(⟨#[10]⟩:ByteArray).data.toList=[10]from rfl,h];exact⟨rfl,BR w _ n⟩
def inW(z:Int):Prop:=-1000000000000<=z∧z<=1000000000000
theorem Mn(h:0<=z):itoa z=decDigits z.toNat:=by unfold itoa;rw[if_neg zO]
theorem Mo(h:z<0):itoa z=45::decDigits z.natAbs:=by unfold itoa;rw[if_pos h]
theorem N5(n:Nat)(h:n<10^13):(decDigits n).length<=13:=by
 rw[decDigits_length];exact Pj zO h
theorem aZ(e:inW z):∃u:Nat,trimPrefix (itoa z) [45]=decDigits u∧hasPrefix (itoa z) [45]=decide (z<0)∧(decDigits u).length<=13∧(u=0↔z=0):=by
 unfold inW at e;by_cases h:z<0
 ·obtain⟨a,b⟩:=eH (decDigits z.natAbs);refine⟨z.natAbs,by rw[Mo h,b],by rw[Mo h,a];simp[h],N5 _ zO,by omega⟩
 obtain⟨a,b⟩:=nM (K4 z.toNat);refine⟨z.toNat,by rw[Mn zO,b],by rw[Mn zO,a];simp[h],N5 _ zO,by omega⟩
theorem Ow:∀(l:List UInt8)(acc:Nat),l.all Fw=true->decFrom acc l=some (l.foldl (λn b=>n*10+(b.toNat-48)) acc)
 | [],acc,_=>rfl
 | b::l,acc,h=>by
  rw[List.all_cons,Bool.and_eq_true]at h;have a:=Hi.1 h.1;unfold decFrom digitVal;rw[if_pos a];simp only[List.foldl_cons];exact Ow l _ h.2
theorem MC(n:Nat):decNat (decDigits n)=some n:=by
 have a:=Is n;unfold decNat;rw[if_neg (by intro e;rw[List.isEmpty_iff]at e;rw[e]at a;simp at a),Ow _ _ (K4 n)];have:=mH n;unfold OC at this;rw[this]
theorem kK(z:Int):atoi (itoa z)=some z:=by
 by_cases h:z<0
 ·rw[Mo h];rw[show atoi (45::decDigits z.natAbs)=(decNat (decDigits z.natAbs)).map λ(m:Nat)=>-(m:Int)from rfl,MC,zt6];congr 1;omega
 rw[Mn zO];have hd:=MC z.toNat;have a:=K4 z.toNat;have e:=Is z.toNat
 cases hl:decDigits z.toNat with
 | nil=>rw[hl]at e;simp at e
 | cons b r=>
  rw[hl]at hd a;rw[List.all_cons,Bool.and_eq_true]at a;have f:=Hi.1 a.1
  have e1:(b == 45)=false:=by
   rw[beq_eq_false_iff_ne];rintro rfl;exact absurd f.1 zD
  have e2:(b == 43)=false:=by
   rw[beq_eq_false_iff_ne];rintro rfl;exact absurd f.1 zD
  unfold atoi;simp only[e1,e2,Bool.false_eq_true,if_false];rw[hd,zt6];congr 1;omega
theorem Ju(a:inW z):(itoa z).length<=14:=by
 unfold inW at a;by_cases h:z<0
 ·rw[Mo h,zt5];have:=N5 z.natAbs zO;omega
 rw[Mn zO];have:=N5 z.toNat zO;omega
theorem rM(z:Int)(w:World)(a:inW z):CP 158 #[.string (bytes (itoa z))] w (zR (.tuple #[zi z,.nilIface]) w):=by
 refine(Tryz.strconv_Atoi (bytes (itoa z)) z (by have:=Ju a;rw[Eu];omega) (by rw[Dv];exact kK z) w).mono ?_;rintro e w' ⟨rfl,t,rfl⟩;exact⟨rfl,bytesWorld_below w _ t⟩
theorem wU{b:UInt8}(h:b.toNat=n)(c:UInt8)(a:c.toNat=n):b=c:=UInt8.toNat_inj.1 (h.trans a.symm)
theorem bA(z:Int)(w:World)(y:inW z):CP 116 #[.string (bytes (itoa z))] w (zR (.tuple #[zi z,zY]) w):=by
 obtain⟨u,q,r,E,F⟩:=aZ y;have f:=Tryz.strings_CutPrefix (bytes (itoa z)) ⟨#[45]⟩ w;rw[show(⟨#[45]⟩:ByteArray).data.toList=[45]from rfl,Dv,q,r]at f;have t:=zH (λW=>rM z W y);obtain⟨D,B⟩:∃D:ByteArray,(⟨(decDigits u).toArray⟩:ByteArray)=D:=⟨_,rfl⟩;rw[B]at f;have g:D.data.toList=decDigits u:=by rw[<-B]
 have j:D.size=(decDigits u).length:=by rw[<-g];rfl
 have M:=Is u;obtain⟨N,C⟩:=zG (decide (z<0));rw[C]at f;obtain⟨s,G⟩:=zG (bytes (itoa z));rw[G]at f t⊢
 have l:0<D.size:=zO;have R:D.size<=18:=zO;obtain⟨d1,d2⟩:=NF D l;obtain⟨b,H⟩:=zG (D[0]);have a:=NE D 0 l;rw[H,g]at a
 have n:(((b.toNat:Int) == 48)=true∧D.size=1∧N=false)∨((b.toNat:Int) == 48)=false:=by
  by_cases I:u=0
  ·left;subst I;rw[Ke zO]at a j;have J:UInt8.ofNat (48+0)=b:=by simpa using a
   refine⟨by rw[<-J];rfl,by simpa using j,?_⟩;rw[<-C];simp;omega
  right;have:=mI u I;rw[a]at this;have S:b.toNat≠48:=λe=>this (by rw[wU e 48 rfl])
  simp;omega
 have O:Hid (∀(k:Nat)(x:UInt8),D.data.toList[k]?=some x->48<=x.toNat∧x.toNat<=57):=λk x p=>by
  rw[g]at p;exact Hi.1 (List.all_eq_true.1 (K4 u) x (zq2 p))
 have f:=zH f;clear B g j C a q r E F M G y;rcases n with⟨z1,z2,z3⟩|z1
 all_goals
  (try subst z3)
  go_enter func116,ntmps116;go_wp2_with(go_at_call 157;refine f.o.mono ?_;rintro e w1 ⟨rfl,rfl⟩)
  clear z1 H
  go_loop [6,31] (λ_ i=>∃k:Nat,k<=D.size∧i=zi (k:Int)) (λ_ i=>D.size-(intOf i).toNat)
  case atStart=>exact⟨0,zs3 _,rfl⟩
  case round=>
   obtain⟨k,T,rfl⟩:=hrel;by_cases K:k<D.size
   ·obtain⟨x,p⟩:=zG (D[k]);have m:=NE D k K;rw[p]at m;obtain⟨lo,hi⟩:=O.o k x m;have P:¬(x.toNat:Int)<48:=zO;have Q:¬(57:Int)<(x.toNat:Int):=zO;clear m;go_wp2;go_round
    case rel=>exact⟨k+1,by omega,by go_num⟩
    case measure=>exact zM
   obtain rfl:k=D.size:=zO;go_wp2_with(go_at_call 158;(refine(t.o _).mono ?_);rintro e w2 ⟨rfl,v⟩;have L:=zH v;clear v)
   go_quiet (fail)
   go_wp2_with fail
   go_ret2
   exact⟨rfl,Ai L.o _⟩
end Go.Proofs.YteafekbddckemaaGreatDoor
