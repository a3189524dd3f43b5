/- Parts of the proof. -/
import Derived.Deep.Light
import Derived.Test.YteafekbddckemaaGreatDoorH13
set_option maxRecDepth 100000
set_option maxHeartbeats 40000000
namespace Go.Proofs.YteafekbddckemaaGreatDoor
open Tryz Go.RowKit
open Go.Lib hiding intOf
variable{B cc cn d dc dn ec en g i j k m n nc nn r:Nat}{C D N S:oA}{E:Prop}{a:Act}{b v v':Value}{c ch:Cb}{cs:aV}{es:List As}{o:Oper}{p:Aw}{q:Rat}{t ty:TypeId}{w w' w4:World}{x:As}{z:Int}{zs:List ByteArray}
structure LS(w:World)(S:oA)(n c:Nat)(R:oA)(m d k:Nat)(ch:Cb):Prop where
 lies:PC w S n R m k ch
 cap:n<=c
 capr:m<=d
 len:n<=100000
 lenr:m<=100000
 one:1<=k
 small:k<=100000
 sz:∀(i:Nat)(s:ByteArray),ch.sizes[i]?=some s->s.size<=9223372036854775807
 nm:∀(i:Nat)(r:Dg),ch.rows[i]?=some r->r.name.size<=100000
theorem LS.on{R:oA}{c:Nat}(h:LS w S n c R m d k ch)(a:Bw w w'):LS w' S n c R m d k ch:=
 ⟨h.lies.on a,h.cap,h.capr,h.len,h.lenr,h.one,h.small,h.sz,h.nm⟩
section
variable{w:World}{S R:oA}{n c m d k:Nat}{ch:Cb}
theorem LS.slen(h:LS w S n c R m d k ch):ch.sizes.length=n:=h.lies.1.slen
theorem LS.rlen(h:LS w S n c R m d k ch):ch.rows.length=m:=h.lies.2.len
end
theorem Sl.contains{c:Nat}(h:Sl w w.heap.size S i (Hh zs))(x:ByteArray)(hi:i<=100000) :
  CP 163 #[.slice S i c,.string x] w λe w'=>e=.returned (.bool (containsS zs x))∧w=w':=by
 rcases Nat.eq_zero_or_pos i with a|a
 ·subst a;have o:zs=[]:=zt7 h.slen;subst o;exact(Tryz.slices_Contains_string_empty S c x w).mono λe w' ⟨f,g⟩=>⟨by rw[f];rfl,g.symm⟩
 obtain⟨b,l,rfl,r,p⟩:=h.2 a;have s:=h.slen;refine(Tryz.slices_Contains_string b l i c zs x w zO zO (λj q=>?_)).mono λe w' ⟨f,g⟩=>⟨?_,g.symm⟩
 ·apply p;simp[Hh,zq0 q]
 rw[f,zq4 zO]
theorem oD{x:ByteArray}(h:YY (c.rows.take k) x z)(g:z<0):x∉c.names.take k:=by
 rcases h with⟨_,h⟩|⟨i,r,rfl,_⟩
 ·intro a;rw[Cb.names,<-List.map_take,zr2]at a;obtain⟨r,b,e⟩:=a;obtain⟨j,f⟩:=List.getElem?_of_mem b;exact h j r f e
 omega
theorem eU{x:ByteArray}(h:YY (c.rows.take k) x z)(b:0<=z):x∈c.names.take k:=by
 rcases h with⟨rfl,_⟩|⟨i,r,_,a,e,_⟩
 ·omega
 rw[Cb.names,<-List.map_take,zr2];exact⟨r,zq2 a,e⟩
theorem uC{r:Dg}(h:c.rows[k]?=some r):c.names[k]?=some r.name:=by
 rw[Cb.names,zr5,h];rfl
def AaP(e0:Int)(w:World)(e:Ending)(w':World):Prop:=e=.returned (zi e0)∧Bw w w'
theorem Zb{a c:Value}(e:Blk w g t #[a,b,c]):zL w g 0 a∧zL w g 1 b∧zL w g 2 c:=⟨e.c rfl,e.c rfl,e.c rfl⟩
theorem eV(S:oA)(n c:Nat)(R:oA)(m d k:Nat)(ch:Cb)(w:World)(h:LS w S n c R m d k ch) :
  CP 118 #[.agg #[.slice S n c,zi ch.base,.slice R m d]] w (AaP (Id ch) w):=by
 have l:=h.slen;have O:=h.rlen;have hB:Bw w (zw w #[.slice S n c,zi ch.base,.slice R m d] 224):=zA _;have HX:=zH (Blk.new w 224 #[.slice S n c,zi ch.base,.slice R m d]);have g:=zH hB;have U:=zH (h.on hB);have n1:=h.len;have m1:=h.lenr;have HC:=zH (zu2 h.cap h.capr);have V:=zH (zu2 l O);clear hB;by_cases h1:12<n∨32<m
 ·have f:=zH (mL (c:=ch) (by rw[l,O];exact h1));clear h l O;by_cases h2:12<n
  ·go_enter func118,ntmps118;go_wp2;go_ret;exact⟨by rw[f.o];rfl,g.o⟩
  have h3:32<m:=zO;clear h1;go_enter func118,ntmps118;go_wp2;go_ret;exact⟨by rw[f.o];rfl,g.o⟩
 have b5:¬12<n:=zO;have b6:¬32<m:=zO;have y:Hid (¬(12<ch.sizes.length∨32<ch.rows.length)):=by rw[Hid,l,O];exact h1
 clear h1;by_cases h0:n=0
 ·have f:=zH (GV y.o (V4 (by rw[l];exact h0)));subst h0;clear h l O;go_enter func118,ntmps118;go_wp2;go_ret;exact⟨by rw[f.o];rfl,g.o⟩
 have b0:0<n:=zO;have b7:((n:Int) == 0)=false:=by simp;omega
 obtain⟨c0,c1,c2⟩:=Zb HX.o;clear h l O h0 c0 c1 c2;go_enter func118,ntmps118;go_wp2
 go_loop [28] (λi=>∃k:Nat,k<=n∧i=zi (k:Int)∧Hid (∀(j:Nat)(s:ByteArray),j<k->ch.sizes[j]?=some s->Bl s.data.toList=true)) (λi=>n-(intOf i).toNat)
 case atStart=>exact⟨0,zs3 _,rfl,λj s h=>by omega⟩
 case round=>
  obtain⟨k1,hk,rfl,a⟩:=hrel;by_cases t:k1<n
  ·obtain⟨b,a0,s,rfl,a9,H,ao⟩:=U.o.lies.1.str_ t;have b8:=U.o.sz k1 s H;have P:=zH H;have p:=λW=>YX s W zO
   obtain⟨i1,i2⟩:=zI (k:=k1) (n:=n) (by omega);clear H
   cases hq:Bl s.data.toList
   ·have f:=zH (GV y.o (Yq P.o hq));simp only[hq]at p;have p:=zH p;clear hq;go_wp2_with(go_at_call 160;go_must((refine(p.o _).mono ?_);rintro e w' ⟨rfl,rfl⟩))
    go_ret;exact⟨by rw[f.o];rfl,g.o⟩
   have f:Hid (∀(j:Nat)(s:ByteArray),j<k1+1->ch.sizes[j]?=some s->Bl s.data.toList=true):=λj s' hj J=>by
    by_cases e:j=k1
    ·subst e;rw[P.o]at J;rw[<-zs6 J];exact hq
    exact a.out j s' zO J
   simp only[hq]at p;have p:=zH p;clear hq;go_wp2_with(go_at_call 160;go_must((refine(p.o _).mono ?_);rintro e w' ⟨rfl,rfl⟩))
   go_round
   case rel=>exact⟨k1+1,by omega,by go_num,f⟩
   case measure=>exact zM
  obtain rfl:n=k1:=zO;have ap:Hid (∀(j:Nat)(s:ByteArray),ch.sizes[j]?=some s->Bl s.data.toList=true):=λj s H=>a.out j s (by have:=(zq1.1 H).1;rw[V.o.1]at this;exact this) H
  clear a hk
  go_wp2_with fail
  go_loopw[39] (λi wr=>∃k:Nat,k<=m∧i=zi (k:Int)∧Hid (∀(j:Nat)(r:Dg),j<k->ch.rows[j]?=some r->Iv n r=true)∧Bw (zw w #[.slice S n c,zi ch.base,.slice R m d] 224) wr) (λi _=>m-(intOf i).toNat)
  case atStart=>exact⟨0,zs3 _,rfl,(λj s h=>by omega),zJ⟩
  case round=>
   obtain⟨k2,aq,rfl,a,G⟩:=hrel;have hW:=zT g.o G;by_cases t:k2<m
   ·obtain⟨b,a0,r,v,C,cm,cc,D,dl,dd,T,sn,sc,rfl,a9,I,g0,g1,g2,g3,g4,a1,a2,ar⟩:=(U.o.lies.2.on G).at_ t;have b9:=U.o.nm k2 r I;have Z:=zH I;have P:=zH (zu2 a1 a2);have X:=λW=>eP r.name W zO
    obtain⟨i1,i2⟩:=zI (k:=k2) (n:=m) (by omega);have X1:=(HX.o.below G).alloc (.cells #[.string r.name,.bool v,.slice C cm cc,.slice D dl dd,.slice T sn sc] 272);have Y1:=Blk.new wr 272 #[.string r.name,.bool v,.slice C cm cc,.slice D dl dd,.slice T sn sc];have K:=zH (Below.alo G (.cells #[.string r.name,.bool v,.slice C cm cc,.slice D dl dd,.slice T sn sc] 272));clear I a1 a2
    cases hnk:AD r.name.data.toList
    ·have f:=zH (GV y.o (MK Z.o (by rw[Iv,hnk];rfl)));simp only[hnk]at X;have X:=zH X;clear hnk
     go_wp2_with fail
     refine(X.o _).mono ?_;rintro e w1 ⟨rfl,L⟩
     go_wp2_with fail
     go_ret;exact⟨by rw[f.o];rfl,(zT g.o K.o).trans (L.mono (zs0 g.o.size K.o.size))⟩
    simp only[hnk]at X;have X:=zH X;have au:=zH hnk;clear hnk
    go_wp2_with fail
    refine(X.o _).mono ?_;rintro e w1 ⟨rfl,L⟩;have Y:=zH (zT K.o L);have X2:=X1.below L;have Y2:=Y1.below L;have x0:=X2.c (i:=0) rfl;have y4:=Y2.c (i:=4) rfl;have ag:Hid (r.steps.length=sn):=P.o.2.len;have HT:=zH ((P.o.2.on (zA (.cells #[.string r.name,.bool v,.slice C cm cc,.slice D dl dd,.slice T sn sc] 272))).on L);clear X1 Y1 L;by_cases ah:sn=n
    ·have av:((sn:Int) != (n:Int))=false:=by simp;omega
     obtain⟨b2,b1,q,b3,E,em,ec,F,fl,fd,rfl,b4,ai,z0,z1,z2,aj⟩:=HT.o.at_ (j:=0) zO;simp only[Nat.zero_mul,Nat.add_zero]at z0 z1 z2;have HQ:=zH (T4 _ _ k 1 q 0 w1 aj (BK.zero w1) U.o.one zO U.o.small zO);have ak:r.steps.getD 0 0=q:=by rw[zq3,ai];rfl
     have HG:=zH ak;have j1:0<sn:=zO;have j2:(0:Int)<(sn:Int):=zO;clear aj ai ak HT P
     go_wp2_with fail
     refine HQ.o.mono ?_;rintro e w2 ⟨cv,rfl,a3,B⟩;by_cases hz:cv=0
     ·subst hz
      have f:Hid (∀(j:Nat)(r:Dg),j<k2+1->ch.rows[j]?=some r->Iv n r=true):=λj r' hj M=>by
       by_cases e:j=k2
       ·subst e;rw[Z.o]at M;rw[<-zs6 M];exact MJ.2 ⟨au.o,by rw[ag.out];exact ah,by rw[HG.o];exact a3.1 rfl⟩
       exact a.out j r' zO M
      clear a3
      go_wp2_with fail
      go_roundw
      case rel=>exact⟨k2+1,by omega,by go_num,f,zT Y.o B⟩
      case measure=>exact zM
     have ba:(cv != 0)=true:=by simpa using hz
     have f:=zH (GV y.o (MK Z.o (by
      cases hq:Iv ch.sizes.length r
      ·rfl
      exact absurd ((MJ.1 hq).2.2) (by rw[HG.o];exact λe=>hz (a3.2 e)))))
     clear a3 hz
     go_wp2_with fail
     go_ret;exact⟨by rw[f.o];rfl,(zT g.o Y.o).trans (B.mono (zs0 g.o.size Y.o.size))⟩
    have av:((sn:Int) != (n:Int))=true:=by simp;omega
    have f:=zH (GV y.o (MK Z.o (by
     cases hq:Iv ch.sizes.length r
     ·rfl
     exact absurd ((MJ.1 hq).2.1) (by rw[ag.out,V.o.1];exact ah))))
    go_wp2_with fail
    go_ret;exact⟨by rw[f.o];rfl,zT g.o Y.o⟩
   obtain rfl:m=k2:=zO
   have a4:Hid (ch.right=true):=by
    refine Kg.2 ⟨by rw[V.o.1];omega,ap.o,λj r I=>?_⟩;rw[V.o.1];exact a.out j r (by have:=(zq1.1 I).1;rw[V.o.2]at this;exact this) I
   have K:=zH G;have a5:=zH (HX.o.below G);obtain⟨wo,rfl⟩:∃wo:World,wo=wr:=⟨_,rfl⟩;obtain⟨x0,x1,x2⟩:=Zb a5.o;clear a aq hW t
   go_wp2_with fail
   go_loop [69] (λi=>∃k:Nat,k<=n∧i=zi (k:Int)∧Hid (∀(j:Nat)(s:ByteArray),j<k->ch.sizes[j]?=some s->s∉ch.sizes.take j)) (λi=>n-(intOf i).toNat)
   case atStart=>exact⟨0,zs3 _,rfl,λj s h=>by omega⟩
   case round=>
    obtain⟨k3,hk,rfl,a⟩:=hrel;by_cases t:k3<n
    ·have l:=U.o.lies.1.on K.o;have aa:=(l.take (i:=k3) zO);rw[show(Hh ch.sizes).take k3=Hh (ch.sizes.take k3)from List.map_take.symm]at aa;obtain⟨b,a0,s,rfl,a9,H,ao⟩:=l.str_ t;have P:=zH H;have p:=aa.contains (c:=c) s zO;obtain⟨i1,i2⟩:=zI (k:=k3) (n:=n) (by omega);have i3:(k3:Int)<=(c:Int):=by have:=HC.o.1;omega
     have i4:k3<=c:=by have:=HC.o.1;omega
     clear H l aa
     cases hq:containsS (ch.sizes.take k3) s
     ·have f:Hid (∀(j:Nat)(s:ByteArray),j<k3+1->ch.sizes[j]?=some s->s∉ch.sizes.take j):=λj s' hj J=>by
       by_cases e:j=k3
       ·subst e;rw[P.o]at J;rw[<-zs6 J];intro hm;rw[(containsS_iff _ _).2 hm]at hq
        cases hq
       exact a.out j s' zO J
      rw[hq]at p;have p:=zH p;clear hq;go_wp2_with(go_at_call 163;go_must((refine p.o.mono ?_);rintro e w' ⟨rfl,rfl⟩))
      go_round
      case rel=>exact⟨k3+1,by omega,by go_num,f⟩
      case measure=>exact zM
     have f:=zH (Rw y.o a4.o (.inl (TA P.o ((containsS_iff _ _).1 hq))));rw[hq]at p;have p:=zH p;clear hq;go_wp2_with(go_at_call 163;go_must((refine p.o.mono ?_);rintro e w' ⟨rfl,rfl⟩))
     go_ret;exact⟨by rw[f.o];rfl,zT g.o K.o⟩
    obtain rfl:n=k3:=zO;have al:Hid (Di ch.sizes=true):=IL.2 λj s H=>a.out j s (by have:=(zq1.1 H).1;rw[V.o.1]at this;exact this) H
    clear a hk t
    go_wp2_with fail
    go_loopw[84] (λi wr=>∃k:Nat,k<=m∧i=zi (k:Int)∧Hid (∀(j:Nat)(r:Dg),j<k->ch.rows[j]?=some r->r.name∉ch.names.take j)∧Bw wo wr) (λi _=>m-(intOf i).toNat)
    case atStart=>exact⟨0,zs3 _,rfl,(λj s h=>by omega),zJ⟩
    case round=>
     obtain⟨k4,aw,rfl,a,N⟩:=hrel;have hW:=zT K.o N;by_cases t:k4<m
     ·have ab:=U.o.lies.2.on hW;have am:=λW (hb:Bw wr W) x=>oC R k4 d k (ch.rows.take k4) x W ((ab.take (i:=k4) zO).on hb) zO
      obtain⟨b,a0,r,v,C,cm,cc,D,dl,dd,T,sn,sc,rfl,a9,I,g0,g1,g2,g3,g4,a1,a2,ar⟩:=ab.at_ t;have Z:=zH I;have ax:=zH am;obtain⟨i1,i2⟩:=zI (k:=k4) (n:=m) (by omega);have i3:(k4:Int)<=(d:Int):=by have:=HC.o.2;omega
      have i4:k4<=d:=by have:=HC.o.2;omega
      have X1:=(a5.o.below N).alloc (.cells #[.string r.name,.bool v,.slice C cm cc,.slice D dl dd,.slice T sn sc] 272);have Y1:=Blk.new wr 272 #[.string r.name,.bool v,.slice C cm cc,.slice D dl dd,.slice T sn sc];have bb:=X1.c (i:=2) rfl;have bc:=Y1.c (i:=0) rfl;have bd:=(a5.o.below N).lt;have a6:=zH (Below.alo N (.cells #[.string r.name,.bool v,.slice C cm cc,.slice D dl dd,.slice T sn sc] 272));have ay:=zH X1;have az:=zH Y1;clear I a1 a2 ab am X1 Y1
      go_wp2_with fail
      go_region_held3(λw'=>w'.cell? (ad w.heap.size 2)=some (.slice (sa b a0) m d)∧w'.cell? (ad wr.heap.size 0)=some (.string r.name))
       (go_keep)
       ((go_at_call 164;go_must((refine(ax.o _ zB r.name).mono ?_);rintro e w2 ⟨z,rfl,hz,B⟩;have HZ:=zH hz;have a7:=zH (show Bw (zw wr #[.string r.name,.bool v,.slice C cm cc,.slice D dl dd,.slice T sn sc] 272) w2 from(zX B));have e2:=(ay.o.below a7.o).c (i:=2) rfl;have e0:=(az.o.below a7.o).c (i:=0) rfl;clear hz B)))
      rcases Int.lt_or_le z 0 with ac|ac
      ·have f:Hid (∀(j:Nat)(r:Dg),j<k4+1->ch.rows[j]?=some r->r.name∉ch.names.take j):=λj r' hj M=>by
        by_cases e:j=k4
        ·subst e;rw[Z.o]at M;rw[<-zs6 M];exact oD HZ.o ac
        exact a.out j r' zO M
       have be:¬0<=z:=zO
       go_wp2_with fail
       go_roundw
       case rel=>exact⟨k4+1,by omega,by go_num,f,zT a6.o a7.o⟩
       case measure=>exact zM
      have f:=zH (Rw y.o a4.o (.inr (TA (uC Z.o) (eU HZ.o ac))))
      go_wp2_with fail
      go_ret;exact⟨by rw[f.o];rfl,(zT g.o K.o).trans ((zT a6.o a7.o).mono (zs0 g.o.size K.o.size))⟩
     obtain rfl:m=k4:=zO
     have an:Hid (Di ch.names=true):=IL.2 λj x hx=>by
      simp only[Cb.names,zr5,Option.map_eq_some_iff]at hx;obtain⟨r,I,rfl⟩:=hx;exact a.out j r (by have:=(zq1.1 I).1;rw[V.o.2]at this;exact this) I
     have X5:=a5.o.below N;obtain⟨y0,y1,y2⟩:=Zb X5;have Q:=Wi S n c ch.base R m d ch.base wr;have ae:LC ch ch.base=(decide (0<=ch.base)&&decide (ch.base<(n:Int))):=by rw[LC,V.o.1]
     rw[<-ae]at Q;have a8:=zH (zT g.o hW);clear a aw t X5 ae
     cases hq:LC ch ch.base
     ·have f:=zH (mM y.o a4.o al.o an.o hq);rw[hq]at Q;have Q:=zH Q;clear hq;go_wp2_with(go_at_call 165;go_must((refine Q.o.mono ?_);rintro e w6 ⟨rfl,af⟩))
      go_ret;exact⟨by rw[f.o];rfl,zT a8.o af⟩
     have f:=zH (cS y.o a4.o al.o an.o hq);rw[hq]at Q;have Q:=zH Q;clear hq;go_wp2_with(go_at_call 165;go_must((refine Q.o.mono ?_);rintro e w6 ⟨rfl,af⟩))
     go_ret;exact⟨by rw[f.o];rfl,zT a8.o af⟩
section
variable{s:Al}{bs:List QM}{ws:List NG}
def sR(s:Al)(bs:List QM)(ws:List NG)(l:List NH):Prop:=∀(i:Nat)(x:NH),l[i]?=some x->mN s bs ws (l.take i) x=1
theorem sR.nil:sR s bs ws []:=λi x h=>by simp at h
end
structure Zh(e:As):Prop where
 nm:e.name.size<=9223372036854775807
 ln:e.line.length<=9223372036854775807
structure PK(p:Aw):Prop where
 nm:p.name.size<=9223372036854775807
 eds:p.edges.length<=9223372036854775807
 ed:∀e∈p.edges,Zh e
 cor:p.corners.length<=9223372036854775807
 wid:p.widths.length<=9223372036854775807
 not:p.notches.length<=9223372036854775807
structure OpS(o:POp):Prop where
 nm:o.name.size<=9223372036854775807
 aft:o.after.length<=9223372036854775807
 us:o.uses.length<=9223372036854775807
structure Dj(s:Al):Prop where
 nm:s.name.size<=9223372036854775807
 szs:s.sizes.length<=9223372036854775807
 sz:∀z∈s.sizes,z.size<=9223372036854775807
 mul:s.multiples.length<=9223372036854775807
 pcs:s.pieces.length<=9223372036854775807
 pc:∀p∈s.pieces,PK p
 us:s.uses.length<=9223372036854775807
 sm:s.seams.length<=9223372036854775807
 ops:s.ops.length<=9223372036854775807
 op:∀o∈s.ops,OpS o
abbrev EH:=As×Option Addr×Nat×Nat
def eC(t:EH):List Value:=[.string t.1.name,.slice t.2.1 t.2.2.1 t.2.2.2]
theorem fG(t:EH):(eC t).length=2:=rfl
theorem xZ(t:EH):∀u∈eC t,u.oneCell'=true:=λu a=>by
 simp only[eC,zr3,List.not_mem_nil,or_false]at a;rcases a with rfl|rfl <;> rfl
theorem fH:(prog.info? 71).map (λi=>(i.zero,i.size,i.bytes))=some (some (.agg #[.string ByteArray.empty,zn]),2,40):=zk
theorem Blk.grown{r:Option Nat}(h:Blk w g t cs)(b:w.grownBy w' r)(a:some g≠r):Blk w' g t cs:=(b.block g h.lt a).trans h
theorem RN{ops:Array Oper}{K:Act->World->Prop}{Q:Exit->Act->World->Prop}(i:o.guard=none)(s x:Operand)
  (k:o.op=Op.call { callee:=Callee.builtin Builtin.append,args:=#[s,x],argTypes:=#[62,62] })
  (b n:Nat) (v:Value) (l:lV) (m:a.eval s=v) (f:w.ownsRow b 71 2 v n l)
  (g:Nat) (p:a.eval x=.slice (sa g 0) 1 1) (t:EH)  (q:Blk w g ty (eC t).toArray) (y:n<=100000000) (e:b<=w.heap.size)
  (h:∀v' w',w'.ownsRow b 71 2 v' (n+1) (l++eC t)->w.grownBy w' v.ownBlock->(v'.ownBlock=v.ownBlock∨v'.ownBlock=some w.heap.size)->K (a.put o.dst v') w') :
  if Region.wanted o (yielded ops a.tmps)=true then Oper.wp prog o a w K Q else E:=
 GH (P:=prog) i s x 62 k b 71 _ 2 40 underlying62 fH rfl zD v n l m f ⟨g,0,none⟩ 1 1 (eC t) p rfl
  (λj u r=>by rw[Go.WideShapes.add_plain];exact q.c (by simpa using r)) (xZ t) zU zO e h
def PM(t:EH)(w:World):Prop:=Ab 2 Ad w t.2.1 t.2.2.1 t.1.line∧t.2.2.1<=t.2.2.2
def Gw(B:Nat)(es:List As)(j:Nat)(v:Value)(w:World):Prop:=∃ts:List EH,ts.map (λt=>t.1)=es.take j∧w.ownsRow B 71 2 v j (ts.flatMap eC)∧∀t∈ts,D9 w v.ownBlock (PM t)
theorem Gw.start(B:Nat)(es:List As)(w:World):Gw B es 0 (zn) w:=⟨[],rfl,World.ownsRow_nil _ _ _ _,λt h=>by cases h⟩
theorem Gw.below(h:Gw B es j v w)(a:Bw w w'):Gw B es j v w':=by
 obtain⟨ts,b,e,f⟩:=h;exact⟨ts,b,Ah e a,λt g=>(f t g).below a⟩
theorem Gw.more{ts:List EH}(l:es[j]?=some x)(i:ts.map (λt=>t.1)=es.take j)(m:∀t∈ts,D9 w v.ownBlock (PM t))
  (p:Ab 2 Ad w (sa g 0) n x.line) (q:v.ownBlock≠some g) (r:w'.ownsRow B 71 2 v' (j+1) (ts.flatMap eC++eC (x,some ⟨g,0,none⟩,n,n))) (f:w.grownBy w' v.ownBlock) (s:v'.ownBlock=v.ownBlock∨v'.ownBlock=some w.heap.size):Gw B es (j+1) v' w':=by
 have k:v'.ownBlock=v.ownBlock∨∀g,v'.ownBlock=some g->w.heap.size<=g:=by
  rcases s with h|h
  ·exact .inl h
  exact .inr λg e=>by rw[h]at e;injection e with e;omega
 refine⟨ts++[(x,some ⟨g,0,none⟩,n,n)],?_,?_,λt a=>?_⟩
 ·rw[zr0,i,List.take_add_one,l];rfl
 ·rw[zr7];simpa using r
 rcases zr1.1 a with a|a
 ·exact(m t a).next f k
 obtain rfl:t=(x,some ⟨g,0,none⟩,n,n):=by simpa using a
 refine D9.next (λw1 i=>⟨(D9.recs T1 p (λb o e=>?_)) w1 i,zs2 _⟩) f k;injection e with e
 injection e with e1 e2
 rw[<-e1];exact q
theorem Gw.done(h:Gw B es n v w)(j:es.length=n):∃A c,v=.slice A n c∧Ab 2 CQ w A n es∧n<=c:=by
 obtain⟨ts,a,k,b⟩:=h;rw[zq4 zO]at a;have l:ts.length=n:=by rw[<-j,<-a,zq6]
 obtain⟨A,c,e,f,m⟩:=CJ (G:=CQ) (g:=λt:EH=>t.1) fG k l (λt i=>⟨t.2.1,t.2.2.1,t.2.2.2,rfl,((b t i).out).1,((b t i).out).2⟩);rw[a]at f;exact⟨A,c,e,f,m⟩
def Aak(p:Aw)(w:World)(e:Ending)(w':World):Prop:=∃A n c,e=.returned (.tuple #[.slice A n c,zi (AB p)])∧(AB p=0->Ab 2 CQ w' A n p.edges∧n<=c)∧Bw w w'
theorem OT(s:Pt):DF s = !((decide (-1000<=s.1)&&decide (s.1<=1000))&&(decide (-1000<=s.2)&&decide (s.2<=1000))):=by
 unfold DF
 cases decide (-1000<=s.1) <;> cases decide (s.1<=1000) <;> rfl
theorem AS{a0 a1 a2 a3 a4 a5 a6:Value}(h:Blk w g t #[a0,a1,a2,a3,a4,a5,a6]):zL w g 0 a0∧zL w g 1 a1∧zL w g 2 a2∧zL w g 3 a3∧zL w g 4 a4∧zL w g 5 a5∧zL w g 6 a6:=
 ⟨h.c rfl,h.c rfl,h.c rfl,h.c rfl,h.c rfl,h.c rfl,h.c rfl⟩
structure PcA(w:World)(p:Aw)(E:oA)(en ec:Nat)(N:oA)(nn nc:Nat)(C:oA)(cn cc:Nat)(D:oA)(dn dc:Nat):Prop where
 eds:Ab 2 CQ w E en p.edges
 ecap:en<=ec
 nots:Ab 2 Ad w N nn p.notches
 ncap:nn<=nc
 cors:Ab 2 Ad w C cn p.corners
 ccap:cn<=cc
 wids:Sl w w.heap.size D dn (Ar p.widths)
 dcap:dn<=dc
 small:PK p
theorem PcA.on{E:oA}(h:PcA w p E en ec N nn nc C cn cc D dn dc)(a:Bw w w'):PcA w' p E en ec N nn nc C cn cc D dn dc:=
 ⟨h.eds.on Bq a,h.ecap,h.nots.on Aa a,h.ncap,h.cors.on Aa a,h.ccap,h.wids.on a,h.dcap,h.small⟩
theorem PcA.edges{E:oA}(h:PcA w p E en ec N nn nc C cn cc D dn dc):IT p.edges:=⟨h.small.eds,λe a=>⟨(h.small.ed e a).nm,(h.small.ed e a).ln⟩⟩
theorem J0(w:World)(o:Obj):w.heap.size<=(w.alloc o).heap.size:=by simp
theorem PN(p:Aw)(E:oA)(en ec:Nat)(N:oA)(nn nc:Nat)(C:oA)(cn cc:Nat)(D:oA)(dn dc:Nat)(w:World)(h:PcA w p E en ec N nn nc C cn cc D dn dc) :
  CP 83 #[.agg #[.string p.name,.slice E en ec,zi p.grain,.slice N nn nc,.slice C cn cc,.slice D dn dc,.bool p.match_],zi 0] w (Aak p w):=by
 have F:=zH h;have G:=zH (zu2 h.eds.len h.cors.len);have e1:en<=9223372036854775807:=by rw[<-h.eds.len];exact h.small.eds
 have e2:cn<=9223372036854775807:=by rw[<-h.cors.len];exact h.small.cor
 have a5:=zH (λW=>F4 0 100 W zO zO)
 have O:Hid (Bw w (zw w #[.string p.name,.slice E en ec,zi p.grain,.slice N nn nc,.slice C cn cc,.slice D dn dc,.bool p.match_] 66)):=zA _;have HX:=zH (Blk.new w 66 #[.string p.name,.slice E en ec,zi p.grain,.slice N nn nc,.slice C cn cc,.slice D dn dc,.bool p.match_]);clear h;by_cases P:cn=en
 ·have Q:Hid (p.corners.length=p.edges.length):=by rw[Hid,G.o.1,G.o.2];exact P
  subst P;go_enter func83,ntmps83;go_wp2_with(go_at_call 120;refine(a5.o _).mono ?_;rintro e w1 ⟨rfl,rfl⟩)
  go_loopw[7,27] (λ_ i wr=>∃k:Nat,k<=cn∧i=zi (k:Int)∧Hid (∀(j:Nat)(s:Pt),j<k->p.corners[j]?=some s->DF s=false)∧Bw (zw w #[.string p.name,.slice E cn ec,zi p.grain,.slice N nn nc,.slice C cn cc,.slice D dn dc,.bool p.match_] 66) wr) (λ_ i _=>cn-(intOf i).toNat)
  case atStart=>exact⟨0,zs3 _,rfl,(λj s hj=>by omega),zJ⟩
  case round=>
   obtain⟨k,hk,rfl,H,a⟩:=hrel;have n:=zH (zT O.o a);have a6:=zH a;by_cases R:k<cn
   ·obtain⟨b,ab,s,rfl,ac,S,c0,c1⟩:=Ap (F.o.cors.on Aa n.o) R;have HS:=zH S;have T:=zH (CW s wr);have U:=zH (OT s);have V:=zH (λW=>F4 s.1 1000 W zO zO)
    have X:=zH (λW=>F4 s.2 1000 W zO zO)
    obtain⟨i1,i2⟩:=zI (k:=k) (n:=cn) (by omega);generalize(decide (-1000<=s.1)&&decide (s.1<=1000))=b1 at *
    generalize(decide (-1000<=s.2)&&decide (s.2<=1000))=b2 at *
    clear S a
    cases b1
    ·have m:Hid (AB p=3):=Hp Q.o HS.o (by rw[U.o];rfl);go_wp2_with(go_at_call 120;(first|(with_reducible refine(V.o _).mono ?_)|(with_reducible refine(X.o _).mono ?_));rintro e w1 ⟨rfl,rfl⟩)
     go_ret2
     exact⟨none,0,0,by rw[m.o];rfl,(λh=>by rw[m.o]at h;cases h),zT n.o T.o⟩
    cases b2
    ·have m:Hid (AB p=3):=Hp Q.o HS.o (by rw[U.o];rfl);go_wp2_with(go_at_call 120;(first|(with_reducible refine(V.o _).mono ?_)|(with_reducible refine(X.o _).mono ?_));rintro e w1 ⟨rfl,rfl⟩)
     go_ret2
     exact⟨none,0,0,by rw[m.o];rfl,(λh=>by rw[m.o]at h;cases h),zT n.o T.o⟩
    have m:Hid (∀(j:Nat)(s:Pt),j<k+1->p.corners[j]?=some s->DF s=false):=λj s' hj Y=>by
     by_cases e:j=k
     ·subst e;rw[HS.o]at Y;rw[<-zs6 Y,U.o];rfl
     exact H.o j s' zO Y
    go_wp2_with(go_at_call 120;(first|(with_reducible refine(V.o _).mono ?_)|(with_reducible refine(X.o _).mono ?_));rintro e w1 ⟨rfl,rfl⟩)
    go_roundw
    case rel=>exact⟨k+1,by omega,by go_num,m,zT a6.o T.o⟩
    case measure=>exact zM
   obtain rfl:cn=k:=zO;have HG:Hid (AB p=Aq p.edges):=Of Q.o λj s S=>H.o j s (by have:=(zq1.1 S).1;rw[G.o.2]at this;exact this) S
   have z:=Gm E cn ec p.edges wr (F.o.eds.on Bq n.o) F.o.ecap F.o.edges;obtain⟨Z,hZ⟩:=zG (Aq p.edges);rw[hZ]at z;have z:=zH z;have HZ:=zH hZ;obtain⟨x0,x1,x2,x3,x4,x5,x6⟩:=AS (HX.o.below a);have ae:=zH (HX.o.below a);clear H a hZ;by_cases h0:Z=0
   ·subst h0;obtain⟨z1,z2,z3⟩:=Ej HZ.o;rw[G.o.1]at z1 z2;have af:=zH z3;clear z3;go_wp2_with(go_at_call 121;refine z.o.mono ?_;rintro e w1 ⟨rfl,q⟩;have I:=zH (zT n.o q);obtain⟨x0,x1,x2,x3,x4,x5,x6⟩:=AS (ae.o.below q);clear q)
    have ag:Hid (AB p=0):=by rw[Hid,HG.o,HZ.o]
    go_loopw[10,11,12,56] (λv _ _ i wr=>∃k:Nat,k<=cn∧i=zi (k:Int)∧Gw w1.heap.size p.edges k v wr∧Bw w1 wr) (λ_ _ _ i _=>cn-(intOf i).toNat)
    case atStart=>exact⟨0,zs3 _,rfl,Gw.start _ _ _,zJ⟩
    case round=>
     obtain⟨k,hk,rfl,r,a⟩:=hrel;have J:=zH (zT I.o a);have a0:=zH a;by_cases R:k<cn
     ·obtain⟨b,ab,x,B,ln,lc,rfl,ac,hx,c0,c1,y,av⟩:=EO (F.o.eds.on Bq J.o) R;obtain⟨q1,q2,q3,q4⟩:=CB (af.o k x hx);rw[y.len]at q1 q2;have ah:=zH hx;have l:Bw wr (zw wr #[.string x.name,.slice B ln lc] 71):=zA _;have a7:=zH l;have a1:=zH (Blk.new wr 71 #[.string x.name,.slice B ln lc]);have a2:=F.o.cors.on Aa J.o;have ai:=zH (λW (hb:Bw (zw wr #[.string x.name,.slice B ln lc] 71) W)=>Oe C cn cc k p.corners W (a2.on Aa (zT l hb)) zO zO zO);have K:=λW (hb:Bw (zw wr #[.string x.name,.slice B ln lc] 71) W)=>Oe C cn cc (k+1) p.corners W (a2.on Aa (zT l hb)) zO zO zO
      rw[show((k+1:Nat):Int)=(k:Int)+1 by omega]at K;have K:=zH K;have HM:=zH (λW (hb:Bw (zw wr #[.string x.name,.slice B ln lc] 71) W)=>Y8 B ln lc x.line W (y.on Aa (zT l hb)) q2 zO q3);obtain⟨ts,t1,t2,t3⟩:=r.below l;have HT:=zH (zu2 t1 (zu2 t2 t3))
      have aj:Hid (some wr.heap.size≠u10.ownBlock):=λe=>by
       obtain⟨ts',t1',t2',t3'⟩:=r;have:=(t2'.lt _ e.symm).2;omega
      have a8:Hid (∀g,u10.ownBlock=some g->g<wr.heap.size∧w1.heap.size<=g):=λg e=>by
       obtain⟨ts',t1',t2',t3'⟩:=r;exact⟨(t2'.lt _ e).2,(t2'.lt _ e).1⟩
      have ak:=a.size;have b3:k<=100000000:=zO;obtain⟨i1,i2⟩:=zI (k:=k) (n:=cn) (by omega);have i4:IntKind.i64.wrap ((k:Int)+1)=(k:Int)+1:=zs5 _ zO;have eg:=enters_of func122 zk rfl;have f:=Below.refl (zw wr #[.string x.name,.slice B ln lc] 71).heap.size (zw wr #[.string x.name,.slice B ln lc] 71);clear hx y l a2 t1 t2 t3 r a q3 q4 x0 x1 x2 x3 x4 x5 x6
      go_wp2_with fail
      go_region_held3(λw'=>w'.cell? (ad wr.heap.size 0)=some (.string x.name)∧w'.cell? (ad wr.heap.size 1)=some (.slice B ln lc))
       ((first|(exact⟨a9.o.c (i:=0) rfl,a9.o.c (i:=1) rfl⟩)|(exact⟨(a1.o.below zB).c (i:=0) rfl,(a1.o.below zB).c (i:=1) rfl⟩)))
       (first
        | (go_at_call 122;go_must((first|(with_reducible refine(ai.o _ zB).mono ?_)|(with_reducible refine(K.o _ zB).mono ?_));rintro e u1 ⟨rfl,hv⟩;replace f:=Ag f hv;clear hv))
        | (go_at_call 123;go_must((refine(HM.o _ zB).mono ?_);rintro e w4 ⟨g,rfl,aa,M,hv⟩;have al:=zH (zs0 f.size aa);have am:=zH M;replace f:=Ag f hv;clear aa M hv))
        | ((refine RN (by rfl) _ _ (by rfl) w1.heap.size k _ _ (by rfl) (Ah HT.o.2.1 (by exact Below.alo f _)) w4.heap.size (by rfl) (x,some ⟨g,0,none⟩,ln,ln) (by exact Blk.new _ _ _) b3 (by exact zs0 ak (zs0 a7.o.size (zs0 f.size (J0 _ _)))) ?_);intro v5 w5 an a3 ao;have a9:=zH (((a1.o.below f).alloc _).grown a3 aj.o)))
      all_goals
       go_wp2_with fail
       go_roundw
       case rel=>
        refine⟨k+1,by omega,by go_num,Gw.more (g:=g) ah.o HT.o.1 (λt ht=>(HT.o.2.2 t ht).below (Below.alo f _)) (am.o.on Aa (zA _)) (λe=>by have:=(a8.o _ e).1;have:=al.o;simp at this;omega) an a3 ao,?_⟩;exact Ax (a0.o.trans (Ag a7.o (Below.alo f _) |>.mono a0.o.size)) a3 (by have:=f.size;simp at this⊢;omega) (λg e=>(a8.o g e).2)
       case measure=>exact zM
     obtain rfl:cn=k:=zO;obtain⟨A,c,rfl,M,hc⟩:=r.done G.o.1;have HR:=zH (zu2 M hc);have L:=Gm A cn c p.edges wr M hc F.o.edges;rw[HZ.o]at L;have L:=zH L;clear M hc r a x0 x1 x2 x3 x4 x5 x6;go_wp2_with(go_at_call 121;refine L.o.mono ?_;rintro e w5 ⟨rfl,a4⟩;have ap:=zH (zT J.o a4);have aq:=zH (HR.o.1.on Bq a4);clear a4)
     go_ret2
     exact⟨A,cn,c,by rw[ag.o];rfl,λ_=>⟨aq.o,HR.o.2⟩,ap.o⟩
   have aw:(Z != 0)=true:=by simpa using h0
   have m:Hid (AB p=Z):=by rw[Hid,HG.o,HZ.o]
   have ar:=zH h0;clear h0;go_wp2_with(go_at_call 121;refine z.o.mono ?_;rintro e w1 ⟨rfl,q⟩;have I:=zH (zT n.o q);clear q)
   go_ret2
   exact⟨none,0,0,by rw[m.o];rfl,(λh=>absurd (m.o.symm.trans h) ar.o),I.o⟩
 have m:Hid (AB p=1):=PE (by rw[G.o.1,G.o.2];exact P);have au:((cn:Int) != (en:Int))=true:=by simp;omega
 go_enter func83,ntmps83;go_wp2_with(go_at_call 120;refine(a5.o _).mono ?_;rintro e w1 ⟨rfl,rfl⟩)
 go_ret2
 exact⟨none,0,0,by rw[m.o];rfl,(λh=>by rw[m.o]at h;cases h),O.o⟩
theorem OV(v u:Value)(j k:Nat)(p q:Rat)(w:World)(E:BK w v j p)(z:BK w u k q)(N:1<=j)(C:1<=k)(F:j<=100000)(r:k<=100000) :
  CP 226 #[v,u] w (KL (p-q) w):=by
 have G:=zH (zu2 E z);have H:=eN (z.qk C);obtain⟨f,A,n,c,B,m,d,x,y,rfl,-⟩:=E;obtain⟨b,A2,n2,c2,B2,m2,d2,x2,y2,rfl,-⟩:=z;have I:Bw w (zw (zw (zw w #[.bool f,.slice A n c,.slice B m d] 217) #[.bool b,.slice A2 n2 c2,.slice B2 m2 d2] 217) #[zF,zn,zn] 217):=((zA _).alloc zP _).alloc zQ _;have X0:Blk (zw (zw (zw w #[.bool f,.slice A n c,.slice B m d] 217) #[.bool b,.slice A2 n2 c2,.slice B2 m2 d2] 217) #[zF,zn,zn] 217) w.heap.size 217 #[.bool f,.slice A n c,.slice B m d]:=((Blk.new w _ _).alloc _).alloc _;have Y0:Blk (zw (zw (zw w #[.bool f,.slice A n c,.slice B m d] 217) #[.bool b,.slice A2 n2 c2,.slice B2 m2 d2] 217) #[zF,zn,zn] 217) (w.heap.size+1) 217 #[.bool b,.slice A2 n2 c2,.slice B2 m2 d2]:=(Blk.new' (zw w #[.bool f,.slice A n c,.slice B m d] 217) 217 #[.bool b,.slice A2 n2 c2,.slice B2 m2 d2] zP).alloc _;have R0:Blk (zw (zw (zw w #[.bool f,.slice A n c,.slice B m d] 217) #[.bool b,.slice A2 n2 c2,.slice B2 m2 d2] 217) #[zF,zn,zn] 217) (w.heap.size+1+1) 217 #[zF,zn,zn]:=Blk.new' (zw (zw w #[.bool f,.slice A n c,.slice B m d] 217) #[.bool b,.slice A2 n2 c2,.slice B2 m2 d2] 217) 217 #[zF,zn,zn] zP;have J:=zH X0;have K:=zH Y0;have O:=zH R0;have D:=zH I;clear X0 Y0 R0 I;have ne0:¬w.heap.size+1+1=w.heap.size:=zO;have ne1:¬w.heap.size=w.heap.size+1+1:=zO;have ne2:¬w.heap.size+1+1=w.heap.size+1:=zO
 have ne3:¬w.heap.size+1=w.heap.size+1+1:=zO;obtain⟨s0,s1,s2,s3,s4,s5⟩:=six J.o K.o;go_enter func226,ntmps226
 go_upto_region 1 with fail
 go_region_held3(λw'=>w'.cell? (ad w.heap.size 0)=some (.bool f)∧w'.cell? (ad w.heap.size 1)=some (.slice A n c)∧w'.cell? (ad w.heap.size 2)=some (.slice B m d)∧w'.cell? (ad (w.heap.size+1) 0)=some (.bool b)∧w'.cell? (ad (w.heap.size+1) 1)=some (.slice A2 n2 c2)∧w'.cell? (ad (w.heap.size+1) 2)=some (.slice B2 m2 d2))
  (go_keep)
  (first
  | (go_at_call 271;go_must((refine(nY _ k q _ (by exact G.o.2.on D.o.drew) C r).mono ?_);rintro e w3 ⟨A3,n3,c3,B3,m3,d3,rfl,r1,r2,r3,r4,a⟩;have l:=zH (D.o.trans (Below.mono (w':=w3) (zX a) D.o.size));have s:=zH (J.o.below (w':=w3) (zX a));have t:=zH (K.o.below (w':=w3) (zX a));have L:=zH (O.o.below (w':=w3) (zX a));have Q:=six s.o t.o;have M:=zH (BK.of r1 r2 r3 r4 H);clear r1 r3 a))
  | (go_at_call 270;go_must((refine(OU _ _ j k p (-q) _ (G.o.1.on l.o) M.o N C F r).mono ?_);rintro e w4 ⟨A4,n4,c4,B4,m4,d4,rfl,r5,r6,r7,r8,g⟩;have X4:=s.o.below g;have Y4:=t.o.below g;have Z4:=L.o.below g;have P:=zH (NN r5 r6 r7 r8 Z4 zP (zT l.o g) zO);have R:=six X4 Y4;have k0:=Z4.c (i:=0) rfl;have k1:=Z4.c (i:=1) rfl;have k2:=Z4.c (i:=2) rfl;have y0:=Z4.frozen 0;have y1:=Z4.frozen 1;have y2:=Z4.frozen 2;clear r5 r7 X4 Y4 Z4 g)))
 go_wp2_with fail
 rw[Rat.sub_eq_add_neg];refine bodyPost_ret (v:=.agg #[.bool (Ay (p + -q).num),.slice A4 n4 c4,.slice B4 m4 d4]) (by simp[results,results226,go_sem,k0,k1,k2]) rfl ?_;exact P.o
theorem JF(h:m<18446744073709551616):nl m<=2:=Pr (by unfold bs;omega)
theorem XS(x:Int)(w:World)(B:x.natAbs<4611686018427387904) :
  CP 286 #[zi x] w (JR x w):=by
 have t:Bw w (zw w #[zF,zn] 215):=zA _;have Y0:Blk (zw w #[zF,zn] 215) w.heap.size 215 #[zF,zn]:=Blk.new _ _ _;obtain⟨m,C⟩:=zG x.natAbs;have y:=JF (m:=m) zO;have j:=zH (zu2 t Y0);clear t Y0;by_cases D:x<0
 ·obtain rfl:x = -(m:Int):=zO;have e1:sgn true m = -(m:Int):=by unfold sgn;simp
  have e2:IntKind.u64.wrap (-IntKind.u64.wrap (-(m:Int)))=(m:Int):=by rw[IntKind.wrap_u64,IntKind.wrap_u64];omega
  have f:=λW A n c (h:At W A n c m) (q:n<=1000000)=>Ek true A n c m W h q
  rw[e1]at f;have f:=zH f;go_enter func286,ntmps286
  go_wp2_with(first
   | (go_at_call 255;go_must((try rw[e2]);(refine(Pk m _ zO).mono ?_);rintro e w1 ⟨A1,n1,c1,rfl,g,k,a⟩;have Y1:=j.o.2.below a;have B1:=j.o.1.trans (a.mono j.o.1.size);have z:n1<=2:=(by rw[<-g.ulen];exact y);have r:=zH g;clear g a))
   | (go_at_call 258;go_must((refine(f.o _ A1 n1 c1 (.of_limbs r.o k) zO).mono ?_);rintro e w2 ⟨A2,n2,c2,rfl,l,p,b⟩;have Y2:=Y1.below b;have s:=zH (FZ (i:=-(m:Int)) l p (NoU.blk Y2 zP) B1 b (zs2 _));have k0:=Y2.c (i:=0) rfl;have k1:=Y2.c (i:=1) rfl;have f0:=Y2.frozen 0;have f1:=Y2.frozen 1;clear l b)))
  refine bodyPost_ret (v:=.agg #[.bool (Ay (-(m:Int))),.slice A2 n2 c2]) (by simp[results,results286,go_sem,k0,k1]) rfl ?_;exact s.o
 obtain rfl:x=(m:Int):=zO;have e1:sgn false m=(m:Int):=by unfold sgn;simp
 have e2:IntKind.u64.wrap (m:Int)=(m:Int):=by rw[IntKind.wrap_u64];omega
 have f:=λW A n c (h:At W A n c m) (q:n<=1000000)=>Ek false A n c m W h q
 rw[e1]at f;have f:=zH f;go_enter func286,ntmps286
 go_wp2_with(first
  | (go_at_call 255;go_must((try rw[e2]);(refine(Pk m _ zO).mono ?_);rintro e w1 ⟨A1,n1,c1,rfl,g,k,a⟩;have Y1:=j.o.2.below a;have B1:=j.o.1.trans (a.mono j.o.1.size);have z:n1<=2:=(by rw[<-g.ulen];exact y);have r:=zH g;clear g a))
  | (go_at_call 258;go_must((refine(f.o _ A1 n1 c1 (.of_limbs r.o k) zO).mono ?_);rintro e w2 ⟨A2,n2,c2,rfl,l,p,b⟩;have Y2:=Y1.below b;have s:=zH (FZ (i:=(m:Int)) l p (NoU.blk Y2 zP) B1 b (zs2 _));have k0:=Y2.c (i:=0) rfl;have k1:=Y2.c (i:=1) rfl;have f0:=Y2.frozen 0;have f1:=Y2.frozen 1;clear l b)))
 refine bodyPost_ret (v:=.agg #[.bool (Ay (m:Int)),.slice A2 n2 c2]) (by simp[results,results286,go_sem,k0,k1]) rfl ?_;exact s.o
def Dh(w:World)(v:Value)(q:Rat):Prop:=
 ∃A n c B m d,v=.agg #[.bool (Ay q.num),.slice A n c,.slice B m d]∧Sl w w.heap.size A n (AC (Aj q.num.natAbs))∧n<=c∧Sl w w.heap.size B m (AC (Aj q.den))∧m<=d
theorem Dh.on(h:Dh w v q)(a:Bw w w'):Dh w' v q:=by
 obtain⟨A,n,c,B,m,d,e,b,f,g,i⟩:=h;exact⟨A,n,c,B,m,d,e,b.on a,f,g.on a,i⟩
theorem Dh.no(h:Dh w v q)(a:NoU w r)(k:Nat)(u:Value):Dh (w.setCell (ad r k) u) v q:=by
 obtain⟨A,n,c,B,m,d,e,b,f,g,i⟩:=h;exact⟨A,n,c,B,m,d,e,b.no a k u,f,g.no a k u,i⟩
theorem Dh.A(h:Dh w v q)(a:Go.Proofs.YteafekbddckemaaGreatDoor.qk q k):BK w v k q:=by
 obtain⟨A,n,c,B,m,d,rfl,b,e,f,g⟩:=h;exact .of b e f g a
def Z6(q:Rat)(w:World)(e:Ending)(w':World):Prop:=∃v,e=.returned (.tuple #[v,zY])∧Dh w' v q∧Bw w w'
theorem U3{c:Nat}{A B:oA}(e:Sl w4 w4.heap.size A n (AC (Aj q.num.natAbs)))(f:n<=c)(g:Sl w4 w4.heap.size B m (AC (Aj q.den)))(hd:m<=d)(b:Blk w4 r t cs)(a:∀v∈cs.toList,∀x,v≠.int .u32 x)(i:Bw w w4)(j:w.heap.size<=r) :
  Z6 q w (.returned (.tuple #[.agg #[.bool (Ay q.num),.slice A n c,.slice B m d],zY])) (((w4.setCell (ad r 0) (.bool (Ay q.num))).setCell (ad r 1) (.slice A n c)).setCell (ad r 2) (.slice B m d)):=
 ⟨_,rfl,⟨A,n,c,B,m,d,rfl,e.no3 (NoU.blk b a) _,f,g.no3 (NoU.blk b a) _,hd⟩,Fi i j _ _ _⟩
theorem yM(x:Int):rv x 1=(x:Rat):=by
 have h:=FV (x:Rat);exact h
theorem XT(x:Int)(w:World)(z:x.natAbs<4611686018427387904) :
  CP 267 #[zi x,zi 1] w (Z6 (x:Rat) w):=by
 have C:=zH (λW=>XS x W z);have r:Bw w (zw w #[zF,zn,zn] 217):=zA _;have Y0:Blk (zw w #[zF,zn,zn] 217) w.heap.size 217 #[zF,zn,zn]:=Blk.new _ _ _;have k:=zH (zu2 r Y0);have j:=λW A n c B m d (h:At W A n c x.natAbs) (g:At W B m d 1) (D:n<=1000000) (E:m<=1000000)=>Hk (Ay x) A n c x.natAbs B m d 1 W h g D E zD
 rw[CV,yM]at j;have j:=zH j;have F:=zH (show(!Ay x == Ay 1)=Ay x by rw[show Ay 1=false from rfl];cases Ay x <;> rfl)
 have G:=JF (m:=x.natAbs) zO;have B3:∀(W:World){o p:Obj},Bw W ((W.alloc o).alloc p):=λW _ _=>(zA _).alloc zP _
 clear r Y0;go_enter func267,ntmps267
 go_wp2_with(first
   | (go_at_call_of 286 (zi x);go_must((refine(C.o _).mono ?_);rintro e w1 ⟨A1,n1,c1,rfl,l,s,b⟩;have Y1:=k.o.2.below b;have B1:=k.o.1.trans (b.mono k.o.1.size);have K:n1<=2:=(by rw[<-l.ulen];exact G);have H:=zH l;clear l b))
   | (go_at_call 286;go_must((refine(XS 1 _ zD).mono ?_);rintro e w2 ⟨A2,n2,c2,rfl,q,t,a⟩;have Y2:=Y1.below a;have y:=zH (H.o.on a);have B2:=zT B1 a;have L:n2<=2:=(by rw[<-q.ulen];exact JF zD);have I:=zH q;clear q a))
   | (go_at_call 263;go_must((rw[F.o];refine(j.o _ A1 n1 c1 A2 n2 c2 (.of_limbs (y.o.on (B3 w2)) s) (.of_limbs (I.o.on (B3 w2)) t) zO zO).mono ?_);rintro e w4 ⟨A4,n4,c4,A5,n5,c5,rfl,r1,r2,r3,r4,f⟩;have Y4:=((Y2.alloc (.cells #[.bool (Ay x),.slice A1 n1 c1] 215)).alloc (.cells #[.bool (Ay 1),.slice A2 n2 c2] 215)).below f;have B4:=(B2.trans ((B3 w2).mono B2.size)).trans (f.mono (zs0 B2.size (B3 w2).size));have J:=zH (U3 r1 r2 r3 r4 Y4 zP B4 (zs2 _));have k0:=Y4.c (i:=0) rfl;have k1:=Y4.c (i:=1) rfl;have k2:=Y4.c (i:=2) rfl;have f0:=Y4.frozen 0;have f1:=Y4.frozen 1;have f2:=Y4.frozen 2;clear r1 r3 f Y4 B4)))
 refine bodyPost_ret (v:=.tuple #[.agg #[.bool (Ay (x:Rat).num),.slice A4 n4 c4,.slice A5 n5 c5],zY]) (by simp[results,results267,go_sem,k0,k1,k2]) rfl ?_;exact J.o
theorem iR{a b:Nat}(e:0<g)(i:b≠0)(f:g∣a)(hd:g∣b):(2*(a/g)+b/g)/(2*(b/g))=(a+a+b)/(b+b):=by
 obtain⟨u,rfl⟩:=f;obtain⟨v,rfl⟩:=hd;rw[Nat.mul_div_cancel_left _ e,Nat.mul_div_cancel_left _ e,show g*u+g*u+g*v=g*(2*u+v)by rw[Nat.mul_add,Nat.two_mul,Nat.mul_add],show g*v+g*v=g*(2*v)by rw[Nat.two_mul,Nat.mul_add],Nat.mul_div_mul_left _ _ e]
theorem iS(b:Bool)(x y:Nat)(g:y≠0):BH (rv (sgn b x) y)=sgn b ((x+x+y)/(y+y)):=by
 obtain⟨r1,r2⟩:=Tx (i:=sgn b x) (d:=y) g;have r3:=cP (i:=sgn b x) (d:=y) g;have k:=OI (a:=x) g;rw[B7]at r1 r2 r3;rw[TU]at r3;have l:=iR (a:=x) k g (Nat.gcd_dvd_left _ _) (Nat.gcd_dvd_right _ _);unfold BH;rw[r1,r2,l]
 have j:Ay (rv (sgn b x) y).num=(b&&decide (0<x)):=by
  rw[r3,GA];congr 1;rw[decide_eq_decide];have hd:=Nat.div_mul_cancel (Nat.gcd_dvd_left x y);constructor
  ·intro h;rcases Nat.eq_zero_or_pos x with e|e
   ·rw[e,Nat.zero_div]at h;omega
   exact e
  intro h;rcases Nat.eq_zero_or_pos (x/x.gcd y)with e|e
  ·rw[e]at hd;omega
  exact e
 have f:(rv (sgn b x) y).num<0↔(b=true∧0<x):=by
  rw[show Ay (rv (sgn b x) y).num=decide ((rv (sgn b x) y).num<0)from rfl,Bool.eq_iff_iff]at j;simpa using j
 cases b
 ·rw[if_neg (by rw[f];simp)];rfl
 by_cases e:0<x
 ·rw[if_pos (by rw[f];exact⟨rfl,e⟩)];rfl
 rw[if_neg (by rw[f];intro h;exact e h.2)];obtain rfl:x=0:=zO;rw[Nat.div_eq_of_lt zO];rfl
theorem iT(v:Value)(k:Nat)(q:Rat)(w:World)(V:BK w v k q)(X:1<=k)(a2:k<=100000) :
  CP 269 #[v] w (JR (BH q) w):=by
 obtain⟨g,A,n,c,B,m,d,x,y,rfl,K,L,M,N,O⟩:=V;have H:=zH (zu2 K L);have C:=λW (p:Bw w W)=>DW g A n c x B m d y W (H.o.1.on p) (H.o.2.on p) k M N X zO
 rw[O]at C;have C:=zH C;have p:Bw w (zw (zw w #[.bool g,.slice A n c,.slice B m d] 217) #[zF,zn] 215):=(zA _).alloc zP _;have X0:Blk (zw (zw w #[.bool g,.slice A n c,.slice B m d] 217) #[zF,zn] 215) w.heap.size 217 #[.bool g,.slice A n c,.slice B m d]:=(Blk.new w _ _).alloc _;have Y0:Blk (zw (zw w #[.bool g,.slice A n c,.slice B m d] 217) #[zF,zn] 215) (w.heap.size+1) 215 #[zF,zn]:=Blk.new' _ _ _ zP;clear K L M N O;go_enter func269,ntmps269
 go_wp2_with fail
 refine(C.o _ p).mono ?_;rintro e w1 ⟨neg',A',n',c',B',m',d',x',y',rfl,g1,g2,g3,g4,g5,g6,s⟩;subst g4;have B1:=Fi (zT p s) (r:=w.heap.size) (zs2 _) (.bool neg') (.slice A' n' c') (.slice B' m' d');have X1:=X0.below s;have I:=NoU.blk X1 zP;have Y1:=(Y0.below s).far3 (r:=w.heap.size) zP (.bool neg') (.slice A' n' c') (.slice B' m' d');have G:=zH (zu2 (g1.no3 I (u0:=.bool neg') (u1:=.slice A' n' c') (.slice B' m' d')) (g2.no3 I (u0:=.bool neg') (u1:=.slice A' n' c') (.slice B' m' d')));have f0:=X1.c (i:=0) rfl;have f1:=X1.c (i:=1) rfl;have f2:=X1.c (i:=2) rfl;have z0:=X1.frozen 0;have z1:=X1.frozen 1;have z2:=X1.frozen 2;have X2:=X1.put3 (.bool neg') (.slice A' n' c') (.slice B' m' d');have l1:=g1.trimmed.1;have l2:=g2.trimmed.1;have lx:nl (x'+x')<=100001:=(zV (JP x' x'));have lxy:nl (x'+x'+y')<=100002:=(zV (JP (x'+x') y'));have ly:nl (y'+y')<=100001:=(zV (JP y' y'));clear X0 Y0 s p I g1 g2 X1;go_wp2_with(go_at_call 287;go_must((refine(NK A' A' n' n' c' c' x' x' _ G.o.1 G.o.1 zO zO).mono ?_);rintro e w2 ⟨A2,n2,c2,rfl,r2,P,j⟩;have B2:=zT B1 j;have X3:=X2.below j;have Y3:=Y1.below j;have J:=zH (G.o.2.on j);have a3:n2<=100001:=(by rw[<-r2.ulen];exact lx);have Y:=zH r2;have s0:=X3.c (i:=0) rfl;have s2:=X3.c (i:=2) rfl;clear r2 j))
 have t:=zH X3;have Q:=zH Y3;clear X3 Y3 X2 Y1 G H C B1
 go_region_held3(λw'=>w'.cell? (ad w.heap.size 2)=some (.slice B' m' d'))
  (go_keep)
  (first
  | (go_at_call_of 287 (Value.slice A2 n2 c2);go_must((refine(NK A2 B' n2 m' c2 d' (x'+x') y' _ (.of_limbs (by exact Y.o) P) (by exact J.o) zO zO).mono ?_);rintro e w4 ⟨A4,n4,c4,rfl,r4,R,a⟩;have l:=zH (show Bw w2 w4 from(zX a));have Z:=(t.o.below l.o).c (i:=2) (v:=.slice B' m' d') rfl;have a4:n4<=100002:=(by rw[<-r4.ulen];exact lxy);have H4:=zH r4;clear r4 a))
  | (go_at_call 287;go_must((refine(NK B' B' m' m' d' d' y' y' _ (by exact J.o.on l.o) (by exact J.o.on l.o) zO zO).mono ?_);rintro e w5 ⟨A5,n5,c5,rfl,r5,S,b⟩;have D:=zH (show Bw w4 w5 from(zX b));have E:=zH (zT l.o D.o);have a0:=(t.o.below E.o).c (i:=2) (v:=.slice B' m' d') rfl;have a5:n5<=100001:=(by rw[<-r5.ulen];exact ly);have H5:=zH r5;clear r5 b))
  | (go_at_call 285;go_must((refine(Jd A4 A5 n4 n5 c4 c5 (x'+x'+y') (y'+y') _ (.of_limbs (by exact H4.o.on D.o) R) (.of_limbs (by exact H5.o) S) zO zO zO).mono ?_);rintro e w6 ⟨A6,n6,c6,R6,rn6,rc6,rfl,r6,T,_,_,f⟩;have z:=zH (E.o.trans (Below.mono (show Bw w5 w6 from(zX f)) E.o.size));have a1:=(t.o.below z.o).c (i:=2) (v:=.slice B' m' d') rfl;have s60:=(t.o.below z.o).c (i:=0) (v:=.bool neg') rfl;have a6:n6<=100002:=(by rw[<-r6.ulen];exact zs0 (MP _ _) lxy);have H6:=zH r6;clear r6 f)))
 have Y6:=Q.o.below z.o;have B6:=zT B2 z.o;have HR:=zH (AaU neg' A6 n6 c6 ((x'+x'+y')/(y'+y')) w6 (.of_limbs H6.o T) zO);go_wp2_with(go_at_call 256;go_must((refine HR.o.mono ?_);rintro e w7 ⟨A7,n7,c7,rfl,r7,U,F⟩;have Y7:=Y6.below F;have k0:=Y7.c (i:=0) rfl;have k1:=Y7.c (i:=1) rfl;have y0:=Y7.frozen 0;have y1:=Y7.frozen 1;have HE:=zH (FZ r7 U (NoU.blk Y7 zP) B6 F (zt1 _));clear r7 F Y7))
 refine bodyPost_ret (v:=.agg #[.bool (Ay (sgn neg' ((x'+x'+y')/(y'+y')))),.slice A7 n7 c7]) (by simp[results,results269,go_sem,k0,k1]) rfl ?_;rw[iS neg' x' y' g3];exact HE.o
end Go.Proofs.YteafekbddckemaaGreatDoor
