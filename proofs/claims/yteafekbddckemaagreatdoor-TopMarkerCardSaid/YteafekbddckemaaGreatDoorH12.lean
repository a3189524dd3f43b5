/- Parts of the proof. -/
import Derived.Test.YteafekbddckemaaGreatDoorH10
import Derived.Test.YteafekbddckemaaGreatDoorH11
set_option maxRecDepth 100000
set_option maxHeartbeats 40000000
namespace Go.Proofs.YteafekbddckemaaGreatDoor
open Tryz Go.RowKit
open Go.Lib hiding intOf
variable{A:oA}{B g i j k m n:Nat}{b:UInt8}{ch:Cb}{e:As}{l:lP}{p:Pt}{q:Rat}{qs:List Rat}{r:Dg}{rs:List Dg}{t:TypeId}{v:Value}{w w':World}{xs:lV}
def E6(w:World)(A:oA)(n k:Nat)(qs:List Rat):Prop:=
 qs.length=n∧(0<n->∃b a,A=some ⟨b,a,none⟩∧b<w.heap.size∧∀j q,qs[j]?=some q->
  ∃e B m c C l d,w.cell? (ad b (a+j*3))=some (.bool e)∧w.cell? (ad b (a+j*3+1))=some (.slice B m c)∧w.cell? (ad b (a+j*3+2))=some (.slice C l d)∧BK w (.agg #[.bool e,.slice B m c,.slice C l d]) k q)
def oB(w:World)(v:Value)(k:Nat)(r:Dg):Prop:=
 ∃a B m c C l d S sn sc,v=.agg #[.string r.name,.bool a,.slice B m c,.slice C l d,.slice S sn sc]∧BK w (.agg #[.bool a,.slice B m c,.slice C l d]) k r.base∧E6 w S sn k r.steps∧sn<=sc
def DO(w:World)(A:oA)(n k:Nat)(rs:List Dg):Prop:=
 rs.length=n∧(0<n->∃b a,A=some ⟨b,a,none⟩∧b<w.heap.size∧∀j r,rs[j]?=some r->
  ∃e B m c C l d S sn sc,w.cell? (ad b (a+j*5))=some (.string r.name)∧w.cell? (ad b (a+j*5+1))=some (.bool e)∧w.cell? (ad b (a+j*5+2))=some (.slice B m c)∧w.cell? (ad b (a+j*5+3))=some (.slice C l d)∧w.cell? (ad b (a+j*5+4))=some (.slice S sn sc)∧
   BK w (.agg #[.bool e,.slice B m c,.slice C l d]) k r.base∧E6 w S sn k r.steps∧sn<=sc)
def PC(w:World)(S:oA)(n:Nat)(R:oA)(m k:Nat)(ch:Cb):Prop:=
 Sl w w.heap.size S n (Hh ch.sizes)∧DO w R m k ch.rows
section
variable{w w':World}{A:oA}{n k:Nat}
theorem E6.len(h:E6 w A n k qs):qs.length=n:=h.1
theorem DO.len(h:DO w A n k rs):rs.length=n:=h.1
theorem E6.on(h:E6 w A n k qs)(g:Bw w w'):E6 w' A n k qs:=
 ⟨h.1,λo=>by
  obtain⟨b,a,e,f,r⟩:=h.2 o;refine⟨b,a,e,zs1 f g.size,λj q s=>?_⟩;obtain⟨i,B,m,c,C,l,d,t,v,x,y⟩:=r j q s;exact⟨i,B,m,c,C,l,d,(g.cell (p:=ad b (a+j*3)) f).trans t,(g.cell (p:=ad b (a+j*3+1)) f).trans v,(g.cell (p:=ad b (a+j*3+2)) f).trans x,y.on g⟩⟩
theorem DO.on(h:DO w A n k rs)(g:Bw w w'):DO w' A n k rs:=
 ⟨h.1,λo=>by
  obtain⟨b,a,e,f,q⟩:=h.2 o;refine⟨b,a,e,zs1 f g.size,λj r s=>?_⟩;obtain⟨i,B,m,c,C,l,d,S,sn,sc,t,v,x,y,z,D,E,F⟩:=q j r s;exact⟨i,B,m,c,C,l,d,S,sn,sc,(g.cell (p:=ad b (a+j*5)) f).trans t,(g.cell (p:=ad b (a+j*5+1)) f).trans v,(g.cell (p:=ad b (a+j*5+2)) f).trans x,(g.cell (p:=ad b (a+j*5+3)) f).trans y,(g.cell (p:=ad b (a+j*5+4)) f).trans z,D.on g,E.on g,F⟩⟩
theorem oB.on(h:oB w v k r)(a:Bw w w'):oB w' v k r:=by
 obtain⟨b,B,m,c,C,l,d,S,sn,sc,e,f,g,i⟩:=h;exact⟨b,B,m,c,C,l,d,S,sn,sc,e,f.on a,g.on a,i⟩
theorem PC.on{S R:oA}(h:PC w S n R m k ch)(a:Bw w w'):PC w' S n R m k ch:=⟨h.1.on a,h.2.on a⟩
theorem E6.nil(w:World)(A:oA)(k:Nat):E6 w A 0 k []:=⟨rfl,λh=>absurd h zO⟩
theorem DO.nil(w:World)(A:oA)(k:Nat):DO w A 0 k []:=⟨rfl,λh=>absurd h zO⟩
theorem E6.at_(h:E6 w A n k qs)(o:j<n):∃b a q f B m c C l d,A=some ⟨b,a,none⟩∧b<w.heap.size∧qs[j]?=some q∧zL w b (a+j*3) (.bool f)∧zL w b (a+j*3+1) (.slice B m c)∧zL w b (a+j*3+2) (.slice C l d)∧BK w (.agg #[.bool f,.slice B m c,.slice C l d]) k q:=by
 obtain⟨b,a,e,g,p⟩:=h.2 zO;have i:j<qs.length:=by rw[h.1];exact o
 obtain⟨f,B,m,c,C,l,d,r⟩:=p j _ (zq0 i);exact⟨b,a,_,f,B,m,c,C,l,d,e,g,zq0 i,r⟩
theorem DO.at_(h:DO w A n k rs)(o:j<n):∃b a r f B m c C l d S sn sc,A=some ⟨b,a,none⟩∧b<w.heap.size∧rs[j]?=some r∧zL w b (a+j*5) (.string r.name)∧zL w b (a+j*5+1) (.bool f)∧zL w b (a+j*5+2) (.slice B m c)∧zL w b (a+j*5+3) (.slice C l d)∧zL w b (a+j*5+4) (.slice S sn sc)∧
   BK w (.agg #[.bool f,.slice B m c,.slice C l d]) k r.base∧E6 w S sn k r.steps∧sn<=sc:=by
 obtain⟨b,a,e,g,p⟩:=h.2 zO;have i:j<rs.length:=by rw[h.1];exact o
 obtain⟨f,B,m,c,C,l,d,S,sn,sc,q⟩:=p j _ (zq0 i);exact⟨b,a,_,f,B,m,c,C,l,d,S,sn,sc,e,g,zq0 i,q⟩
theorem DO.take(h:DO w A n k rs)(hi:i<=n):DO w A i k (rs.take i):=by
 refine⟨by rw[zq7,h.1];omega,λm=>?_⟩;obtain⟨b,f,e,g,l⟩:=h.2 zO;refine⟨b,f,e,g,λj r a=>l j r ?_⟩;rw[zr8]at a;split at a
 ·exact a
 cases a
theorem Sl.take(h:Sl w B A n xs)(hi:i<=n):Sl w B A i (xs.take i):=by
 refine⟨by rw[zq7,h.1];omega,λm=>?_⟩;obtain⟨b,f,e,g,l⟩:=h.2 zO;refine⟨b,f,e,g,λj u a=>l j u ?_⟩;rw[zr8]at a;split at a
 ·exact a
 cases a
theorem BK.mono(h:BK w v j q)(i:j<=k):BK w v k q:=by
 obtain⟨a,A,n,c,B,m,d,x,y,b,e,f,l,o,g⟩:=h;exact⟨a,A,n,c,B,m,d,x,y,b,e,f,by omega,by omega,g⟩
theorem E6.mono(h:E6 w A n j qs)(o:j<=k):E6 w A n k qs:=
 ⟨h.1,λp=>by
  obtain⟨b,a,e,f,r⟩:=h.2 p;refine⟨b,a,e,f,λi q s=>?_⟩;obtain⟨g,B,m,c,C,l,d,t,v,x,y⟩:=r i q s;exact⟨g,B,m,c,C,l,d,t,v,x,y.mono o⟩⟩
theorem DO.mono(h:DO w A n j rs)(a:j<=k):DO w A n k rs:=
 ⟨h.1,λp=>by
  obtain⟨b,f,e,g,q⟩:=h.2 p;refine⟨b,f,e,g,λi r s=>?_⟩;obtain⟨o,B,m,c,C,l,d,S,sn,sc,t,v,x,y,z,D,E,F⟩:=q i r s;exact⟨o,B,m,c,C,l,d,S,sn,sc,t,v,x,y,z,D.mono a,E.mono a,F⟩⟩
end
theorem T5(h:EW b=false):b.toNat<48∨(57<b.toNat∧b.toNat<65)∨90<b.toNat:=by
 unfold EW at h;simp only[Bool.or_eq_false_iff,Bool.and_eq_false_iff,decide_eq_false_iff_not]at h;omega
theorem Wh(h:EW b=true):(65<=b.toNat∧b.toNat<=90)∨(48<=b.toNat∧b.toNat<=57):=by
 unfold EW at h;simp only[Bool.or_eq_true,Bool.and_eq_true,decide_eq_true_iff]at h;exact h
theorem YX(s:ByteArray)(w:World)(x:s.size<=9223372036854775807) :
  CP 160 #[.string s] w λe w'=>e=.returned (.bool (Bl s.data.toList))∧w=w':=by
 go_enter func160,ntmps160;go_wp2
 go_loop [8] (λi=>∃k:Nat,k<=s.size∧i=zi k∧Hid ((s.data.toList.take k).all EW=true)) (λi=>s.size-(intOf i).toNat)
 case atStart=>exact⟨0,zs3 _,rfl,by rw[Hid];simp⟩
 case round=>
  obtain⟨k,y,rfl,f⟩:=hrel;by_cases p:k<s.size
  ·obtain⟨b,t⟩:=zG (s[k]);have g:=NE s k p;rw[t]at g;have q:=zH g;clear g
   cases hd:EW b
   ·have a:=zH (cR q.o hd);rcases T5 hd with h|⟨h,z⟩|h
    ·have q65:decide ((65:Int)<=(b.toNat:Int))=false:=by simp;omega
     have q90:decide ((b.toNat:Int)<=90)=true:=by simp;omega
     have q48:decide ((48:Int)<=(b.toNat:Int))=false:=by simp;omega
     have q57:decide ((b.toNat:Int)<=57)=true:=by simp;omega
     clear hd;go_wp2;go_ret;exact⟨by rw[a.o];rfl,rfl⟩
    ·have q65:decide ((65:Int)<=(b.toNat:Int))=false:=by simp;omega
     have q90:decide ((b.toNat:Int)<=90)=true:=by simp;omega
     have q48:decide ((48:Int)<=(b.toNat:Int))=true:=by simp;omega
     have q57:decide ((b.toNat:Int)<=57)=false:=by simp;omega
     clear hd;go_wp2;go_ret;exact⟨by rw[a.o];rfl,rfl⟩
    have q65:decide ((65:Int)<=(b.toNat:Int))=true:=by simp;omega
    have q90:decide ((b.toNat:Int)<=90)=false:=by simp;omega
    have q48:decide ((48:Int)<=(b.toNat:Int))=true:=by simp;omega
    have q57:decide ((b.toNat:Int)<=57)=false:=by simp;omega
    clear hd;go_wp2;go_ret;exact⟨by rw[a.o];rfl,rfl⟩
   have a:=zH (SY f.out q.o hd);rcases Wh hd with⟨j,l⟩|⟨j,l⟩
   ·have q65:decide ((65:Int)<=(b.toNat:Int))=true:=by simp;omega
    have q90:decide ((b.toNat:Int)<=90)=true:=by simp;omega
    have q48:decide ((48:Int)<=(b.toNat:Int))=true:=by simp;omega
    have q57:decide ((b.toNat:Int)<=57)=false:=by simp;omega
    clear hd;go_wp2;go_round
    case rel=>exact⟨k+1,by omega,by go_num,a⟩
    case measure=>exact zM
   have q65:decide ((65:Int)<=(b.toNat:Int))=false:=by simp;omega
   have q90:decide ((b.toNat:Int)<=90)=true:=by simp;omega
   have q48:decide ((48:Int)<=(b.toNat:Int))=true:=by simp;omega
   have q57:decide ((b.toNat:Int)<=57)=true:=by simp;omega
   clear hd;go_wp2;go_round
   case rel=>exact⟨k+1,by omega,by go_num,a⟩
   case measure=>exact zM
  obtain rfl:k=s.size:=zO;have n:=f.out;rw[show s.data.toList.take s.size=s.data.toList from zq4 (zs2 _)]at n;have v:=zH n;have r:s.data.toList.length=s.size:=rfl;have m:=zH r;clear n f r;by_cases j:1<=s.size
  ·have q1:decide ((1:Int)<=(s.size:Int))=true:=by simp;omega
   by_cases l:s.size<=8
   ·have q8:decide ((s.size:Int)<=8)=true:=by simp;omega
    have a:Hid (Bl s.data.toList=true):=Jb.2 ⟨by rw[m.o];exact j,by rw[m.o];exact l,v.o⟩;go_wp2;go_ret;exact⟨by rw[a.o];rfl,rfl⟩
   have q8:decide ((s.size:Int)<=8)=false:=by simp;omega
   have a:Hid (Bl s.data.toList=false):=by
    cases hq:Bl s.data.toList
    ·rfl
    exact absurd (Jb.1 hq).2.1 (by rw[m.o];exact l)
   go_wp2;go_ret;exact⟨by rw[a.o];rfl,rfl⟩
  have q1:decide ((1:Int)<=(s.size:Int))=false:=by simp;omega
  have a:Hid (Bl s.data.toList=false):=by
   cases hq:Bl s.data.toList
   ·rfl
   exact absurd (Jb.1 hq).1 (by rw[m.o];exact j)
  go_wp2;go_ret;exact⟨by rw[a.o];rfl,rfl⟩
theorem Wi(S:oA)(n c:Nat)(bs:Int)(R:oA)(m d:Nat)(i:Int)(w:World) :
  CP 165 #[.agg #[.slice S n c,zi bs,.slice R m d],zi i] w (zR (.bool (decide (0<=i)&&decide (i<(n:Int)))) w):=by
 have a:Hid (Bw w (zw w #[.slice S n c,zi bs,.slice R m d] 224)):=zA _;by_cases f:0<=i
 ·by_cases b:i<(n:Int)
  ·go_enter func165,ntmps165;go_wp2;go_ret;exact⟨by simp[f,b],a.o⟩
  go_enter func165,ntmps165;go_wp2;go_ret;exact⟨by simp[b],a.o⟩
 have g:Hid ((decide (0<=i)&&decide (i<(n:Int)))=false):=by rw[Hid,Bool.and_eq_false_iff];left;simp;omega
 go_enter func165,ntmps165;go_wp2;go_ret;exact⟨by rw[g.o];rfl,a.o⟩
def YY(rs:List Dg)(x:ByteArray)(z:Int):Prop:=
 (z = -1∧∀(j:Nat)(r:Dg),rs[j]?=some r->r.name≠x)∨∃(k:Nat)(r:Dg),z=(k:Int)∧rs[k]?=some r∧r.name=x∧∀(j:Nat)(r':Dg),j<k->rs[j]?=some r'->r'.name≠x
def T6(rs:List Dg)(x:ByteArray)(w:World)(e:Ending)(w':World):Prop:=∃z:Int,e=.returned (zi z)∧YY rs x z∧Bw w w'
theorem M1{a b:ByteArray}(h:a≠b):(a.toList == b.toList)=false:=by
 rw[toList_data,toList_data];simp only[beq_eq_false_iff_ne,ne_eq];intro e;exact h (Pi e)
theorem Wj(nm x:ByteArray)(u1 u2 u3 u4:Value)(B:Nat)(w:World)(i:B<w.heap.size)(j:zL w B 0 (.string x)) :
  CP 215 #[.agg #[.string nm,u1,u2,u3,u4],.pointer (sa B 0)] w (zR (.bool (decide (nm=x))) w):=by
 have g:¬B=w.heap.size:=zO;have a:Hid (Bw w (zw w #[.string nm,u1,u2,u3,u4] 272)):=zA _;by_cases h:nm=x
 ·subst h;have b:(nm.toList == nm.toList)=true:=by simp
  go_enter func215,ntmps215;go_wp2;go_ret;exact⟨by simp,a.o⟩
 have b:=M1 h;have f:Hid (decide (nm=x)=false):=by rw[Hid];simpa using h
 clear h;go_enter func215,ntmps215;go_wp2;go_ret;exact⟨by rw[f.o];rfl,a.o⟩
theorem S7(A:oA)(n c k0:Nat)(rs:List Dg)(x:ByteArray)(B:Nat)(w:World)(y:DO w A n k0 rs)(O:n<=1000000)(E:B<w.heap.size)(F:zL w B 0 (.string x)) :
  CP 214 #[.slice A n c,.func (.func 215) #[] #[.pointer (sa B 0)]] w (T6 rs x w):=by
 have eg:∀args w,(callFunc 215 args).run prog w=.ok (.enter 215 args) w:=enters_of func215 zk rfl;have J:=zH y.len;have K:=zH y;have L:=zH F;clear y F;go_enter func214,ntmps214;go_wp2
 go_loopw[8] (λi wr=>∃k:Nat,k<=n∧i=zi (k:Int)∧Hid (∀(j:Nat)(r':Dg),j<k->rs[j]?=some r'->r'.name≠x)∧Bw w wr) (λi _=>n-(intOf i).toNat)
 case atStart=>exact⟨0,zs3 _,rfl,(λj r h=>by omega),zJ⟩
 case round=>
  obtain⟨k,P,rfl,g,a⟩:=hrel;by_cases G:k<n
  ·obtain⟨b,M,r,H,C,m,c1,D,l,d,S,sn,sc,rfl,N,q,g0,g1,g2,g3,g4,_,_,_⟩:=(K.o.on a).at_ G;obtain⟨i1,i2⟩:=zI (k:=k) (n:=n) (by omega);have v:=zH (Wj r.name x (.bool H) (.slice C m c1) (.slice D l d) (.slice S sn sc) B wr (zs1 E a.size) ((a.cell (p:=ad B 0) E).trans L.o));have I:=zH q;clear q;by_cases f:r.name=x
   ·have hd:decide (r.name=x)=true:=by simpa using f
    rw[hd]at v;have z:=zH f;clear hd f
    go_wp2_with fail
    refine v.o.mono ?_;rintro e w1 ⟨rfl,s⟩
    go_wp2_with fail
    go_ret;exact⟨(k:Int),rfl,.inr ⟨k,r,rfl,I.o,z.o,g.out⟩,zT a s⟩
   have hd:decide (r.name=x)=false:=by simpa using f
   rw[hd]at v
   have z:Hid (∀(j:Nat)(r':Dg),j<k+1->rs[j]?=some r'->r'.name≠x):=λj r' Q t=>by
    by_cases e:j=k
    ·subst e;rw[I.o]at t;rw[<-zs6 t];exact f
    exact g.out j r' zO t
   clear hd f
   go_wp2_with fail
   refine v.o.mono ?_;rintro e w1 ⟨rfl,s⟩
   go_wp2_with fail
   go_roundw
   case rel=>exact⟨k+1,by omega,by go_num,z,zT a s⟩
   case measure=>exact zM
  go_wp2_with fail
  go_ret;exact⟨-1,rfl,.inl ⟨rfl,λj r q=>g.out j r (by have:=(zq1.1 q).1;rw[J.o]at this;omega) q⟩,a⟩
theorem oC(A:oA)(n c k0:Nat)(rs:List Dg)(x:ByteArray)(w:World)(b:DO w A n k0 rs)(j:n<=1000000) :
  CP 164 #[.slice A n c,.string x] w (T6 rs x w):=by
 have a:Bw w (zw w #[.string x] 9):=zA _;have H:=zH (S7 A n c k0 rs x w.heap.size _ (b.on a) j zP (GD w (.string x) 9));have f:=zH a;clear b a;go_enter func164,ntmps164
 go_wp2_with fail
 refine H.o.mono ?_;rintro e w1 ⟨z,rfl,g,i⟩;have k:=zH g;clear g
 go_wp2_with fail
 go_ret;exact⟨z,rfl,k.o,zT f.o i⟩
theorem RI{b a:Nat}{l:List As}(h:Ab 2 CQ w A n l)(e:A=some ⟨b,a,none⟩)(f:j<n):∃x B m d,l[j]?=some x∧zL w b (a+j*2) (.string x.name)∧zL w b (a+j*2+1) (.slice B m d)∧Ab 2 Ad w B m x.line∧m<=d:=by
 obtain⟨b',off',x,B,m,d,e',_,g,i,k,o,p⟩:=EO h f;rw[e]at e';injection e' with e'
 injection e' with e1 e2
 subst e1;subst e2;exact⟨x,B,m,d,g,i,k,o,p⟩
theorem M2{l:List As}(a:l[i]?=some e)(h:Dt l i=0):AK e.line=0:=by
 unfold Dt at h;rw[a]at h;simp only at h;split at h
 ·cases h
 split at h
 ·cases h
 exact h
theorem Gm(A:oA)(n c:Nat)(l:List As)(w:World)(ha:Ab 2 CQ w A n l)(hc:n<=c)(hs:IT l) :
  CP 121 #[.slice A n c] w (zR (zi (Aq l)) w):=by
 have HA:=zH ha;have t:=zH ha.len;have HS:=zH hs;have hn:n<=9223372036854775807:=by rw[<-t.o];exact hs.len
 clear ha hs;by_cases T:16<n
 ·have s:Hid (Aq l=5):=cY (by rw[t.o];exact T);go_enter func121,ntmps121;go_wp2;go_ret;exact⟨by rw[s.o];rfl,zJ⟩
 by_cases h2:n<2
 ·have s:Hid (Aq l=11):=mQ (by rw[t.o];exact T) (by rw[t.o];exact h2);go_enter func121,ntmps121;go_wp2;go_ret;exact⟨by rw[s.o];rfl,zJ⟩
 have I:=zH (zu2 (show ¬16<l.length by rw[t.o];exact T) (show ¬l.length<2 by rw[t.o];exact h2));go_enter func121,ntmps121
 go_wp2_with fail
 go_loopw[3,4,6,7,19] (λ_ _ _ _ i wr=>∃k:Nat,k<=n∧i=zi (k:Int)∧Hid (∀j,j<k->Dt l j=0)∧Bw w wr) (λ_ _ _ _ i _=>n-(intOf i).toNat)
 case atStart=>exact⟨0,zs3 _,rfl,(λj J=>by omega),zJ⟩
 case round=>
  obtain⟨k,hk,rfl,R,a⟩:=hrel;have G:=zH a;by_cases F:k<n
  ·obtain⟨b,ab,x,B,ln,lc,rfl,ac,N,c0,c1,r,U⟩:=EO (HA.o.on Bq a) F;have HX:=zH N;have ae:=zH (zu2 r U);obtain⟨g1,g2⟩:=HS.o.ed x (zq2 N);have au:ln<=9223372036854775807:=by rw[<-r.len];exact g2
   have L:=λW=>eQ x.name W zO
   have v:Hid (Bw wr (zw wr #[.string x.name,.slice B ln lc] 71)):=zA _;have HY:=zH (Blk.new wr 71 #[.string x.name,.slice B ln lc]);obtain⟨i1,i2⟩:=zI (k:=k) (n:=n) (by omega);have i3:(k:Int)<=(c:Int):=zO;clear N r U a
   cases hnm:AD x.name.data.toList
   ·have s:Hid (Aq l=1):=MM I.o.1 I.o.2 (i:=k) (by rw[t.o];exact F) R.out (dB HX.o hnm) zD;simp only[hnm]at L;have L:=zH L;clear hnm;go_wp2_with(go_at_call 166;refine(L.o _).mono ?_;rintro e w1 ⟨rfl,z⟩;have P:=zH (zT v.o z);clear z)
    go_ret;exact⟨by rw[s.o];rfl,zT G.o P.o⟩
   have a2:=zH hnm;simp only[hnm]at L;have L:=zH L;clear hnm;go_wp2_with(go_at_call 166;refine(L.o _).mono ?_;rintro e w1 ⟨rfl,z⟩;have P:=zH (zT v.o z);have V:=zH (HY.o.below z);clear z)
   obtain⟨wm,rfl⟩:∃wm:World,wm=wr:=⟨_,rfl⟩;clear c0 c1
   go_loopw[6,32] (λ_ i wr=>∃j:Nat,j<=k∧i=zi (j:Int)∧Hid (∀(j':Nat)(y:As),j'<j->l[j']?=some y->y.name≠x.name)∧Bw w1 wr) (λ_ i _=>k-(intOf i).toNat)
   case atStart=>exact⟨0,zs3 _,rfl,(λj y J=>by omega),zJ⟩
   case round=>
    obtain⟨j,J,rfl,X,a⟩:=hrel;have g:=zH (zT P.o a);have a3:=zH a;have y0:=(V.o.below a).c (i:=0) rfl;have y1:=(V.o.below a).c (i:=1) rfl;have ao:=(V.o.below a).lt;by_cases af:j<k
    ·obtain⟨y,B2,m2,d2,S,d0,d1,ag,ah⟩:=RI ((HA.o.on Bq G.o).on Bq g.o) rfl (j:=j) zO;have a4:=zH S;obtain⟨j1,j2⟩:=zI (k:=j) (n:=k) (by omega);have a5:Hid (Bw wr (zw wr #[.string y.name,.slice B2 m2 d2] 71)):=zA _;clear S ag ah a;by_cases D:y.name=x.name
     ·have s:Hid (Aq l=7):=MM I.o.1 I.o.2 (i:=k) (by rw[t.o];exact F) R.out (Yt HX.o a2.o (N8 (f:=λe:As=>e.name) (x:=x) af a4.o D)) zD;have ai:(y.name.toList == x.name.toList)=true:=by rw[D];simp
      clear D
      go_wp2_with fail
      go_ret;exact⟨by rw[s.o];rfl,G.o.trans ((zT g.o a5.o).mono G.o.size)⟩
     have s:Hid (∀(j':Nat)(y:As),j'<j+1->l[j']?=some y->y.name≠x.name):=λj' y' a6 Y=>by
      by_cases e:j'=j
      ·subst e;rw[a4.o]at Y;rw[<-zs6 Y];exact D
      exact X.out j' y' zO Y
     have ai:=M1 D;clear D
     go_wp2_with fail
     go_roundw
     case rel=>exact⟨j+1,by omega,by go_num,s,zT a3.o a5.o⟩
     case measure=>exact zM
    obtain rfl:j=k:=zO;have HH:Hid (Dz x.name ((l.take j).map (·.name))=false):=Pp X.out;have Z:=zH (TZ B ln lc x.line wr ((ae.o.1.on Aa g.o)) zO);obtain⟨E,hE⟩:=zG (AK x.line);rw[hE]at Z;have a7:Hid (Dt l j=E):=by rw[Hid,dC HX.o a2.o HH.o,hE]
    clear X a hE;by_cases h0:E=0
    ·have O:Hid (∀j',j'<j+1->Dt l j'=0):=λj' a6=>by
      by_cases e:j'=j
      ·rw[e,a7.o,h0]
      exact R.out j' zO
     subst h0;go_wp2_with(go_at_call 167;refine Z.o.mono ?_;rintro e w3 ⟨rfl,M⟩;have K:=zH (zT g.o M);clear M)
     go_roundw
     case rel=>exact⟨j+1,by omega,by go_num,O,zT G.o K.o⟩
     case measure=>exact zM
    have s:Hid (Aq l=E):=MM I.o.1 I.o.2 (i:=j) (by rw[t.o];exact F) R.out a7.o h0;have av:(E != 0)=true:=by simpa using h0
    clear h0;go_wp2_with(go_at_call 167;refine Z.o.mono ?_;rintro e w3 ⟨rfl,M⟩;have K:=zH (zT g.o M);clear M)
    go_ret;exact⟨by rw[s.o];rfl,zT G.o K.o⟩
  obtain rfl:n=k:=zO;have O:Hid (∀j,j<l.length->Dt l j=0):=λj J=>R.out j (by rw[t.o]at J;exact J)
  obtain⟨wo,rfl⟩:∃wo:World,wo=wr:=⟨_,rfl⟩;clear R a hk
  go_wp2_with fail
  go_loopw[8,9,10,51] (λ_ _ _ i wr=>∃k:Nat,k<=n∧i=zi (k:Int)∧Hid (∀j,j<k->IK l j=true)∧Bw wo wr) (λ_ _ _ i _=>n-(intOf i).toNat)
  case atStart=>exact⟨0,zs3 _,rfl,(λj J=>by omega),zJ⟩
  case round=>
   obtain⟨k,hk,rfl,J,a⟩:=hrel;have g:=zH (zT G.o a);have a8:=zH a;by_cases F:k<n
   ·have a0:=HA.o.on Bq g.o;obtain⟨b,ab,x,B,ln,lc,rfl,ac,N,c0,c1,r,U⟩:=EO a0 F;obtain⟨m,hm⟩:=zG ((k+1)%n);have lm:m<n:=by rw[<-hm];exact Nat.mod_lt _ zO
    obtain⟨y,B2,ly,lyc,S,d0,d1,H,ap⟩:=RI a0 rfl lm;obtain⟨q1,q2,_,_⟩:=CB (M2 N (O.o k (by rw[t.o];exact F)));obtain⟨q3,q4,_,_⟩:=CB (M2 S (O.o m (by rw[t.o];exact lm)));rw[r.len]at q1 q2;rw[H.len]at q3 q4;have v:Hid (Bw wr (zw (zw wr #[.string x.name,.slice B ln lc] 71) #[.string y.name,.slice B2 ly lyc] 71)):=(zA _).alloc zP _;obtain⟨b2,aq,p,rfl,_,hp,e0,e1⟩:=Ap (r.on Aa v.o) (j:=ln-1) zO;obtain⟨b3,ar,q,rfl,_,hq,e2,e3⟩:=Ap (H.on Aa v.o) (j:=0) zO;rw[Nat.zero_mul,Nat.add_zero]at e2 e3;have HJ:Hid (IK l k=decide (p=q)):=nZ N (by rw[t.o];exact hm) S (by rw[List.getLast?_eq_getElem?,r.len];exact hp) (by rw[List.head?_eq_getElem?];exact hq);obtain⟨i1,i2⟩:=zI (k:=k) (n:=n) (by omega);have i3:((k:Int)+1)%(n:Int)=(m:Int):=by rw[<-hm,Int.natCast_emod];rfl
    have i4:(m:Int)<(n:Int):=zO;have i5:IntKind.i64.wrap ((ln:Int)-1)=(ln:Int)-1:=zs5 _ zO;have i6:(0:Int)<=(ln:Int)-1:=zO;have i7:(ln:Int)-1<(ln:Int):=zO;have i8:((ln:Int)-1).toNat=ln-1:=zO;have i9:(0:Int)<(ly:Int):=zO;have i10:0<ly:=zO;have i11:(1:Int)<=(ln:Int):=zO;have Q:=λW=>CL p q W
    rename_i z1 z2 z3 z4 z5 z6;clear z1 z2 z3 z4 z5 z6 N S hm hp hq r H a0 a q1 q3;by_cases e:p=q
    ·have s:Hid (∀j,j<k+1->IK l j=true):=λj a6=>by
      by_cases ej:j=k
      ·rw[ej,HJ.o,zu1 e]
      exact J.out j zO
     simp only[zu1 e]at Q;clear e
     go_wp2_with fail
     go_quiet (fail)
     clear i5 i8 Q
     go_wp2_with fail
     go_roundw
     case rel=>exact⟨k+1,by omega,by go_num,s,Ai (zT a8.o v.o) _⟩
     case measure=>exact zM
    have s:Hid (Aq l=11):=cZ I.o.1 I.o.2 O.o (i:=k) (by rw[t.o];exact F) (by rw[HJ.o,zu0 e]);simp only[zu0 e]at Q;clear e
    go_wp2_with fail
    go_quiet (fail)
    clear i5 i8 Q
    go_wp2_with fail
    go_ret;exact⟨by rw[s.o];rfl,Ai (zT g.o v.o) _⟩
   obtain rfl:n=k:=zO
   have C:∀e∈l,2<=e.line.length∧e.line.length<=40:=λe D=>by
    obtain⟨j,a9⟩:=List.getElem?_of_mem D;obtain⟨q1,q2,_,_⟩:=CB (M2 a9 (O.o j (zq1.1 a9).1));exact⟨q2,q1⟩
   have HV:=zH (λW (hb:Bw w W)=>M0 A n c l W (HA.o.on Bq hb) zO (λe D=>⟨(C e D).1,by have:=(C e D).2;omega⟩));have aj:=zH (RH l (λe D=>(C e D).2));have s:Hid (Aq l=An (AL l)):=dA I.o.1 I.o.2 O.o λi hi=>J.out i (by rw[t.o]at hi;exact hi)
   clear J a C
   go_wp2_with fail
   refine(HV.o _ g.o).mono ?_;rintro e w1 ⟨A1,n1,c1,rfl,a1,ak,z⟩
   have al:n1<=1000000:=by
    have:=aj.o;rw[a1.len,t.o]at this;omega
   have am:=zH (FJ A1 n1 c1 _ w1 a1 ak al);have K:=zH (zT g.o z);clear a1 z
   go_wp2_with fail
   refine am.o.mono ?_;rintro e w2 ⟨rfl,aa⟩;have an:=zH (zT K.o aa);clear aa
   go_wp2_with fail
   go_ret;exact⟨by rw[s.o];rfl,an.o⟩
theorem F4(n b:Int)(w:World)(g:0<=b)(i:b<=1000000) :
  CP 120 #[zi n,zi b] w λe w'=>e=.returned (.bool (decide (-b<=n)&&decide (n<=b)))∧w=w':=by
 by_cases f : -b<=n
 ·have a:Hid ((decide (-b<=n)&&decide (n<=b))=decide (n<=b)):=by rw[Hid,zu1 f];rfl
  go_enter func120,ntmps120;go_wp2;go_ret;exact⟨by rw[a.o];rfl,rfl⟩
 have a:Hid ((decide (-b<=n)&&decide (n<=b))=false):=by rw[Hid,zu0 f];rfl
 go_enter func120,ntmps120;go_wp2;go_ret;exact⟨by rw[a.o];rfl,rfl⟩
theorem T7(b:Nat)(w:World)(a:1<=b)(f:b<=1000000) :
  CP 169 #[zi 0,zi (b:Int)] w λe w'=>e=.returned (zi 0)∧w=w':=by
 have g:(b:Int)/(2*(b:Int))=0:=Int.ediv_eq_zero_of_lt zO zO;go_enter func169,ntmps169;go_wp2;go_ret;exact⟨rfl,rfl⟩
theorem M3{g1 o:Nat}{u0 u1 a0 a1:Value}(h:Blk w g1 t #[u0,u1])(b:g<w.heap.size)(c0:zL w g o a0)(c1:zL w g (o+1) a1)(a:Bw w w') :
  zL w' g1 0 u0∧zL w' g1 1 u1∧zL w' g o a0∧zL w' g (o+1) a1:=
 ⟨(h.below a).c rfl,(h.below a).c rfl,(a.cell (p:=ad g o) b).trans c0,(a.cell (p:=ad g (o+1)) b).trans c1⟩
theorem Oe(C:oA)(l e i:Nat)(cs:lP)(w:World)(k:Ab 2 Ad w C l cs)(x:1<=l)(t:l<=1000)(hi:i<=1000000) :
  CP 122 #[.agg #[.slice C l e,zi 0],zi (i:Int)] w (zR (.agg #[zi 0,zi 0]) w):=by
 obtain⟨m,j⟩:=zG (i%l);have lm:m<l:=by rw[<-j];exact Nat.mod_lt _ zO
 obtain⟨b,a,p,rfl,g,q,c0,c1⟩:=Ap k lm;have f:Bw w (zw (zw w #[.slice (sa b a) l e,zi 0] 230) #[zi 0,zi 0] 56):=(zA _).alloc zP _;have n:=zH f;have r:=zH ((Blk.new w 230 #[.slice (sa b a) l e,zi 0]).alloc (.cells #[zi 0,zi 0] 56));have s:=λw'=>zH (M3 (w':=w') r.o (zs1 g f.size) ((f.cell (p:=ad b (a+m*2)) g).trans c0) ((f.cell (p:=ad b (a+m*2+1)) g).trans c1))
 have i1:(0:Int)<=(i:Int):=zO;have i2:(m:Int)<(l:Int):=zO;have i3:((i:Int)).tmod (l:Int)=(m:Int):=by rw[<-j];rfl
 have i8:¬l=0:=zO;have i9:¬(l:Int)=0:=zO;clear j q k f c0 c1;go_enter func122,ntmps122
 go_wp2_with fail
 go_region_held3(λw'=>w'.cell? (ad w.heap.size 0)=some (.slice (sa b a) l e)∧w'.cell? (ad w.heap.size 1)=some (zi 0)∧w'.cell? (ad b (a+m*2))=some (zi p.1)∧w'.cell? (ad b (a+m*2+1))=some (zi p.2))
  ((refine(s _).out ?_;repeat(first|(with_reducible exact zJ)|(with_reducible refine Below.drew ?_)|(with_reducible refine Below.alo ?_ _))))
  (fail)
 go_wp2_with fail
 refine bodyPost_ret (v:=.agg #[zi 0,zi 0]) (by simp[results,results122,go_sem]) rfl ⟨rfl,?_⟩
 repeat(first|(with_reducible exact n.o)|(with_reducible refine Ai ?_ _)|(with_reducible refine Below.drew ?_)|(with_reducible refine Below.alo ?_ _)|(with_reducible refine Below.setCell ?_ zP _))
def F5(w:World)(g n:Nat)(l:lP)(k:Nat):Prop:=∃cs:Array Value,Blk w g 56 cs∧cs.size=n*2∧(∀i,i<n*2->∃z:Int,cs[i]?=some (zi z))∧∀(j:Nat)(p:Pt),j<k->l[j]?=some p->cs[j*2]?=some (zi p.1)∧cs[j*2+1]?=some (zi p.2)
theorem M4(h:F5 w g n l k)(b:l[k]?=some p)(s:k<n):F5 ((w.setCell (ad g (k*2)) (zi p.1)).setCell (ad g (k*2+1)) (zi p.2)) g n l (k+1):=by
 obtain⟨cs,f,m,o,r⟩:=h;refine⟨(cs.setIfInBounds (k*2) (zi p.1)).setIfInBounds (k*2+1) (zi p.2),(f.set_ _ _).set_ _ _,by simp[m],λi hi=>?_,λj q t a=>?_⟩
 ·rw[zs9,zs9];by_cases e1:k*2+1=i
  ·rw[if_pos e1,if_pos zQ];exact⟨_,rfl⟩
  rw[if_neg e1];by_cases e2:k*2=i
  ·rw[if_pos e2,if_pos zO];exact⟨_,rfl⟩
  rw[if_neg e2];exact o i hi
 by_cases e:j=k
 ·subst e;rw[b]at a;obtain rfl:=zs6 a;constructor
  ·rw[Array.getElem?_setIfInBounds_ne zO,zs9,if_pos rfl,if_pos zO]
  rw[zs9,if_pos rfl,if_pos zQ]
 rw[Array.getElem?_setIfInBounds_ne zO,Array.getElem?_setIfInBounds_ne zO,Array.getElem?_setIfInBounds_ne zO,Array.getElem?_setIfInBounds_ne zO];exact r j q zO a
theorem F5.below(h:F5 w g n l k)(a:Bw w w'):F5 w' g n l k:=by
 obtain⟨cs,b,e⟩:=h;exact⟨cs,b.below a,e⟩
theorem F5.done(h:F5 w g n l n)(f:l.length=n):Ab 2 Ad w (sa g 0) n l:=by
 obtain⟨cs,b,o,q,k⟩:=h;refine⟨f,λ_=>⟨g,0,rfl,b.lt,λj p e=>⟨_,rfl,λi u a=>?_⟩⟩⟩;have m:j<n:=by have:=(zq1.1 e).1;omega
 obtain⟨a1,a2⟩:=k j p m e;rw[Nat.zero_add]
 match i,a with
 | 0,a=>
  obtain rfl:=zs6 a;exact b.c a1
 | 1,a=>
  obtain rfl:=zs6 a;exact b.c a2
 | i+2,a=>simp at a
theorem E7(n:Nat)(f:n<=1000000)(W:World):(Instr.makeSlice 64 (zi (n:Int)) (zi (n:Int))).run prog W=.ok (.slice (sa W.heap.size 0) n n) (W.alloc (.cells (madeCells #[zi 0,zi 0] (n*2)) 56)):=by
 obtain⟨i0,hi,a,b,e⟩:=info_parts BY;have h:=run_make (P:=prog) W 64 56 i0 _ underlying64 hi a .i64 .i64 (n:Int) (n:Int) zO zO (by rw[e];omega) zO;rw[b,Int.toNat_natCast]at h;exact h
theorem Kq(W:World)(n:Nat)(l:lP):F5 (W.alloc (.cells (madeCells #[zi 0,zi 0] (n*2)) 56)) W.heap.size n l 0:=by
 refine⟨_,Blk.new _ _ _,by simp[madeCells],λi hi=>⟨0,?_⟩,λj p a=>by omega⟩;unfold madeCells;rw[Array.getElem?_map,Array.getElem?_eq_getElem (by simpa using hi)];rcases Nat.mod_two_eq_zero_or_one i with h|h <;> simp[h]
def YZ(l:lP)(n:Nat)(w:World)(e:Ending)(w':World):Prop:=∃g,e=.returned (.slice (sa g 0) n n)∧w.heap.size<=g∧Ab 2 Ad w' (sa g 0) n l∧Bw w w'
theorem LQ(h:F5 w g n l k)(e:k<n):∃z0 z1:Int,zL w g (k*2) (zi z0)∧zL w g (k*2+1) (zi z1)∧w.frozen? (ad g (k*2))=false∧w.frozen? (ad g (k*2+1))=false∧g<w.heap.size:=by
 obtain⟨cs,a,f,b,i⟩:=h;obtain⟨z0,e0⟩:=b (k*2) zO;obtain⟨z1,e1⟩:=b (k*2+1) zO;exact⟨z0,z1,a.c e0,a.c e1,a.frozen _,a.frozen _,a.lt⟩
theorem Y8(A:oA)(n c:Nat)(l:lP)(w:World)(C:Ab 2 Ad w A n l)(h2:2<=n)(hn:n<=1000)(H:∀p∈l,inG p) :
  CP 123 #[.slice A n c,.agg #[zi 0,zi 0],.agg #[zi 0,zi 0]] w (YZ l n w):=by
 have N:=zH C;have O:=zH C.len;have P:=zH H;have I:=λW=>E7 n zO W
 have t:=λW=>T7 (n-1) W zO zO
 rw[show((n-1:Nat):Int)=(n:Int)-1 by omega]at t;have t:=zH t;have x:Hid (Bw w (zw (zw w #[zi 0,zi 0] 56) #[zi 0,zi 0] 56)):=(zA _).alloc zP _;have y:=zH ((Blk.new w 56 #[zi 0,zi 0]).alloc (.cells #[zi 0,zi 0] 56));have z:=zH (Blk.new' (zw w #[zi 0,zi 0] 56) 56 #[zi 0,zi 0] (g:=w.heap.size+1) zP);have J:=zH (Kq (zw (zw w #[zi 0,zi 0] 56) #[zi 0,zi 0] 56) n l);have D:=zH (y.o.alloc (.cells (madeCells #[zi 0,zi 0] (n*2)) 56));have E:=zH (z.o.alloc (.cells (madeCells #[zi 0,zi 0] (n*2)) 56));have F:=zH (x.o.alloc zQ (.cells (madeCells #[zi 0,zi 0] (n*2)) 56));clear C H y z x;go_enter func123,ntmps123
 go_wp2_with fail
 clear I
 go_loopw[9,10,19] (λ_ _ i wr=>∃k:Nat,k<=n∧i=zi (k:Int)∧F5 wr (w.heap.size+1+1) n l k∧Blk wr w.heap.size 56 #[zi 0,zi 0]∧Blk wr (w.heap.size+1) 56 #[zi 0,zi 0]∧Bw w wr) (λ_ _ i _=>n-(intOf i).toNat)
 case atStart=>exact⟨0,zs3 _,rfl,by simpa using J.o,D.o,E.o,F.o⟩
 case round=>
  obtain⟨k,hk,rfl,f,j,m,q⟩:=hrel;have Q:=zH q;have V:=zH f;have HY:=zH (zu2 j m);by_cases r:k<n
  ·obtain⟨b,X,p,rfl,Y,v,c0,c1⟩:=Ap (N.o.on Aa q) r;have HP:=zH v;obtain⟨q1,q2,q3,q4⟩:=P.o p (zq2 v);have s:=CW p wr;obtain⟨z0,z1,d0,d1,d2,d3,Z⟩:=LQ f r;have a0:=zH s;have a1:=j.lt;have R:=m.lt;have S:=f.choose_spec.1.lt;have T:=λw'=>zH (λ(G:Bw (zw wr #[zi p.1,zi p.2] 56) w')=>zu2 (Ci ((Blk.new wr 56 #[zi p.1,zi p.2]).below G) zJ) (zu2 (Ci (a:=(0,0)) ((j.alloc (.cells #[zi p.1,zi p.2] 56)).below G) zJ) (Ci (a:=(0,0)) ((m.alloc (.cells #[zi p.1,zi p.2] 56)).below G) zJ)))
   have K:Hid (((zw ((wr.setCell (ad (w.heap.size+1+1) (k*2)) (zi p.1)).setCell (ad (w.heap.size+1+1) (k*2+1)) (zi p.2)) #[zi p.1,zi p.2] 56).cell? (ad wr.heap.size 0)=some (zi p.1)∧(zw ((wr.setCell (ad (w.heap.size+1+1) (k*2)) (zi p.1)).setCell (ad (w.heap.size+1+1) (k*2+1)) (zi p.2)) #[zi p.1,zi p.2] 56).cell? (ad wr.heap.size 1)=some (zi p.2))∧((zw ((wr.setCell (ad (w.heap.size+1+1) (k*2)) (zi p.1)).setCell (ad (w.heap.size+1+1) (k*2+1)) (zi p.2)) #[zi p.1,zi p.2] 56).cell? (ad w.heap.size 0)=some (zi 0)∧(zw ((wr.setCell (ad (w.heap.size+1+1) (k*2)) (zi p.1)).setCell (ad (w.heap.size+1+1) (k*2+1)) (zi p.2)) #[zi p.1,zi p.2] 56).cell? (ad w.heap.size 1)=some (zi 0))∧((zw ((wr.setCell (ad (w.heap.size+1+1) (k*2)) (zi p.1)).setCell (ad (w.heap.size+1+1) (k*2+1)) (zi p.2)) #[zi p.1,zi p.2] 56).cell? (ad (w.heap.size+1) 0)=some (zi 0)∧(zw ((wr.setCell (ad (w.heap.size+1+1) (k*2)) (zi p.1)).setCell (ad (w.heap.size+1+1) (k*2+1)) (zi p.2)) #[zi p.1,zi p.2] 56).cell? (ad (w.heap.size+1) 1)=some (zi 0))):=
    ⟨Ci (Blk.new' ((wr.setCell (ad (w.heap.size+1+1) (k*2)) (zi p.1)).setCell (ad (w.heap.size+1+1) (k*2+1)) (zi p.2)) _ _ zP) zJ,Ci (a:=(0,0)) (((j.far (by show _≠w.heap.size+1+1;omega) _).far (by show _≠w.heap.size+1+1;omega) _).alloc _) zJ,Ci (a:=(0,0)) (((m.far (by show _≠w.heap.size+1+1;omega) _).far (by show _≠w.heap.size+1+1;omega) _).alloc _) zJ⟩
   have L:=zH ((M4 f v r).below (zA (.cells #[zi p.1,zi p.2] 56)));have B:=zH (zu2 ((((j.far (p:=ad (w.heap.size+1+1) (k*2)) (by show _≠w.heap.size+1+1;omega) (zi p.1)).far (p:=ad (w.heap.size+1+1) (k*2+1)) (by show _≠w.heap.size+1+1;omega) (zi p.2))).alloc (.cells #[zi p.1,zi p.2] 56)) ((((m.far (p:=ad (w.heap.size+1+1) (k*2)) (by show _≠w.heap.size+1+1;omega) (zi p.1)).far (p:=ad (w.heap.size+1+1) (k*2+1)) (by show _≠w.heap.size+1+1;omega) (zi p.2))).alloc (.cells #[zi p.1,zi p.2] 56)));have M:Hid (Bw w (zw ((wr.setCell (ad (w.heap.size+1+1) (k*2)) (zi p.1)).setCell (ad (w.heap.size+1+1) (k*2+1)) (zi p.2)) #[zi p.1,zi p.2] 56)):=(((q.setCell (p:=ad (w.heap.size+1+1) (k*2)) zQ _).setCell (p:=ad (w.heap.size+1+1) (k*2+1)) zQ _).alloc zQ _);obtain⟨i1,i2⟩:=zI (k:=k) (n:=n) (by omega);have i3:IntKind.i64.wrap ((n:Int)-1-(k:Int))=(n:Int)-1-(k:Int):=zs5 _ zO;have i6:IntKind.i64.wrap 0=0:=rfl;have i4:IntKind.i64.wrap p.1=p.1:=zs5 _ zO;have i5:IntKind.i64.wrap p.2=p.2:=zs5 _ zO;clear v j m f q s
   go_wp2_with fail
   go_region_held3(λw'=>(w'.cell? (ad wr.heap.size 0)=some (zi p.1)∧w'.cell? (ad wr.heap.size 1)=some (zi p.2))∧(w'.cell? (ad w.heap.size 0)=some (zi 0)∧w'.cell? (ad w.heap.size 1)=some (zi 0))∧(w'.cell? (ad (w.heap.size+1) 0)=some (zi 0)∧w'.cell? (ad (w.heap.size+1) 1)=some (zi 0)))
    ((first|(exact K.o)|(exact(T _).out zB)))
    ((go_at_call 169;go_must((with_reducible refine(t.o _).mono ?_);rintro e w1 ⟨rfl,rfl⟩)))
   go_wp2_with fail
   go_roundw
   case rel=>exact⟨k+1,by omega,by go_num,L.o,B.o.1,B.o.2,Ai M.o _⟩
   case measure=>exact zM
  obtain rfl:k=n:=zO;have U:=zH (f.done O.o);clear f j m q
  go_wp2_with fail
  go_ret;exact⟨w.heap.size+1+1,rfl,by omega,U.o,Q.o⟩
def Ea(w:World)(g n:Nat)(l:lP)(D:Nat->Prop):Prop:=∃cs:Array Value,Blk w g 56 cs∧cs.size=n*2∧(∀i,i<n*2->∃z:Int,cs[i]?=some (zi z))∧∀(j:Nat)(p:Pt),D j->l[j]?=some p->cs[j*2]?=some (zi p.1)∧cs[j*2+1]?=some (zi p.2)
section
variable{w w':World}{g n k:Nat}{l:lP}{D:Nat->Prop}{p:Pt}
theorem Ea.step(h:Ea w g n l D)(b:l[k]?=some p)(t:k<n):Ea ((w.setCell (ad g (k*2)) (zi p.1)).setCell (ad g (k*2+1)) (zi p.2)) g n l (λj=>D j∨j=k):=by
 obtain⟨cs,f,m,o,r⟩:=h;refine⟨(cs.setIfInBounds (k*2) (zi p.1)).setIfInBounds (k*2+1) (zi p.2),(f.set_ _ _).set_ _ _,by simp[m],λi hi=>?_,λj q s a=>?_⟩
 ·rw[zs9,zs9];by_cases e1:k*2+1=i
  ·rw[if_pos e1,if_pos zQ];exact⟨_,rfl⟩
  rw[if_neg e1];by_cases e2:k*2=i
  ·rw[if_pos e2,if_pos zO];exact⟨_,rfl⟩
  rw[if_neg e2];exact o i hi
 by_cases e:j=k
 ·subst e;rw[b]at a;obtain rfl:=zs6 a;constructor
  ·rw[Array.getElem?_setIfInBounds_ne zO,zs9,if_pos rfl,if_pos zO]
  rw[zs9,if_pos rfl,if_pos zQ]
 rw[Array.getElem?_setIfInBounds_ne zO,Array.getElem?_setIfInBounds_ne zO,Array.getElem?_setIfInBounds_ne zO,Array.getElem?_setIfInBounds_ne zO];exact r j q (s.resolve_right e) a
theorem Ea.below(h:Ea w g n l D)(a:Bw w w'):Ea w' g n l D:=by
 obtain⟨cs,b,e⟩:=h;exact⟨cs,b.below a,e⟩
theorem Ea.weak{E:Nat->Prop}(h:Ea w g n l D)(a:∀j,E j->D j):Ea w g n l E:=by
 obtain⟨cs,b,e,f,i⟩:=h;exact⟨cs,b,e,f,λj p m o=>i j p (a j m) o⟩
theorem Ea.cells(h:Ea w g n l D)(e:k<n):∃z0 z1:Int,zL w g (k*2) (zi z0)∧zL w g (k*2+1) (zi z1)∧w.frozen? (ad g (k*2))=false∧w.frozen? (ad g (k*2+1))=false∧g<w.heap.size:=by
 obtain⟨cs,a,f,b,i⟩:=h;obtain⟨z0,e0⟩:=b (k*2) zO;obtain⟨z1,e1⟩:=b (k*2+1) zO;exact⟨z0,z1,a.c e0,a.c e1,a.frozen _,a.frozen _,a.lt⟩
theorem Ea.done(h:Ea w g n l D)(f:l.length=n)(m:∀j,j<n->D j):Ab 2 Ad w (sa g 0) n l:=by
 obtain⟨cs,b,r,s,o⟩:=h;refine⟨f,λ_=>⟨g,0,rfl,b.lt,λj p e=>⟨_,rfl,λi u a=>?_⟩⟩⟩;have q:j<n:=by have:=(zq1.1 e).1;omega
 obtain⟨a1,a2⟩:=o j p (m j q) e;rw[Nat.zero_add]
 match i,a with
 | 0,a=>
  obtain rfl:=zs6 a;exact b.c a1
 | 1,a=>
  obtain rfl:=zs6 a;exact b.c a2
 | i+2,a=>simp at a
end
theorem LR(W:World)(n:Nat)(l:lP):Ea (zw W (madeCells #[zi 0,zi 0] (n*2)) 56) W.heap.size n l (λ_=>False):=by
 obtain⟨cs,a,b,e,i⟩:=Kq W n l;exact⟨cs,a,b,e,λj p f=>f.elim⟩
def IU(l:lP)(w:World)(e:Ending)(w':World):Prop:=∃g,e=.returned (.slice (sa g 0) l.length l.length)∧w.heap.size<=g∧Ab 2 Ad w' (sa g 0) l.length l∧Bw w w'
end Go.Proofs.YteafekbddckemaaGreatDoor
