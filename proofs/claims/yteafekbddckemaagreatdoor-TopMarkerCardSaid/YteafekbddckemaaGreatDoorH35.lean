/- Parts of the proof. -/
import Derived.Deep.DeepHandedRow
import Derived.Lay
import Derived.Stop.LaidErr
import Derived.Test.YteafekbddckemaaGreatDoorCards
import Derived.Test.YteafekbddckemaaGreatDoorTie
import Derived.Test.YteafekbddckemaaGreatDoorH34
set_option maxRecDepth 100000
set_option maxHeartbeats 40000000
namespace Go.Proofs.YteafekbddckemaaGreatDoor
open Go.Proofs.Tryz Go.RowKit
open Go.Lib hiding intOf
variable{B B' fuel g j n s:Nat}{C l:lP}{E T e t:TypeId}{W W' w w':World}{a p:Addr}{args:aV}{before ps:List MemPlace}{cs:lV}{es:List As}{f:Func}{k:IntKind}{ts:List TypeId}{v v':Value}{x:As}{z:Int}{zs:List Int}{α:Type}
section
variable{p:Aw}{m:Int}
theorem N4(a : -100<=m∧m<=100)(h:AB p=z)(b:z≠0):BL p m=.error z:=by
 unfold BL;rw[if_neg zO,if_pos zO,h]
theorem wI(b : -100<=m∧m<=100)(h:AB p=0)(a:Aq (CO p m)=z)(e:z≠0):BL p m=.error z:=by
 unfold BL;rw[if_neg zO,if_neg zO,if_pos zO,a]
theorem yO(a : -100<=m∧m<=100)(h:AB p=0)(b:Aq (CO p m)=0):BL p m=.ok (CO p m):=by
 unfold BL;rw[if_neg zO,if_neg zO,if_neg zO]
theorem II:(CO p m).length=p.edges.length:=by simp[CO]
theorem Ot{k:Nat}(h:p.edges[k]?=some x):(CO p m)[k]?=some ⟨x.name,EM x.line (LN p m k) (LN p m (k+1))⟩:=by
 have a:=(zq1.1 h).1;unfold CO;rw[zr5,zt4 a];simp only[zt6,zq3,h,Option.getD_some]
theorem MB(h:IT p.edges):IT (CO p m):=by
 refine⟨by rw[II];exact h.1,λe f=>?_⟩;obtain⟨k,a⟩:=List.getElem?_of_mem f;have b:k<p.edges.length:=by have:=(zq1.1 a).1;rwa[II]at this
 have g:=zq0 b;rw[Ot g]at a;injection a with a
 subst a;have:=h.2 _ (List.getElem_mem b);exact⟨this.1,by show(EM _ _ _).length<=_;rw[Sz];exact this.2⟩
theorem Vt{s:Pt}(h:DF s=false) : -1000<=s.1∧s.1<=1000∧-1000<=s.2∧s.2<=1000:=by
 rw[OT]at h;simp only[Bool.not_eq_false',Bool.and_eq_true,decide_eq_true_eq]at h;omega
theorem Mm{a x:Int}(b : -100<=a∧a<=100)(e : -1000<=x∧x<=1000) : -100000000<=a*x∧a*x<=100000000:=by
 have:=GR a x 100 1000 zO zO;omega
theorem SD(a:0<l.length)(h:∀(j:Nat)(s:Pt),l[j]?=some s->DF s=false)(i:Nat) : -1000<=(vtx l i).1∧(vtx l i).1<=1000∧-1000<=(vtx l i).2∧(vtx l i).2<=1000:=by
 obtain⟨j,b⟩:=List.getElem?_of_mem (EL (p:=l) a i);exact Vt (h j _ b)
end
theorem Ou(A:oA)(n c:Nat)(l:lP)(m:Int)(i:Nat)(w:World)(f:Ab 2 Ad w A n l)(g:0<n)(j:n<=1000)(hi:i<=1000)(k : -1000<=m∧m<=1000)(o:∀p∈l,inG p)(a b:Int)(q:m*(vtx l i).1=a)(r:m*(vtx l i).2=b) :
  CP 122 #[.agg #[.slice A n c,zi m],zi (i:Int)] w (zR (.agg #[zi a,zi b]) w):=by
 subst q;subst r;exact WX A n c l m i w f g j hi k o
theorem qW(h:Ab 2 Ad w (sa g 0) n C)(a:0<n):g<w.heap.size:=by
 obtain⟨b,i,e,f,_⟩:=h.2 a;injection e with e
 injection e with e _
 rw[e];exact f
def Bk(B:Nat)(w W:World):Prop:=w.heap.size<=W.heap.size∧∀i,B<=i->i<w.heap.size->W.heap[i]?=w.heap[i]?
theorem Bk.refl(B:Nat)(w:World):Bk B w w:=⟨zs2 _,λ_ _ _=>rfl⟩
theorem Bk.below(h:Bk B w W)(a:Bw W W'):Bk B w W':=⟨zs0 h.1 a.size,λi e b=>(a.block i (zs1 b h.1)).trans (h.2 i e b)⟩
theorem Bk.set_(h:Bk B w W)(e:g<B)(i:Nat)(u:Value):Bk B w (W.setCell (ad g i) u):=⟨by simpa using h.1,λj a b=>(Below.heap_setCell W ⟨g,i,none⟩ u j (show j≠g by omega)).trans (h.2 j a b)⟩
theorem Bk.mono(h:Bk B w W)(b:B<=B'):Bk B' w W:=⟨h.1,λi e a=>h.2 i zO a⟩
theorem Bk.cell(h:Bk B w W)(a:B<=p.block)(b:p.block<w.heap.size):W.cell? p=w.cell? p:=World.cell?_of_block (h.2 _ a b)
theorem Bk.recs{α : Type}{G:World->α->List Value->Prop}{xs:List α}(h:Bk B w W)(a:Ab s G w (sa g 0) n xs)(q:B<=g)(r:∀x∈xs,∀vs,G w x vs->G W x vs):Ab s G W (sa g 0) n xs:=by
 refine⟨a.1,λt=>?_⟩;obtain⟨b,f,e,k,v⟩:=a.2 t;refine⟨b,f,e,zs1 k h.1,λj x l=>?_⟩;injection e with e
 injection e with e1 e2
 subst e1;subst e2;obtain⟨vs,y,o⟩:=v j x l;exact⟨vs,r x (zq2 l) vs y,λi u z=>(h.cell (p:=ad g (0+j*s+i)) q k).trans (o i u z)⟩
def Gx(B:Nat)(es:List As)(j:Nat)(v:Value)(w:World):Prop:=∃ts:List EH,ts.map (λt=>t.1)=es.take j∧w.ownsRow B 71 2 v j (ts.flatMap eC)∧∀t∈ts,D9 w v.ownBlock (PM t)∧∃g,t.2.1=some ⟨g,0,none⟩∧B<=g∧g<w.heap.size
theorem Gx.start(B:Nat)(es:List As)(w:World):Gx B es 0 (zn) w:=⟨[],rfl,World.ownsRow_nil _ _ _ _,λt h=>by cases h⟩
theorem Gx.below(h:Gx B es j v w)(a:Bw w w'):Gx B es j v w':=by
 obtain⟨ts,i,k,e⟩:=h;exact⟨ts,i,Ah k a,λt f=>⟨(e t f).1.below a,(e t f).2.imp λg b=>⟨b.1,b.2.1,zs1 b.2.2 a.size⟩⟩⟩
theorem Gx.more{ts:List EH}(s:es[j]?=some x)(k:ts.map (λt=>t.1)=es.take j)(l:∀t∈ts,D9 w v.ownBlock (PM t)∧∃g,t.2.1=some ⟨g,0,none⟩∧B<=g∧g<w.heap.size)
  (y:Ab 2 Ad w (sa g 0) n x.line) (i:v.ownBlock≠some g) (z:B<=g) (q:g<w.heap.size) (C:w'.ownsRow B 71 2 v' (j+1) (ts.flatMap eC++eC (x,some ⟨g,0,none⟩,n,n))) (a:w.grownBy w' v.ownBlock) (D:v'.ownBlock=v.ownBlock∨v'.ownBlock=some w.heap.size):Gx B es (j+1) v' w':=by
 have r:v'.ownBlock=v.ownBlock∨∀g,v'.ownBlock=some g->w.heap.size<=g:=by
  rcases D with h|h
  ·exact .inl h
  exact .inr λg e=>by rw[h]at e;injection e with e;omega
 refine⟨ts++[(x,some ⟨g,0,none⟩,n,n)],?_,?_,λt f=>?_⟩
 ·rw[zr0,k,List.take_add_one,s];rfl
 ·rw[zr7];simpa using C
 rcases zr1.1 f with f|f
 ·exact⟨(l t f).1.next a r,(l t f).2.imp λg i=>⟨i.1,i.2.1,zs1 i.2.2 a.size⟩⟩
 obtain rfl:t=(x,some ⟨g,0,none⟩,n,n):=by simpa using f
 refine⟨D9.next (λw1 k=>⟨(D9.recs T1 y (λb o e=>?_)) w1 k,zs2 _⟩) a r,g,rfl,z,zs1 q a.size⟩;injection e with e
 injection e with e1 e2
 rw[<-e1];exact i
theorem Gx.done(h:Gx B es n v w)(z:es.length=n):∃A c,v=.slice A n c∧(∀W,Bk B w W->Ab 2 CQ W A n es)∧n<=c:=by
 obtain⟨ts,b,j,k⟩:=h;rw[zq4 zO]at b;have C:ts.length=n:=by rw[<-z,<-b,zq6]
 have key:∀W,Bk B w W->∃A c,v=.slice A n c∧Ab 2 CQ W A n es∧n<=c:=λW a=>by
  have l:W.ownsRow B 71 2 v n (ts.flatMap eC):=by
   refine⟨j.1,?_⟩;rcases j.2 with q|⟨g,cap,cur,e1,e2,e3,e4⟩
   ·exact .inl q
   exact .inr ⟨g,cap,cur,e1,e2,(a.2 g e2 (Array.getElem?_eq_some_iff.1 e3).1).trans e3,e4⟩
  obtain⟨A,c,e,f,i⟩:=CJ (G:=CQ) (g:=λt:EH=>t.1) fG l C (λt o=>⟨t.2.1,t.2.2.1,t.2.2.2,rfl,(by
   obtain⟨D,g,r,s,F⟩:=k t o;have:=D.out.1;rw[r]at this⊢
   exact a.recs this s (λx _ vs E=>E)),(k t o).1.out.2⟩)
  rw[b]at f;exact⟨A,c,e,f,i⟩
 obtain⟨A,c,e,f,i⟩:=key w (Bk.refl _ _);refine⟨A,c,e,λW a=>?_,i⟩;obtain⟨A2,c2,e2,y,_⟩:=key W a;rw[e]at e2;injection e2 with e2
 rw[e2];exact y
def Aav(x:Except Int (List As))(w:World)(e:Ending)(w':World):Prop:=Bw w w'∧match x with
 | .error z=>e=.returned (.tuple #[zn,zi z])
 | .ok es=>∃A c,e=.returned (.tuple #[.slice A es.length c,zi 0])∧(∀W,Bk w.heap.size w' W->Ab 2 CQ W A es.length es)∧es.length<=c
theorem WY(p:Aw)(m:Int)(E:oA)(en ec:Nat)(N:oA)(nn nc:Nat)(C:oA)(cn cc:Nat)(D:oA)(dn dc:Nat)(w:World)(h:PcA w p E en ec N nn nc C cn cc D dn dc)(hm : -100<=m∧m<=100) :
  CP 83 #[.agg #[.string p.name,.slice E en ec,zi p.grain,.slice N nn nc,.slice C cn cc,.slice D dn dc,.bool p.match_],zi m] w (Aav (BL p m) w):=by
 have Q:=zH h;have y:=zH (zu2 h.eds.len h.cors.len);have e1:en<=9223372036854775807:=by rw[<-h.eds.len];exact h.small.eds
 have e2:cn<=9223372036854775807:=by rw[<-h.cors.len];exact h.small.cor
 have f:=zH hm
 have ap:Hid (∀W,CP 120 #[zi m,zi 100] W λe w'=>e=.returned (zY)∧W=w'):=λW=>by
  have h:=F4 m 100 W zO zO
  rw[zu1 hm.1,zu1 hm.2]at h;exact h
 have a0:Hid (Bw w (zw w #[.string p.name,.slice E en ec,zi p.grain,.slice N nn nc,.slice C cn cc,.slice D dn dc,.bool p.match_] 66)):=zA _;have HX:=zH (Blk.new w 66 #[.string p.name,.slice E en ec,zi p.grain,.slice N nn nc,.slice C cn cc,.slice D dn dc,.bool p.match_]);clear h hm;by_cases a5:cn=en
 ·have a6:Hid (p.corners.length=p.edges.length):=by rw[Hid,y.o.1,y.o.2];exact a5
  subst a5;go_enter func83,ntmps83;go_wp2_with(go_at_call 120;refine(ap.o _).mono ?_;rintro e w1 ⟨rfl,rfl⟩)
  go_loopw[7,27] (λ_ i wr=>∃k:Nat,k<=cn∧i=zi (k:Int)∧Hid (∀(j:Nat)(s:Pt),j<k->p.corners[j]?=some s->DF s=false)∧Bw (zw w #[.string p.name,.slice E cn ec,zi p.grain,.slice N nn nc,.slice C cn cc,.slice D dn dc,.bool p.match_] 66) wr) (λ_ i _=>cn-(intOf i).toNat)
  case atStart=>exact⟨0,zs3 _,rfl,(λj s hj=>by omega),zJ⟩
  case round=>
   obtain⟨k,hk,rfl,J,a⟩:=hrel;have z:=zH (zT a0.o a);have aq:=zH a;by_cases a7:k<cn
   ·obtain⟨b,b0,s,rfl,b4,F,c0,c1⟩:=Ap (Q.o.cors.on Aa z.o) a7;have HS:=zH F;have a8:=zH (CW s wr);have a9:=zH (OT s);have aa:=zH (λW=>F4 s.1 1000 W zO zO)
    have ab:=zH (λW=>F4 s.2 1000 W zO zO)
    obtain⟨i1,i2⟩:=zI (k:=k) (n:=cn) (by omega);generalize(decide (-1000<=s.1)&&decide (s.1<=1000))=b1 at *
    generalize(decide (-1000<=s.2)&&decide (s.2<=1000))=b2 at *
    clear F a
    cases b1
    ·have K:Hid (AB p=3):=Hp a6.o HS.o (by rw[a9.o];rfl);go_wp2_with(go_at_call 120;(first|(with_reducible refine(aa.o _).mono ?_)|(with_reducible refine(ab.o _).mono ?_));rintro e w1 ⟨rfl,rfl⟩)
     go_ret2
     rw[N4 f.o K.o zD];exact⟨zT z.o a8.o,rfl⟩
    cases b2
    ·have K:Hid (AB p=3):=Hp a6.o HS.o (by rw[a9.o];rfl);go_wp2_with(go_at_call 120;(first|(with_reducible refine(aa.o _).mono ?_)|(with_reducible refine(ab.o _).mono ?_));rintro e w1 ⟨rfl,rfl⟩)
     go_ret2
     rw[N4 f.o K.o zD];exact⟨zT z.o a8.o,rfl⟩
    have K:Hid (∀(j:Nat)(s:Pt),j<k+1->p.corners[j]?=some s->DF s=false):=λj s' hj ac=>by
     by_cases e:j=k
     ·subst e;rw[HS.o]at ac;rw[<-zs6 ac,a9.o];rfl
     exact J.out j s' zO ac
    go_wp2_with(go_at_call 120;(first|(with_reducible refine(aa.o _).mono ?_)|(with_reducible refine(ab.o _).mono ?_));rintro e w1 ⟨rfl,rfl⟩)
    go_roundw
    case rel=>exact⟨k+1,by omega,by go_num,K,zT aq.o a8.o⟩
    case measure=>exact zM
   obtain rfl:cn=k:=zO;have HG:Hid (AB p=Aq p.edges):=Of a6.o λj s F=>J.out j s (by have:=(zq1.1 F).1;rw[y.o.2]at this;exact this) F
   have M:=Gm E cn ec p.edges wr (Q.o.eds.on Bq z.o) Q.o.ecap Q.o.edges;obtain⟨Z,hZ⟩:=zG (Aq p.edges);rw[hZ]at M;have M:=zH M;have HZ:=zH hZ;obtain⟨x0,x1,x2,x3,x4,x5,x6⟩:=AS (HX.o.below a);have b5:=zH (HX.o.below a);have ae:Hid (∀(j:Nat)(s:Pt),p.corners[j]?=some s->DF s=false):=λj s F=>J.out j s (by have:=(zq1.1 F).1;rw[y.o.2]at this;exact this) F
   clear J a hZ;by_cases h0:Z=0
   ·subst h0;obtain⟨z1,z2,z3⟩:=Ej HZ.o;rw[y.o.1]at z1 z2;have b6:=zH z3;clear z3;go_wp2_with(go_at_call 121;refine M.o.mono ?_;rintro e w1 ⟨rfl,G⟩;have O:=zH (zT z.o G);obtain⟨x0,x1,x2,x3,x4,x5,x6⟩:=AS (b5.o.below G);clear G)
    have ar:Hid (AB p=0):=by rw[Hid,HG.o,HZ.o]
    go_loopw[10,11,12,56] (λv _ _ i wr=>∃k:Nat,k<=cn∧i=zi (k:Int)∧Gx w1.heap.size (CO p m) k v wr∧Bw w1 wr) (λ_ _ _ i _=>cn-(intOf i).toNat)
    case atStart=>exact⟨0,zs3 _,rfl,Gx.start _ _ _,zJ⟩
    case round=>
     obtain⟨k,hk,rfl,H,a⟩:=hrel;have I:=zH (zT O.o a);have af:=zH a;by_cases a7:k<cn
     ·obtain⟨b,b0,x,B,ln,lc,rfl,b4,hx,c0,c1,L,be⟩:=EO (Q.o.eds.on Bq I.o) a7;obtain⟨q1,q2,q3,q4⟩:=CB (b6.o k x hx);rw[L.len]at q1 q2;have bf:=zH hx;have q:Bw wr (zw wr #[.string x.name,.slice B ln lc] 71):=zA _;have au:=zH q;have ag:=zH (Blk.new wr 71 #[.string x.name,.slice B ln lc]);have ah:=Q.o.cors.on Aa I.o
      have ai:∀s∈p.corners,inG s:=λs F=>by
       obtain⟨j,hj⟩:=List.getElem?_of_mem F;have:=Vt (ae.o j s hj);unfold inG;omega
      have vs1:=SD (l:=p.corners) (by rw[y.o.2];omega) ae.o k;have vs2:=SD (l:=p.corners) (by rw[y.o.2];omega) ae.o (k+1);have bb1:=Mm f.o ⟨vs1.1,vs1.2.1⟩;have bb2:=Mm f.o ⟨vs1.2.2.1,vs1.2.2.2⟩;have bb3:=Mm f.o ⟨vs2.1,vs2.2.1⟩;have bb4:=Mm f.o ⟨vs2.2.2.1,vs2.2.2.2⟩;have aj:Hid ((CO p m)[k]?=some ⟨x.name,EM x.line (m*(vtx p.corners k).1,m*(vtx p.corners k).2) (m*(vtx p.corners (k+1)).1,m*(vtx p.corners (k+1)).2)⟩):=Ot hx;obtain⟨a1,R⟩:=zG (m*(vtx p.corners k).1);obtain⟨a2,S⟩:=zG (m*(vtx p.corners k).2);obtain⟨a3,T⟩:=zG (m*(vtx p.corners (k+1)).1);obtain⟨a4,U⟩:=zG (m*(vtx p.corners (k+1)).2);rw[R]at bb1;rw[S]at bb2;rw[T]at bb3;rw[U]at bb4;rw[R,S,T,U]at aj;have ak : -1000<=m∧m<=1000:=by have:=f.o;omega
      have b7:=zH (λW (hb:Bw (zw wr #[.string x.name,.slice B ln lc] 71) W)=>Ou C cn cc p.corners m k W (ah.on Aa (zT q hb)) zO zO zO ak ai a1 a2 R S);have V:=λW (hb:Bw (zw wr #[.string x.name,.slice B ln lc] 71) W)=>Ou C cn cc p.corners m (k+1) W (ah.on Aa (zT q hb)) zO zO zO ak ai a3 a4 T U
      rw[show((k+1:Nat):Int)=(k:Int)+1 by omega]at V;have V:=zH V;have HM:Hid (∀W,Bw (zw wr #[.string x.name,.slice B ln lc] 71) W->CP 123 #[.slice B ln lc,.agg #[zi a1,zi a2],.agg #[zi a3,zi a4]] W (YZ (EM x.line (a1,a2) (a3,a4)) ln W)):=λW hb=>jR B ln lc x.line (a1,a2) (a3,a4) W (L.on Aa (zT q hb)) q2 zO q3 ⟨bb1.1,bb1.2,bb2.1,bb2.2⟩ ⟨bb3.1,bb3.2,bb4.1,bb4.2⟩
      clear ai vs1 vs2 bb1 bb2 bb3 bb4 R S T U ak;obtain⟨ts,t1,t2,t3⟩:=H.below q;have HT:=zH (zu2 t1 (zu2 t2 t3))
      have b8:Hid (some wr.heap.size≠u10.ownBlock):=λe=>by
       obtain⟨ts',t1',t2',t3'⟩:=H;have:=(t2'.lt _ e.symm).2;omega
      have av:Hid (∀g,u10.ownBlock=some g->g<wr.heap.size∧w1.heap.size<=g):=λg e=>by
       obtain⟨ts',t1',t2',t3'⟩:=H;exact⟨(t2'.lt _ e).2,(t2'.lt _ e).1⟩
      have b9:=a.size;have b3:k<=100000000:=zO;obtain⟨i1,i2⟩:=zI (k:=k) (n:=cn) (by omega);have i4:IntKind.i64.wrap ((k:Int)+1)=(k:Int)+1:=zs5 _ zO;have eg:=enters_of func122 zk rfl;have n:=Below.refl (zw wr #[.string x.name,.slice B ln lc] 71).heap.size (zw wr #[.string x.name,.slice B ln lc] 71);clear hx L q ah t1 t2 t3 H a q3 q4 x0 x1 x2 x3 x4 x5 x6
      go_wp2_with fail
      go_region_held3(λw'=>w'.cell? (ad wr.heap.size 0)=some (.string x.name)∧w'.cell? (ad wr.heap.size 1)=some (.slice B ln lc))
       ((first|(exact⟨aw.o.c (i:=0) rfl,aw.o.c (i:=1) rfl⟩)|(exact⟨(ag.o.below zB).c (i:=0) rfl,(ag.o.below zB).c (i:=1) rfl⟩)))
       (first
        | (go_at_call 122;go_must((first|(with_reducible refine(b7.o _ zB).mono ?_)|(with_reducible refine(V.o _ zB).mono ?_));rintro e u1 ⟨rfl,hv⟩;replace n:=Ag n hv;clear hv))
        | (go_at_call 123;go_must((refine(HM.o _ zB).mono ?_);rintro e w4 ⟨g,rfl,ax,hr,hv⟩;have ay:=zH (zs0 n.size ax);have az:=zH hr;replace n:=Ag n hv;clear ax hr hv))
        | ((refine RN (by rfl) _ _ (by rfl) w1.heap.size k _ _ (by rfl) (Ah HT.o.2.1 (by exact Below.alo n _)) w4.heap.size (by rfl) (⟨x.name,EM x.line (a1,a2) (a3,a4)⟩,some ⟨g,0,none⟩,ln,ln) (by exact Blk.new _ _ _) b3 (by exact zs0 b9 (zs0 au.o.size (zs0 n.size (J0 _ _)))) ?_);intro v5 w5 ba al bb;have aw:=zH (((ag.o.below n).alloc _).grown al b8.o)))
      all_goals
       go_wp2_with fail
       go_roundw
       case rel=>
        refine⟨k+1,by omega,by go_num,Gx.more (g:=g) aj.o HT.o.1 (λt ht=>⟨(HT.o.2.2 t ht).1.below (Below.alo n _),(HT.o.2.2 t ht).2.imp λg hg=>⟨hg.1,hg.2.1,zs1 hg.2.2 (Below.alo n _).size⟩⟩) (az.o.on Aa (zA _)) (λe=>by have:=(av.o _ e).1;have:=ay.o;simp at this;omega) (by have:=ay.o;simp at this;omega) (qW (az.o.on Aa (zA _)) zO) ba al bb,?_⟩;exact Ax (af.o.trans (Ag au.o (Below.alo n _) |>.mono af.o.size)) al (by have:=n.size;simp at this⊢;omega) (λg e=>(av.o g e).2)
       case measure=>exact zM
     obtain rfl:cn=k:=zO;obtain⟨A,c,rfl,hr,hc⟩:=H.done (II.trans y.o.1);have HR:=zH (zu2 hr hc);have P:=Gm A cn c (CO p m) wr (hr _ (Bk.refl _ _)) hc (MB Q.o.edges);have am:=zH (II.trans y.o.1:(CO p m).length=cn);obtain⟨Y,hY⟩:=zG (Aq (CO p m));rw[hY]at P;have HY:=zH hY;have P:=zH P;clear hr hc H a x0 x1 x2 x3 x4 x5 x6 hY;by_cases X:Y=0
     ·subst X;go_wp2_with(go_at_call 121;refine P.o.mono ?_;rintro e w5 ⟨rfl,r⟩;have an:=zH (zT I.o r);have bc:=zH (λW (h:Bk w.heap.size w5 W)=>(show Bk w1.heap.size wr W from⟨zs0 r.size h.1,λi q1 q2=>(h.2 i (zs0 O.o.size q1) (zs1 q2 r.size)).trans (r.block i q2)⟩));clear r)
      go_ret2
      rw[yO f.o ar.o HY.o];refine⟨an.o,A,c,?_,?_,?_⟩
      ·rw[am.o];rfl
      ·rw[am.o];exact λW h=>HR.o.1 W (bc.o W h)
      rw[am.o];exact HR.o.2
     have bg:(Y != 0)=true:=by simpa using X
     have ao:=zH X;clear X;go_wp2_with(go_at_call 121;refine P.o.mono ?_;rintro e w5 ⟨rfl,r⟩;have an:=zH (zT I.o r);clear r)
     go_ret2
     rw[wI f.o ar.o HY.o ao.o];exact⟨an.o,rfl⟩
   have bh:(Z != 0)=true:=by simpa using h0
   have K:Hid (AB p=Z):=by rw[Hid,HG.o,HZ.o]
   have ao:=zH h0;clear h0;go_wp2_with(go_at_call 121;refine M.o.mono ?_;rintro e w1 ⟨rfl,G⟩;have O:=zH (zT z.o G);clear G)
   go_ret2
   rw[N4 f.o K.o ao.o];exact⟨O.o,rfl⟩
 have K:Hid (AB p=1):=PE (by rw[y.o.1,y.o.2];exact a5);have bd:((cn:Int) != (en:Int))=true:=by simp;omega
 go_enter func83,ntmps83;go_wp2_with(go_at_call 120;refine(ap.o _).mono ?_;rintro e w1 ⟨rfl,rfl⟩)
 go_ret2
 rw[N4 f.o K.o zD];exact⟨a0.o,rfl⟩
section
open Go.ChangeShapes Go.WideShapes Go.ChangeAt Go.RowKit
theorem Mt:prog.cellsOf 3=1:=zk
theorem V0:prog.cellsOf 9=1:=zk
theorem cE:prog.cellsOf 4=1:=zk
section
variable{H:Type}{enc:TypeId×Value->H}{W:World}
theorem sD{b a i:Nat}(f:W.cells? 0 ((⟨b,a,none⟩:Addr).add (i*s)) s=some cs)(j:Nat)(g:j<s):W.cell? (ad b (a+i*s+j))=cs[j]?:=by
 obtain⟨_,_,e⟩:=World.cells?_some f;have:=e j g;rw[Go.Deep.add_add,Go.WideShapes.add_plain]at this;rw[<-this];congr 2;omega
theorem lU(j:0<s)(k:W.cells? 0 (a.add (0*s)) s=some cs):∃b e,a=⟨b,e,none⟩∧b<W.heap.size:=by
 obtain⟨_,l,i⟩:=World.cells?_some k;have g:=i 0 j;rw[Go.Deep.add_add,zq0 zO,Nat.zero_mul,Nat.zero_add]at g;obtain⟨b,e,spot⟩:=a;have f:spot=none:=by simpa[Addr.add]using World.cell?_spot g
 subst f;exact⟨b,e,rfl,by simpa[Addr.add]using World.block_lt_of_cell? W _ g⟩
theorem FT[Inhabited α]{G:World->α->List Value->Prop}{S : α->Prop}(g:prog.underlying T=some (.slice E))(I:prog.cellsOf E=s)(J:0<s)
  (y:∀(fuel:Nat)(cs:lV)(x:DataW H×List MemPlace),DataW.trod enc prog W 0 (λ_=>true) true fuel E cs=some x->∃a,G W a cs∧S a)
    {x:DataW H×List MemPlace} (h:DataW.trod enc prog W 0 (λ_=>true) true fuel T cs=some x) :
  ∃A n c xs,cs=[.slice A n c]∧Ab s G W A n xs∧n<=c∧n<=9223372036854775807∧∀x∈xs,S x:=by
 rcases Go.Deep.open_slice g h with⟨f,_⟩|⟨a,len,cap,m,k,D,Pl,f,_,K,L,z,_,hi⟩
 ·exact⟨none,0,0,[],f,Ab.nil _ _ _ _,zs2 _,zs3 _,λx r=>by cases r⟩
 simp only[if_true]at z;rw[I]at hi
 obtain⟨Q,t⟩:=Go.Deep.choose_lt (α:=α) (n:=len) (p:=λi q=>∃cs',W.cells? 0 (a.add (i*s)) s=some cs'∧G W q cs'∧S q) (λi l=>by
  obtain⟨cs',e,M⟩:=hi i zO;obtain⟨q,N,v⟩:=y _ _ _ M;exact⟨q,cs',e,N,v⟩)
 refine⟨some a,len,cap,(List.range len).map Q,f,⟨by simp,λO=>?_⟩,K,by unfold maxLen at L;omega,λx r=>?_⟩;rotate_left
 ·obtain⟨i,hi,rfl⟩:=zr2.1 r;obtain⟨_,_,_,v⟩:=t i (zt8.1 hi);exact v
 obtain⟨cs0,B,_⟩:=t 0 O;obtain⟨b,C,rfl,F⟩:=lU J B;refine⟨b,C,rfl,F,λj q w=>?_⟩;have o:j<len:=by have:=(zq1.1 w).1;simpa using this
 rw[zr5,zt4 o]at w;obtain rfl:Q j=q:=by simpa using w
 obtain⟨cs',e,P,_⟩:=t j o;refine⟨cs',P,λi u g=>?_⟩
 have l:i<s:=by
  have U:=(zq1.1 g).1;obtain⟨_,R,_⟩:=World.cells?_some e;omega
 rw[sD e i l];exact g
theorem Lv{x:DataW H×List MemPlace}(p:DataW.trod enc prog W 0 (λ_=>true) true fuel 23 cs=some x) :
  ∃(A:oA)(n c:Nat)(zs:List Int),cs=[.slice A n c]∧Sl W W.heap.size A n (Ar zs)∧n<=c∧n<=9223372036854775807:=by
 rcases open_ints underlying23 underlying3 Mt p with⟨f,_⟩|⟨a,len',cap',ss,f,_,q,r,s,_,e,t⟩
 ·exact⟨none,0,0,[],f,Sl.none_,zs2 _,zs3 _⟩
 simp only[if_true]at s;refine⟨some a,len',cap',ss.take len',f,⟨?_,λv=>?_⟩,q,by unfold maxLen at r;omega⟩
 ·rw[Tr,zq7];omega
 obtain⟨b,k,spot⟩:=a;have l:=e 0 zO;have i:spot=none:=by simpa[Addr.add]using World.cell?_spot l
 subst i;refine⟨b,k,rfl,?_,λj u m=>?_⟩
 ·have:=World.block_lt_of_cell? W _ l;simpa[Addr.add]using this
 simp only[Ar,zr5,Option.map_eq_some_iff]at m;obtain⟨x,g,rfl⟩:=m;rw[zr8]at g;split at g
 ·have o:=(zq1.1 g).1;have:=e j o;rw[Go.WideShapes.add_plain]at this;rw[this];simp[g]
 cases g
theorem lW{x:DataW H×List MemPlace}(r:DataW.trod enc prog W 0 (λ_=>true) true fuel 22 cs=some x) :
  ∃(A:oA)(n c:Nat)(zs:List ByteArray),cs=[.slice A n c]∧Sl W W.heap.size A n (Hh zs)∧n<=c∧n<=9223372036854775807∧∀z∈zs,z.size<=9223372036854775807:=by
 rcases open_strings underlying22 underlying9 V0 r with⟨f,_⟩|⟨a,len',cap',ss,f,_,s,t,g,_,e,l⟩
 ·exact⟨none,0,0,[],f,Sl.none_,zs2 _,zs3 _,λz g=>by cases g⟩
 simp only[if_true]at g;refine⟨some a,len',cap',ss.take len',f,⟨?_,λv=>?_⟩,s,by unfold maxLen at t;omega,λz g=>by have:=l z (List.mem_of_mem_take g);unfold maxLen at this;exact this⟩
 ·rw[Ts,zq7];omega
 obtain⟨b,m,spot⟩:=a;have o:=e 0 zO;have k:spot=none:=by simpa[Addr.add]using World.cell?_spot o
 subst k;refine⟨b,m,rfl,?_,λj u p=>?_⟩
 ·have:=World.block_lt_of_cell? W _ o;simpa[Addr.add]using this
 simp only[Hh,zr5,Option.map_eq_some_iff]at p;obtain⟨x,i,rfl⟩:=p;rw[zr8]at i;split at i
 ·have q:=(zq1.1 i).1;have:=e j q;rw[Go.WideShapes.add_plain]at this;rw[this];simp[i]
 cases i
end
end
section
open Go.ChangeShapes Go.WideShapes Go.ChangeAt Go.RowKit
theorem Tq:prog.cellsOf 23=1:=zk
theorem AaH:prog.cellsOf 22=1:=zk
theorem lX:prog.cellsOf 64=1:=zk
theorem yZ:prog.cellsOf 62=1:=zk
theorem xC:prog.cellsOf 63=1:=zk
theorem xD:prog.cellsOf 24=1:=zk
theorem AaI:prog.cellsOf 25=1:=zk
theorem Aaa:prog.cellsOf 26=1:=zk
theorem Xj:prog.cellsOf 27=1:=zk
instance :Inhabited As:=⟨⟨ByteArray.empty,[]⟩⟩
instance :Inhabited Aw:=⟨⟨ByteArray.empty,[],0,[],[],[],false⟩⟩
instance :Inhabited Dw:=⟨⟨0,0,false⟩⟩
instance :Inhabited Gs:=⟨⟨0,0,0,0,false,0⟩⟩
instance :Inhabited POp:=⟨⟨ByteArray.empty,0,0,[],[]⟩⟩
def ND{α : Type}(_ : α):Prop:=True
section
variable{H:Type}{enc:TypeId×Value->H}{W:World}
theorem lY{x:DataW H×List MemPlace}(h:DataW.trod enc prog W 0 (λ_=>true) true fuel 56 cs=some x):∃p,Ad W p cs∧ND p:=by
 obtain⟨xs,n,_,rfl,b,a,e⟩:=DataW.trod_struct underlying56 h;rw[show prog.cellsOf 56=2 by kernel_rfl]at b
 match cs,xs,b,a with
 | [a0,a1],[y0,y1],_,_=>
  have f:=e 0 _ rfl;have g:=e 1 _ rfl;simp[Mt]at f g;obtain⟨z0,e0,_,r0⟩:=DataW.trod_int underlying3 f;obtain⟨z1,e1,_,r1⟩:=DataW.trod_int underlying3 g;simp at e0 e1;subst e0;subst e1;exact⟨(z0,z1),rfl,trivial⟩
theorem QJ{x:DataW H×List MemPlace}(h:DataW.trod enc prog W 0 (λ_=>true) true fuel 64 cs=some x) :
  ∃(A:oA)(n c:Nat)(xs:lP),cs=[.slice A n c]∧Ab 2 Ad W A n xs∧n<=c∧n<=9223372036854775807∧∀x∈xs,ND x:=
 FT underlying64 zk zO (λ_ _ _ h=>lY h) h
theorem cF{x:DataW H×List MemPlace}(h:DataW.trod enc prog W 0 (λ_=>true) true fuel 279 cs=some x):∃p,Ad W p cs∧ND p:=by
 obtain⟨xs,n,_,rfl,b,a,e⟩:=DataW.trod_struct underlying279 h;rw[show prog.cellsOf 279=2 by kernel_rfl]at b
 match cs,xs,b,a with
 | [a0,a1],[y0,y1],_,_=>
  have f:=e 0 _ rfl;have g:=e 1 _ rfl;simp[Mt]at f g;obtain⟨z0,e0,_,r0⟩:=DataW.trod_int underlying3 f;obtain⟨z1,e1,_,r1⟩:=DataW.trod_int underlying3 g;simp at e0 e1;subst e0;subst e1;exact⟨(z0,z1),rfl,trivial⟩
theorem V1{x:DataW H×List MemPlace}(h:DataW.trod enc prog W 0 (λ_=>true) true fuel 63 cs=some x) :
  ∃(A:oA)(n c:Nat)(xs:lP),cs=[.slice A n c]∧Ab 2 Ad W A n xs∧n<=c∧n<=9223372036854775807∧∀x∈xs,ND x:=
 FT underlying63 zk zO (λ_ _ _ h=>cF h) h
theorem lZ{x:DataW H×List MemPlace}(h:DataW.trod enc prog W 0 (λ_=>true) true fuel 71 cs=some x):∃p,CQ W p cs∧Zh p:=by
 obtain⟨xs,n,_,rfl,b,a,e⟩:=DataW.trod_struct underlying71 h;rw[show prog.cellsOf 71=2 by kernel_rfl]at b
 match cs,xs,b,a with
 | [a0,a1],[y0,y1],_,_=>
  have f:=e 0 _ rfl;have g:=e 1 _ rfl;simp[V0,lX]at f g;obtain⟨z0,e0,_,m0⟩:=DataW.trod_string underlying9 f;unfold maxLen at m0;obtain⟨A1,n1,c1,z1,e1,g1,l1,m1,k1⟩:=QJ g;simp at e0 e1;subst e0;subst e1;exact⟨⟨z0,z1⟩,⟨A1,n1,c1,rfl,g1,l1⟩,⟨m0,by show z1.length<=9223372036854775807;rw[g1.len];exact m1⟩⟩
theorem cG{x:DataW H×List MemPlace}(h:DataW.trod enc prog W 0 (λ_=>true) true fuel 62 cs=some x) :
  ∃(A:oA)(n c:Nat)(xs:List As),cs=[.slice A n c]∧Ab 2 CQ W A n xs∧n<=c∧n<=9223372036854775807∧∀x∈xs,Zh x:=
 FT underlying62 zk zO (λ_ _ _ h=>lZ h) h
theorem cH{x:DataW H×List MemPlace}(h:DataW.trod enc prog W 0 (λ_=>true) true fuel 66 cs=some x):∃p,K8 W p cs∧PK p:=by
 obtain⟨xs,n,_,rfl,e,b,a⟩:=DataW.trod_struct underlying66 h;rw[show prog.cellsOf 66=7 by kernel_rfl]at e
 match cs,xs,e,b with
 | [a0,a1,a2,a3,a4,a5,a6],[y0,y1,y2,y3,y4,y5,y6],_,_=>
  have f:=a 0 _ rfl;have g:=a 1 _ rfl;have i:=a 2 _ rfl;have j:=a 3 _ rfl;have k:=a 4 _ rfl;have l:=a 5 _ rfl;have m:=a 6 _ rfl;simp[V0,yZ,Mt,xC,lX,Tq,cE]at f g i j k l m;obtain⟨z0,e0,_,m0⟩:=DataW.trod_string underlying9 f;unfold maxLen at m0;obtain⟨A1,n1,c1,z1,e1,g1,l1,m1,k1⟩:=cG g;obtain⟨z2,e2,_,r2⟩:=DataW.trod_int underlying3 i;obtain⟨A3,n3,c3,z3,e3,g3,l3,m3,k3⟩:=V1 j;obtain⟨A4,n4,c4,z4,e4,g4,l4,m4,k4⟩:=QJ k;obtain⟨A5,n5,c5,z5,e5,g5,l5,m5⟩:=Lv l;obtain⟨z6,e6,_⟩:=DataW.trod_bool underlying4 m;simp at e0 e1 e2 e3 e4 e5 e6;subst e0;subst e1;subst e2;subst e3;subst e4;subst e5;subst e6;exact⟨⟨z0,z1,z2,z3,z4,z5,z6⟩,⟨A1,n1,c1,A3,n3,c3,A4,n4,c4,A5,n5,c5,rfl,g1,l1,g3,l3,g4,l4,g5,l5⟩,⟨m0,by show z1.length<=9223372036854775807;rw[g1.len];exact m1,k1,by show z4.length<=9223372036854775807;rw[g4.len];exact m4,by show z5.length<=9223372036854775807;rw[g5.ilen];exact m5,by show z3.length<=9223372036854775807;rw[g3.len];exact m3⟩⟩
theorem Xk{x:DataW H×List MemPlace}(h:DataW.trod enc prog W 0 (λ_=>true) true fuel 24 cs=some x) :
  ∃(A:oA)(n c:Nat)(xs:List Aw),cs=[.slice A n c]∧Ab 7 K8 W A n xs∧n<=c∧n<=9223372036854775807∧∀x∈xs,PK x:=
 FT underlying24 zk zO (λ_ _ _ h=>cH h) h
theorem sE{x:DataW H×List MemPlace}(h:DataW.trod enc prog W 0 (λ_=>true) true fuel 60 cs=some x):∃p,TB W p cs∧ND p:=by
 obtain⟨xs,n,_,rfl,e,a,b⟩:=DataW.trod_struct underlying60 h;rw[show prog.cellsOf 60=3 by kernel_rfl]at e
 match cs,xs,e,a with
 | [a0,a1,a2],[y0,y1,y2],_,_=>
  have f:=b 0 _ rfl;have g:=b 1 _ rfl;have i:=b 2 _ rfl;simp[Mt,cE]at f g i;obtain⟨z0,e0,_,r0⟩:=DataW.trod_int underlying3 f;obtain⟨z1,e1,_,r1⟩:=DataW.trod_int underlying3 g;obtain⟨z2,e2,_⟩:=DataW.trod_bool underlying4 i;simp at e0 e1 e2;subst e0;subst e1;subst e2;exact⟨⟨z0,z1,z2⟩,rfl,trivial⟩
theorem mA{x:DataW H×List MemPlace}(h:DataW.trod enc prog W 0 (λ_=>true) true fuel 25 cs=some x) :
  ∃(A:oA)(n c:Nat)(xs:List Dw),cs=[.slice A n c]∧Ab 3 TB W A n xs∧n<=c∧n<=9223372036854775807∧∀x∈xs,ND x:=
 FT underlying25 zk zO (λ_ _ _ h=>sE h) h
theorem mB{x:DataW H×List MemPlace}(h:DataW.trod enc prog W 0 (λ_=>true) true fuel 133 cs=some x):∃p,Po W p cs∧ND p:=by
 obtain⟨xs,n,_,rfl,e,b,a⟩:=DataW.trod_struct underlying133 h;rw[show prog.cellsOf 133=6 by kernel_rfl]at e
 match cs,xs,e,b with
 | [a0,a1,a2,a3,a4,a5],[y0,y1,y2,y3,y4,y5],_,_=>
  have f:=a 0 _ rfl;have g:=a 1 _ rfl;have i:=a 2 _ rfl;have j:=a 3 _ rfl;have k:=a 4 _ rfl;have l:=a 5 _ rfl;simp[Mt,cE]at f g i j k l;obtain⟨z0,e0,_,r0⟩:=DataW.trod_int underlying3 f;obtain⟨z1,e1,_,r1⟩:=DataW.trod_int underlying3 g;obtain⟨z2,e2,_,r2⟩:=DataW.trod_int underlying3 i;obtain⟨z3,e3,_,r3⟩:=DataW.trod_int underlying3 j;obtain⟨z4,e4,_⟩:=DataW.trod_bool underlying4 k;obtain⟨z5,e5,_,r5⟩:=DataW.trod_int underlying3 l;simp at e0 e1 e2 e3 e4 e5;subst e0;subst e1;subst e2;subst e3;subst e4;subst e5;exact⟨⟨z0,z1,z2,z3,z4,z5⟩,rfl,trivial⟩
theorem cI{x:DataW H×List MemPlace}(h:DataW.trod enc prog W 0 (λ_=>true) true fuel 26 cs=some x) :
  ∃(A:oA)(n c:Nat)(xs:List Gs),cs=[.slice A n c]∧Ab 6 Po W A n xs∧n<=c∧n<=9223372036854775807∧∀x∈xs,ND x:=
 FT underlying26 zk zO (λ_ _ _ h=>mB h) h
theorem xE{x:DataW H×List MemPlace}(h:DataW.trod enc prog W 0 (λ_=>true) true fuel 414 cs=some x):∃p,opG W p cs∧OpS p:=by
 obtain⟨xs,n,_,rfl,e,b,a⟩:=DataW.trod_struct underlying414 h;rw[show prog.cellsOf 414=5 by kernel_rfl]at e
 match cs,xs,e,b with
 | [a0,a1,a2,a3,a4],[y0,y1,y2,y3,y4],_,_=>
  have f:=a 0 _ rfl;have g:=a 1 _ rfl;have i:=a 2 _ rfl;have j:=a 3 _ rfl;have k:=a 4 _ rfl;simp[V0,Mt,Tq]at f g i j k;obtain⟨z0,e0,_,m0⟩:=DataW.trod_string underlying9 f;unfold maxLen at m0;obtain⟨z1,e1,_,r1⟩:=DataW.trod_int underlying3 g;obtain⟨z2,e2,_,r2⟩:=DataW.trod_int underlying3 i;obtain⟨A3,n3,c3,z3,e3,g3,l3,m3⟩:=Lv j;obtain⟨A4,n4,c4,z4,e4,g4,l4,m4⟩:=Lv k;simp at e0 e1 e2 e3 e4;subst e0;subst e1;subst e2;subst e3;subst e4;exact⟨⟨z0,z1,z2,z3,z4⟩,⟨A3,n3,c3,A4,n4,c4,rfl,g3,l3,g4,l4⟩,⟨m0,by show z3.length<=9223372036854775807;rw[g3.ilen];exact m3,by show z4.length<=9223372036854775807;rw[g4.ilen];exact m4⟩⟩
theorem sF{x:DataW H×List MemPlace}(h:DataW.trod enc prog W 0 (λ_=>true) true fuel 27 cs=some x) :
  ∃(A:oA)(n c:Nat)(xs:List POp),cs=[.slice A n c]∧Ab 5 opG W A n xs∧n<=c∧n<=9223372036854775807∧∀x∈xs,OpS x:=
 FT underlying27 zk zO (λ_ _ _ h=>xE h) h
end
end
section
open Go.ChangeShapes Go.WideShapes Go.ChangeAt Go.RowKit
theorem mC:prog.cellsOf 29=7:=zk
theorem Aab:prog.cellsOf 33=4:=zk
theorem AaJ:prog.cellsOf 35=12:=zk
section
variable{H:Type}{enc:TypeId×Value->H}{W:World}
theorem cJ{x:DataW H×List MemPlace}(h:DataW.trod enc prog W 0 (λ_=>true) true fuel 29 cs=some x) :
  ∃(s:Al)(Z:oA)(z zc:Nat)(M:oA)(m mc:Nat)(P:oA)(p pc:Nat)(U:oA)(u uc:Nat)(E:oA)(e ec:Nat)(O:oA)(o oc:Nat),
   cs=[.string s.name,.slice Z z zc,.slice M m mc,.slice P p pc,.slice U u uc,.slice E e ec,.slice O o oc]∧Co W s Z z zc M m mc P p pc U u uc E e ec O o oc∧Dj s:=by
 obtain⟨xs,n,_,rfl,f,b,a⟩:=DataW.trod_struct underlying29 h;rw[mC]at f
 match cs,xs,f,b with
 | [a0,a1,a2,a3,a4,a5,a6],[y0,y1,y2,y3,y4,y5,y6],_,_=>
  have g:=a 0 _ rfl;have i:=a 1 _ rfl;have j:=a 2 _ rfl;have k:=a 3 _ rfl;have l:=a 4 _ rfl;have q:=a 5 _ rfl;have t:=a 6 _ rfl;simp[V0,AaH,Tq,xD,AaI,Aaa,Xj]at g i j k l q t;obtain⟨z0,e0,_,m0⟩:=DataW.trod_string underlying9 g;unfold maxLen at m0;obtain⟨A1,n1,c1,z1,e1,g1,l1,m1,k1⟩:=lW i;obtain⟨A2,n2,c2,z2,e2,g2,l2,m2⟩:=Lv j;obtain⟨A3,n3,c3,z3,e3,g3,l3,m3,k3⟩:=Xk k;obtain⟨A4,n4,c4,z4,e4,g4,l4,m4,k4⟩:=mA l;obtain⟨A5,n5,c5,z5,e5,g5,l5,m5,k5⟩:=cI q;obtain⟨A6,n6,c6,z6,e6,g6,l6,m6,k6⟩:=sF t;simp at e0 e1 e2 e3 e4 e5 e6;subst e0;subst e1;subst e2;subst e3;subst e4;subst e5;subst e6;exact⟨⟨z0,z1,z2,z3,z4,z5,z6⟩,A1,n1,c1,A2,n2,c2,A3,n3,c3,A4,n4,c4,A5,n5,c5,A6,n6,c6,rfl,⟨g1,g2,g3,g4,g5,g6,l1,l2,l3,l4,l5,l6⟩,⟨m0,by show z1.length<=9223372036854775807;rw[g1.slen];exact m1,k1,by show z2.length<=9223372036854775807;rw[g2.ilen];exact m2,by show z3.length<=9223372036854775807;rw[g3.len];exact m3,k3,by show z4.length<=9223372036854775807;rw[g4.len];exact m4,by show z5.length<=9223372036854775807;rw[g5.len];exact m5,by show z6.length<=9223372036854775807;rw[g6.len];exact m6,k6⟩⟩
theorem sG{x:DataW H×List MemPlace}(h:DataW.trod enc prog W 0 (λ_=>true) true fuel 33 cs=some x):∃b:AG,cs=[zi b.length,zi b.width,zi b.rx,zi b.ry]:=by
 obtain⟨xs,n,_,rfl,i,f,g⟩:=DataW.trod_struct underlying33 h;rw[Aab]at i
 match cs,xs,i,f with
 | [a0,a1,a2,a3],[y0,y1,y2],_,_=>
  have j:=g 0 _ rfl;have k:=g 1 _ rfl;have l:=g 2 _ rfl;simp[Mt,show prog.cellsOf 31=2 by kernel_rfl]at j k l;obtain⟨z0,e0,_,_⟩:=DataW.trod_int underlying3 j;obtain⟨z1,e1,_,_⟩:=DataW.trod_int underlying3 k;obtain⟨ys,n2,_,rfl,m,a,e⟩:=DataW.trod_struct underlying31 l
  match ys,a with
  | [u0,u1],_=>
   have g0:=e 0 _ rfl;have g1:=e 1 _ rfl;simp[Mt]at g0 g1;obtain⟨z2,e2,_,_⟩:=DataW.trod_int underlying3 g0;obtain⟨z3,e3,_,_⟩:=DataW.trod_int underlying3 g1;simp at e0 e1 e2 e3;subst e0;subst e1;subst e2;subst e3;exact⟨⟨z0,z1,z2,z3⟩,rfl⟩
theorem mD{x:DataW H×List MemPlace}(h:DataW.trod enc prog W 0 (λ_=>true) true fuel 35 cs=some x) :
  ∃(s:Al)(Z:oA)(z zc:Nat)(M:oA)(m mc:Nat)(P:oA)(p pc:Nat)(U:oA)(u uc:Nat)(E:oA)(e ec:Nat)(O:oA)(o oc:Nat)(b:AG)(Sa:oA)(sn sc:Nat)(zs:List Int),cs=[.string s.name,.slice Z z zc,.slice M m mc,.slice P p pc,.slice U u uc,.slice E e ec,.slice O o oc,zi b.length,zi b.width,zi b.rx,zi b.ry,.slice Sa sn sc]∧Co W s Z z zc M m mc P p pc U u uc E e ec O o oc∧Dj s∧Sl W W.heap.size Sa sn (Ar zs)∧sn<=sc∧sn<=9223372036854775807:=by
 obtain⟨xs,n,_,rfl,g,a,f⟩:=DataW.trod_struct underlying35 h;rw[AaJ]at g
 match cs,xs,g,a with
 | [a0,a1,a2,a3,a4,a5,a6,a7,a8,a9,a10,a11],[y0,y1,y2],_,_=>
  have i:=f 0 _ rfl;have j:=f 1 _ rfl;have k:=f 2 _ rfl;simp[mC,Aab,Tq]at i j k;obtain⟨s,Z,z,zc,M,m,mc,P,p,pc,U,u,uc,E,e,ec,O,o,oc,e0,q,l⟩:=cJ i;obtain⟨b,e1⟩:=sG j;obtain⟨A2,n2,c2,z2,e2,g2,l2,m2⟩:=Lv k;simp at e0 e1 e2;obtain⟨rfl,rfl,rfl,rfl,rfl,rfl,rfl⟩:=e0;obtain⟨rfl,rfl,rfl,rfl⟩:=e1;subst e2;exact⟨s,Z,z,zc,M,m,mc,P,p,pc,U,u,uc,E,e,ec,O,o,oc,b,A2,n2,c2,z2,rfl,q,l,g2,l2,m2⟩
end
section
variable{H:Type}{enc:TypeId×Value->H}{W:World}{r:Reach}{b0:Nat}{v:Value}{d:DataW H}{pl:List MemPlace}
theorem cK(a:Value.okWide prog W r b0 35 v)(h:DataW.Trod enc prog W 0 (λ_=>true) true 35 v d pl) :
  ∃(s:Al)(Z:oA)(z zc:Nat)(M:oA)(m mc:Nat)(P:oA)(p pc:Nat)(U:oA)(u uc:Nat)(E:oA)(e ec:Nat)(O:oA)(o oc:Nat)(b:AG)(Sa:oA)(sn sc:Nat)(zs:List Int),v=.agg #[.string s.name,.slice Z z zc,.slice M m mc,.slice P p pc,.slice U u uc,.slice E e ec,.slice O o oc,zi b.length,zi b.width,zi b.rx,zi b.ry,.slice Sa sn sc]∧Co W s Z z zc M m mc P p pc U u uc E e ec O o oc∧Dj s∧Sl W W.heap.size Sa sn (Ar zs)∧sn<=sc∧sn<=9223372036854775807:=by
 obtain⟨cs,rfl,i⟩:=okWide_struct underlying35 a;obtain⟨fuel,f⟩:=h;obtain⟨s,Z,z,zc,M,m,mc,P,p,pc,U,u,uc,E,e,ec,O,o,oc,b,Sa,sn,sc,zs,q,g⟩:=mD f;refine⟨s,Z,z,zc,M,m,mc,P,p,pc,U,u,uc,E,e,ec,O,o,oc,b,Sa,sn,sc,zs,?_,g⟩;congr 1;obtain⟨l⟩:=cs;simp[Value.cells]at q;simp[q]
end
end
section
open Go.ChangeShapes Go.WideShapes Go.ChangeAt Go.RowKit
theorem own:ownKnob prog.godebug=none:=zk
theorem xF:laidOutB prog=true:=zk
theorem Aac: prog.globalNamed "internal/strconv.uint64pow10" = some 1 := zk
theorem AaR:(prog.globals[1]?).map (·.type)=some 304:=zk
theorem sH:prog.cellsOf 304=20:=zk
theorem sI:prog.cellsOf 256=1:=zk
theorem SW{P:Program}{x:String×DataW Unit}{r:List (String×DataW Unit)}(h:DataW.LaidVars P W (x::r) ps):∃q,DataW.LaidVars P W r q:=by
 obtain⟨g,t,cs,fuel,p,q,_,_,_,_,h,_⟩:=h;exact⟨q,h⟩
theorem sJ{P:Program}{name:String}{rest:List (String×DataW Unit)}
  (m:P.globalNamed name=some g) (b:(P.globals[g]?).map (·.type)=some t) (o:P.underlying t=some (.array n e)) (s:P.underlying e=some (.int k)) (f:P.cellsOf e=1) (i:P.cellsOf t=n)
  (h:DataW.LaidVars P W ((name,Lib.tabData k zs)::rest) ps):Lib.TabIs P W name k zs:=by
 obtain⟨g',t',cs,fuel,p,q,j,l,a,hd,_,_⟩:=h;obtain rfl:=zs6 (m.symm.trans j);obtain rfl:=zs6 (b.symm.trans l);unfold Lib.TabIs;rw[a,<-Lib.cells_of_tab o s f i hd]
def Mu : List (String × DataW Unit) := [("math/bits.deBruijn32tab", Rows.laid_math_bits_deBruijn32tab), ("math/bits.deBruijn64tab", Rows.laid_math_bits_deBruijn64tab), ("internal/strconv.uint64pow10", Rows.laid_internal_strconv_uint64pow10), ("unicode/utf8.acceptRanges", Rows.laid_unicode_utf8_acceptRanges), ("strconv.ErrRange", Rows.laid_strconv_ErrRange), ("strconv.ErrSyntax", Rows.laid_strconv_ErrSyntax), ("unicode/utf8.first", Rows.laid_unicode_utf8_first)]
theorem mE:(Rows.laid_internal_strconv_uint64pow10:DataW Unit)=Lib.tabData .u64 Lib.pow10Tab:=zk
theorem Aad(h:laidMetH prog Mu W)(b:W.ShapedOpen prog):Std W:=by
 have a:∃m,W.cell? (ad 0 0)=some (zi m):=Go.Proofs.cell_of_shapedOpen_int (zero:=#[zi 0]) (t:=3) b (of_decide_eq_true zk) zk rfl zk zk underlying3;have i:laidMet prog Mu W:=h;obtain⟨ps,e,_⟩:=i;unfold Mu at e;obtain⟨q1,j⟩:=SW e;obtain⟨q2,f⟩:=SW j;rw[mE]at f;have g:=sJ Aac AaR underlying304 underlying256 sI sH f;obtain⟨m,a⟩:=a;exact⟨⟨m,a⟩,World.block_lt_of_cell? W _ a,World.block_lt_of_cell? W _ (g.cell Aac 0 zD),g⟩
section
variable{H:Type}{enc:TypeId×Value->H}{W:World}{base:Nat}{r:Reach}
theorem mF(b:ts.all (λt=>prog.readableRec t&&decide (t<prog.types.size))=true){sp:Nat->Bool} :
  ∀{vs:lV}{ds:List (DataW H)}{ps:List MemPlace},DataW.TrodAll enc prog W 0 (λ_=>true) true ts vs ds ps->(∀p∈ps,W.sameAt W' p)->(∀p∈ps,sp p.block=true)->
   DataW.TrodAll enc prog W' 0 sp true ts vs ds ps:=by
 induction ts with
 | nil=>
  intro vs ds ps h _ _;obtain⟨rfl,rfl,rfl⟩:=trodAll_nil h;exact trodAll_mk0
 | cons t ts ih=>
  intro vs ds ps h g f;obtain⟨v,vs',d,ds',p,q,rfl,rfl,rfl,hd,e⟩:=trodAll_cons h;simp only[List.all_cons,Bool.and_eq_true,decide_eq_true_eq]at b;refine trodAll_cons_mk (WideElems.Trod_stays xF b.1.1 b.1.2 hd (λx a=>g x (by simp[a])) (λx a=>f x (by simp[a]))) ?_;exact ih (by simpa using b.2) e (λx a=>g x (by simp[a])) (λx a=>f x (by simp[a]))
theorem sK{s:ChangeSpec}{ds gs:List (DataW H)}
  (y:f.params.toList.all (λt=>prog.readableRec t&&decide (t<prog.types.size))=true) (k:f.resultTypes=#[4]) (a:s.vars=[])
  (l:DataW.Whole enc prog f.params.toList s.vars false W args.toList ds gs before)
  (z:s.fn H ds = { results:=[.lit (.bool true)],args:=ds }) (o:Bw W W') :
  s.post enc prog f false true false false W args (.bool true) W':=by
 have j:∀p∈before,p.block<W.heap.size:=λp m=>l.lt p m
 have n:∀p∈before,(λb=>decide (b<W.heap.size)) p.block=true:=λp m=>by simpa using j p m
 have v:=l;obtain⟨p,q,B,w,rfl,C,D⟩:=l;rw[a]at w;obtain⟨rfl,rfl⟩:=trodVars_none w;have e:s.fn H (ds++[]) = { results:=[.lit (.bool true)],args:=ds }:=by rw[zt3];exact z
 have i:∀x∈p,W.sameAt W' x:=λx g=>o.same (j x (by simp[g]))
 refine⟨ds,[],_,[],p,[],v,?_,?_,?_,?_,λh=>by cases h⟩
 ·rw[e,k];exact trodAll_cons_mk (shut_bool underlying4 _) trodAll_mk0
 ·rw[e];exact mF y B i (λx g=>n x (by simp[g]))
 ·rw[e,a];exact rfl
 exact World.keptBut_mono (λx g=>⟨g,by simpa using g⟩) (o.frame _)
end
end
end Go.Proofs.YteafekbddckemaaGreatDoor
