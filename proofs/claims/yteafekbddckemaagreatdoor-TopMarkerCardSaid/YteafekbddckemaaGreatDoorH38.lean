/- Parts of the proof. -/
import Derived.Test.YteafekbddckemaaGreatDoorH37
set_option maxRecDepth 100000
set_option maxHeartbeats 40000000
namespace Go.Proofs.YteafekbddckemaaGreatDoor
open Go.Proofs.Tryz Go.RowKit
open Go.Lib hiding intOf
variable{C S vs:lP}{G N b1 b2 b4 g i k m n o1 o2 o4:Nat}{T:TypeId}{a0 a1 c0 c1 d0 d1 e0 v v':Value}{d q:Pt}{e:Ending}{each ws:List Int}{l:List As}{p:Addr}{w w' w1 w2:World}{z:Int}
def tB(x:Except Int (List Pt))(w:World)(e:Ending)(w':World):Prop:=Bw w w'∧match x with
 | .ok r=>∃g c,e=.returned (.tuple #[.slice (sa g 0) r.length c,zi 0])∧w.heap.size<=g∧Ab 2 Ad w' (sa g 0) r.length r∧r.length<=c
 | .error z=>e=.returned (.tuple #[zn,zi z])
theorem wQ(h:Dr l ws=.error z):z≠0:=by
 unfold Dr at h;split at h
 ·rename_i a;injection h with h;rw[<-h];exact a
 split at h
 ·injection h with h;omega
 split at h
 ·injection h with h;omega
 cases h
theorem kD(b:∀p∈vs,inG p)(l:3<=vs.length)(m:BZ vs=true)(v:each.length=vs.length)(o:∀z∈each,0<=z∧z<=500)(hd:(Ee vs each)[k]?=some d) : -3000000000000<=d.1∧d.1<=3000000000000∧-3000000000000<=d.2∧d.2<=3000000000000:=by
 have e:k<vs.length:=by have:=(zq1.1 hd).1;rwa[Fc]at this
 rw[Nv e]at hd;obtain rfl:=zs6 hd;have gp:=b _ (EL (p:=vs) zO k);have gq:=b _ (EL (p:=vs) zO (k+1))
 have f:vtx vs k≠vtx vs (k+1):=λh=>by
  have:=Vp (p:=vs) e l h;rw[m]at this
  cases this
 obtain⟨sn,sr,g,q,i,r,s⟩:=SF gp gq f
 have t:each[k]?=some (each.getD k 0):=by
  rw[zq3,zq0 zO];rfl
 have zb:=o _ (zq2 t);have j:=Qx (AQ vs);unfold MT;rw[g,Int.toNat_natCast,i];simp only;obtain⟨sw,a⟩:=zG (Bb (AQ vs)*each.getD k 0);rw[a];have swb : -500<=sw∧sw<=500:=by rcases j with h|h|h <;> rw[h]at a <;> omega
 obtain⟨p1,p2,p3,p4⟩:=gp;obtain⟨q1,q2,q3,q4⟩:=gq;have b1:=Io sw ((vtx vs (k+1)).2-(vtx vs k).2) 500 2097152 zO zO;have b2:=Io (-sw) ((vtx vs (k+1)).1-(vtx vs k).1) 500 2097152 zO zO;have r1:=Ml (x:=sw*((vtx vs (k+1)).2-(vtx vs k).2)) (n:=(sr:Int)) zO zO zO;have r2:=Ml (x:=-sw*((vtx vs (k+1)).1-(vtx vs k).1)) (n:=(sr:Int)) zO zO zO;exact⟨r1.1,r1.2,r2.1,r2.2⟩
theorem Pe{p:Pt}(a:vs[k]?=some p):vtx vs k=p:=by
 have b:=(zq1.1 a).1;have:=Ew (p:=vs) (i:=k) b;rw[a]at this;exact(zs6 this).symm
theorem rF(a:i%vs.length=m)(b:vs[m]?=some q):vtx vs i=q:=by
 rw[<-EZ (p:=vs) i,a];exact Pe b
theorem yQ(a:S.length=N)(h:sY (.ok S) w e w'):Bw w w'∧∃A c,e=.returned (.tuple #[.slice A N c,zi 0])∧Ab 2 Ad w' A N S∧N<=c:=by
 subst a;exact h
theorem yR(a:S.length=N)(h:sW (.ok S) w e w'):Bw w w'∧∃A c,e=.returned (.tuple #[.slice A N c,zi 0])∧Ab 2 Ad w' A N S∧N<=c:=by
 subst a;exact h
theorem yS{S:List Int}(a:S.length=N)(h:sX S w e w'):∃A c,e=.returned (.slice A N c)∧Sl w' w'.heap.size A N (Ar S)∧N<=c∧Bw w w':=by
 subst a;exact h
theorem W6(f:Blk w g T #[d0,d1])(b:b1<w.heap.size)(e:b2<w.heap.size)(i:b4<w.heap.size)(k0:zL w b1 o1 a0)(k1:zL w b1 (o1+1) a1)(k2:zL w b2 o2 c0)(k3:zL w b2 (o2+1) c1)(k4:zL w b4 o4 e0)(a:Bw w w') :
  (zL w' b1 o1 a0∧zL w' b1 (o1+1) a1)∧(zL w' b2 o2 c0∧zL w' b2 (o2+1) c1)∧(zL w' g 0 d0∧zL w' g 1 d1)∧zL w' b4 o4 e0:=
 ⟨⟨(a.cell (p:=ad b1 o1) b).trans k0,(a.cell (p:=ad b1 (o1+1)) b).trans k1⟩,⟨(a.cell (p:=ad b2 o2) e).trans k2,(a.cell (p:=ad b2 (o2+1)) e).trans k3⟩,AaV (f.below a),(a.cell (p:=ad b4 o4) i).trans k4⟩
theorem VD{s:Nat}{x0 x1 x2 x3 x4 y0 y1 y2 y3 y4:Value}(b:Blk w g T #[d0,d1])(e:s<w.heap.size)(k0:zL w s o1 x0)(k1:zL w s (o1+1) x1)(k2:zL w s (o1+2) x2)(k3:zL w s (o1+3) x3)(k4:zL w s (o1+4) x4)(m0:zL w s o2 y0)(m1:zL w s (o2+1) y1)(m2:zL w s (o2+2) y2)(m3:zL w s (o2+3) y3)(m4:zL w s (o2+4) y4)(a:Bw w w') :
  (zL w' g 0 d0∧zL w' g 1 d1)∧(zL w' s o1 x0∧zL w' s (o1+1) x1∧zL w' s (o1+2) x2∧zL w' s (o1+3) x3∧zL w' s (o1+4) x4)∧(zL w' s o2 y0∧zL w' s (o2+1) y1∧zL w' s (o2+2) y2∧zL w' s (o2+3) y3∧zL w' s (o2+4) y4):=by
 have k:=λi=>a.cell (p:=ad s i) e
 exact⟨AaV (b.below a),⟨(k _).trans k0,(k _).trans k1,(k _).trans k2,(k _).trans k3,(k _).trans k4⟩,⟨(k _).trans m0,(k _).trans m1,(k _).trans m2,(k _).trans m3,(k _).trans m4⟩⟩
theorem GS(i:Nat)(v0 v1 v2 v3 v4:Value)(a:p.block≠G):(((((w.setCell (ad G i) v0).setCell (ad G (i+1)) v1).setCell (ad G (i+2)) v2).setCell (ad G (i+3)) v3).setCell (ad G (i+4)) v4).cell? p=w.cell? p:=by
 have k:=λ(W:World)(j:Nat)(v:Value)=>World.cell?_setCell_other W ⟨G,j,none⟩ p v (λe=>a (by rw[<-e]))
 rw[k,k,k,k,k]
theorem kE(a:b1≠G)(b:b2≠G)(e:g≠G)(f:b4≠G)(i:Nat)(v0 v1 v2 v3 v4:Value)(h:(zL w b1 o1 a0∧zL w b1 (o1+1) a1)∧(zL w b2 o2 c0∧zL w b2 (o2+1) c1)∧(zL w g 0 d0∧zL w g 1 d1)∧zL w b4 o4 e0) :
  (zL (((((w.setCell (ad G i) v0).setCell (ad G (i+1)) v1).setCell (ad G (i+2)) v2).setCell (ad G (i+3)) v3).setCell (ad G (i+4)) v4) b1 o1 a0∧zL (((((w.setCell (ad G i) v0).setCell (ad G (i+1)) v1).setCell (ad G (i+2)) v2).setCell (ad G (i+3)) v3).setCell (ad G (i+4)) v4) b1 (o1+1) a1)∧(zL (((((w.setCell (ad G i) v0).setCell (ad G (i+1)) v1).setCell (ad G (i+2)) v2).setCell (ad G (i+3)) v3).setCell (ad G (i+4)) v4) b2 o2 c0∧zL (((((w.setCell (ad G i) v0).setCell (ad G (i+1)) v1).setCell (ad G (i+2)) v2).setCell (ad G (i+3)) v3).setCell (ad G (i+4)) v4) b2 (o2+1) c1)∧(zL (((((w.setCell (ad G i) v0).setCell (ad G (i+1)) v1).setCell (ad G (i+2)) v2).setCell (ad G (i+3)) v3).setCell (ad G (i+4)) v4) g 0 d0∧zL (((((w.setCell (ad G i) v0).setCell (ad G (i+1)) v1).setCell (ad G (i+2)) v2).setCell (ad G (i+3)) v3).setCell (ad G (i+4)) v4) g 1 d1)∧zL (((((w.setCell (ad G i) v0).setCell (ad G (i+1)) v1).setCell (ad G (i+2)) v2).setCell (ad G (i+3)) v3).setCell (ad G (i+4)) v4) b4 o4 e0:=by
 obtain⟨⟨k0,k1⟩,⟨k2,k3⟩,⟨k4,k5⟩,k6⟩:=h;exact⟨⟨(GS i _ _ _ _ _ a).trans k0,(GS i _ _ _ _ _ a).trans k1⟩,⟨(GS i _ _ _ _ _ b).trans k2,(GS i _ _ _ _ _ b).trans k3⟩,⟨(GS i _ _ _ _ _ e).trans k4,(GS i _ _ _ _ _ e).trans k5⟩,(GS i _ _ _ _ _ f).trans k6⟩
theorem VE(h:Ab 2 Ad w (sa g 0) n C)(D:g<w.heap.size)(f:v.ownBlock≠some g)(k:Bw w w1)(l:w1.grownBy w2 v.ownBlock)(r:v'.ownBlock=v.ownBlock∨v'.ownBlock=some w1.heap.size):g<w2.heap.size∧v'.ownBlock≠some g∧Ab 2 Ad w2 (sa g 0) n C:=by
 have G:=k.size;have E:=l.size;refine⟨by omega,λe=>?_,h.1,λs=>⟨g,0,rfl,by omega,λj x t=>?_⟩⟩
 ·rcases r with q|q
  ·exact f (q.symm.trans e)
  rw[q]at e;injection e with e
  omega
 obtain⟨b,F,e,m,y⟩:=h.2 s;injection e with e
 injection e with e1 e2
 subst e1;subst e2;obtain⟨vs,z,o⟩:=y j x t;refine⟨vs,z,λi u B=>?_⟩;exact(World.cell?_of_block (a:=⟨g,0+j*2+i,none⟩) (l.block g zO (λe=>f e.symm))).trans ((k.cell (p:=ad g (0+j*2+i)) m).trans (o i u B))
def CK(w:World)(v:Value)(g:Nat)(C:lP):Prop:=g<w.heap.size∧v.ownBlock≠some g∧Ab 2 Ad w (sa g 0) C.length C
theorem CK.on(h:CK w v g C)(a:Bw w w'):CK w' v g C:=⟨zs1 h.1 a.size,h.2.1,h.2.2.on Aa a⟩
theorem wR(h:Ab 2 Ad w (sa g 0) n C)(a:0<n):g<w.heap.size:=by
 obtain⟨b,i,e,f,_⟩:=h.2 a;injection e with e
 injection e with e _
 rw[e];exact f
theorem rG(v:Pt)(x y:CR):0<(By v x y).length:=by
 unfold By;split
 ·simp
 split
 ·simp
 split <;> simp
theorem wS{G:lP}(a:G.length=k+1)(b:G[k]?=some q):G.getLast?=some q:=by
 rw[List.getLast?_eq_getElem?,a];exact b
theorem kF(A:oA)(n c:Nat)(B:oA)(m d:Nat)(l:List As)(ws:List Int)(w:World)(ha:Ab 2 CQ w A n l)(hc:n<=c)(hs:IT l)(hb:Sl w w.heap.size B m (Ar ws))(hm:m<=4611686018427387904) :
  CP 98 #[.slice A n c,.slice B m d] w (tB (DK l ws) w):=by
 have H1:=aH A n c B m d l ws w ha hc hs hb hm
 cases hsm:Dr l ws with
 | error z=>
  rw[hsm]at H1;have hz:=wQ hsm;have f8:(z != 0)=true:=by simpa using hz
  rw[kB hsm];have H1:=zH H1;clear ha hb hsm hz;go_enter func98,ntmps98;go_wp2_with(go_at_call 133;(refine H1.o.mono ?_);rintro e w1 ⟨an,he⟩;replace he:e=.returned (.tuple #[zn,zi z]):=he;subst he;have aw:=zH an;clear an)
  refine bodyPost_ret (v:=.tuple #[zn,zi z]) (by simp[results,results98,go_sem]) rfl ?_;exact⟨aw.o,rfl⟩
 | ok S=>
  obtain⟨h0,c9,d6,hS,hQ⟩:=kC hsm;have d7:DK l ws=Hz (GG (AL l) (CI l ws)) (Bb (AQ (AL l))):=hQ;rw[d7];rw[hsm]at H1;have H2:=λW (h:Bw w W)=>SE A n c l W (ha.on Bq h) hc hs
  rw[Nu h0]at H2;have d8:=Ej h0;have ca:=Vx h0;have bi:=jT l ws;have cb:=sZ (l:=l) c9 d6
  have d9:∀e∈l,2<=e.line.length∧e.line.length<=40:=λe he=>by
   obtain⟨j,hj,rfl⟩:=List.getElem_of_mem he;have:=CB (d8.2.2 j _ (zq0 hj));exact⟨this.2.1,this.1⟩
  have e9:=ha.len;have ea:ws.length=m:=hb.ilen;have H3:=λW (h:Bw w W)=>Vv A n c B m d l ws W (ha.on Bq h) (hb.on h) zO zO d9
  obtain⟨ar,eb,h3⟩:=Fs ca;have cc:=(DN ca).2.2.2;clear hQ d7 hsm d6 d8 ca d9 ha hb c9 h0 e9 ea;generalize AL l=vs at *
  generalize CI l ws=each at *
  obtain⟨N,hN⟩:=zG vs.length;have da:S.length=N:=by rw[hS,Fc,hN]
  have db:Hid (∀(k:Nat)(x:Pt),S[k]?=some x->-3000000000000<=x.1∧x.1<=3000000000000∧-3000000000000<=x.2∧x.2<=3000000000000):=λk x J=>by
   rw[hS]at J;exact kD ar h3 cc bi cb J
  have cd:=zH hS;have H1:=zH (H1.mono λ_ _ h=>yQ da h);have H2:=zH (λW h=>(H2 W h).mono λ_ _ h=>yR hN h);have H3:=zH (λW h=>(H3 W h).mono λ_ _ h=>yS (bi.trans hN) h);have HN:=zH hN;have ec:=zH (bi.trans hN);have dc:=zH cb;have ax:=zH ar;have n40:N<=40:=zO;have n3:3<=N:=zO;have ed:=λW=>jX N zO W
  clear hS da bi cb ar hN eb h3 cc;go_enter func98,ntmps98
  go_wp2_with(first
   | (go_at_call 133;go_must((refine H1.o.mono ?_);rintro e w1 ⟨an,A1,c1,rfl,de,f9⟩;have aw:=zH an;have ao:=zH de;clear an de))
   | (go_at_call 134;go_must((refine(H2.o _ aw.o).mono ?_);rintro e w2 ⟨ce,A2,c2,rfl,df,dg⟩;have ay:=zH (zT aw.o ce);have ao:=zH (ao.o.on Aa ce);have U:=zH df;clear ce df))
   | (go_at_call 135;go_must((refine(H3.o _ ay.o).mono ?_);rintro e w4 ⟨A3,c3,rfl,dh,fa,bj⟩;have di:=zH (zT ay.o bj);have ao:=zH (ao.o.on Aa bj);have U:=zH (U.o.on Aa bj);have dj:=zH dh;clear bj dh)))
  clear ed;have dk:=zH (rE w4 N (Gl vs each))
  go_loopw[12,13,48,49,50,51,52,53,54,55,56,57,58,59,60,61,62,63,64,65,66,67,68,69,70,71,72,73,74,75,76] (λ_ _ i _ _ _ _ _ _ _ _ _ _ _ _ _ _ _ _ _ _ _ _ _ _ _ _ _ _ _ _ wq=>∃k:Nat,k<=N∧i=zi (k:Int)∧Hid (Iq wq w4.heap.size N (Gl vs each) k∧Bw w4 wq)) (λ_ _ i _ _ _ _ _ _ _ _ _ _ _ _ _ _ _ _ _ _ _ _ _ _ _ _ _ _ _ _ _=>N-(intOf i).toNat)
  case atStart=>exact⟨0,zs3 _,rfl,dk.o,zA _⟩
  case round=>
   obtain⟨k,hk,rfl,HQ⟩:=hrel;by_cases V:k<N
   ·obtain⟨mm,a2⟩:=zG ((k+1)%N);have lm:mm<N:=by rw[<-a2];exact Nat.mod_lt _ zO
    obtain⟨b1,ez,x,rfl,au,J,e0,e1⟩:=Ap ao.o V;obtain⟨b2,Q,p,rfl,K,hp,c0,c1⟩:=Ap U.o V;obtain⟨b2',off2',q,f,_,L,c2,c3⟩:=Ap U.o lm;injection f with f
    injection f with e1' e2'
    subst e1';subst e2';obtain⟨b4,cf,y,rfl,az,hy,cz⟩:=Qy dj.o V;have n2:b2≠w4.heap.size:=zO;have n4:b4≠w4.heap.size:=zO;have kk:=λ(b i:Nat)(h:b<w4.heap.size)=>HQ.o.2.cell (p:=ad b i) h
    replace e0:=(kk _ _ au).trans e0;replace e1:=(kk _ _ au).trans e1;replace c0:=(kk _ _ K).trans c0;replace c1:=(kk _ _ K).trans c1;replace c2:=(kk _ _ K).trans c2;replace c3:=(kk _ _ K).trans c3;replace cz:=(kk _ _ az).trans cz;replace au:=zs1 au HQ.o.2.size;replace K:=zs1 K HQ.o.2.size;replace az:=zs1 az HQ.o.2.size;have n3:wr.heap.size≠w4.heap.size:=by have:=HQ.o.1.lt;omega
    have gp:=ax.o p (zq2 hp);have gq:=ax.o q (zq2 L);have gx:=db.o k x J;have yb:=dc.o y (zq2 hy)
    have ee:Hid ((Gl vs each)[k]?=some ⟨(p.1+x.1,p.2+x.2),(q.1+x.1,q.2+x.2),y⟩):=by
     have h:=SH (vs:=vs) (each:=each) (i:=k) (d:=x) (by rw[HN.o];exact V) (by rw[<-cd.o];exact J);rw[Pe hp,rF (i:=k+1) (by rw[HN.o];exact a2) L,zq3,hy,Option.getD_some]at h;exact h
    unfold inG at gp gq;have ef:=zH (λW=>Pd p x W zO zO);have eg:=zH (λW=>Pd q x W zO zO);have I:Bw wr (wr.alloc (.cells #[zi x.1,zi x.2] 56)):=zA _;have X13:=Blk.new wr 56 #[zi x.1,zi x.2];have b0:=I.size;have HK:=λw'=>zH (λhb=>W6 (w':=w') X13 (zs1 K b0) (zs1 K b0) (zs1 az b0) ((I.cell (p:=ad b2 (Q+k*2)) K).trans c0) ((I.cell (p:=ad b2 (Q+k*2+1)) K).trans c1) ((I.cell (p:=ad b2 (Q+mm*2)) K).trans c2) ((I.cell (p:=ad b2 (Q+mm*2+1)) K).trans c3) ((I.cell (p:=ad b4 (cf+k)) az).trans cz) hb)
    have dl:=zH (HQ.o.1.below I);have ap:=zH (HQ.o.2.trans (I.mono HQ.o.2.size));have fb:w4.heap.size<(wr.alloc (.cells #[zi x.1,zi x.2] 56)).heap.size:=dl.o.lt;obtain⟨i1,i2⟩:=zI (k:=k) (n:=N) (by omega);have i3:IntKind.i64.wrap ((k:Int)+1)=(k:Int)+1:=zs5 _ zO;have i4:((k:Int)+1).tmod (N:Int)=(mm:Int):=by rw[<-a2];rfl
    have i5:¬(N:Int)=0:=zO;have i5':(N:Int)≠0:=zO;have i5'':¬N=0:=zO;obtain⟨i6,i7⟩:=zI (k:=mm) (n:=N) (by omega);have i8:IntKind.i64.wrap (mm:Int)=(mm:Int):=zs5 _ zO;have i9:(0:Int)<=(k:Int)+1:=zO;have i10:(k:Int)+1<=1000:=zO;have i11:(1:Int)<=(N:Int):=zO;have i12:(N:Int)<=1000:=zO;clear J hp L hy gp gq gx yb X13 a2 c0 c1 c2 c3 cz kk
    go_wp2_with fail
    generalize cg:wr.alloc (.cells #[zi x.1,zi x.2] 56)=W0 at *
    clear cg;have L:=Below.refl W0.heap.size W0
    go_region_held3(λw'=>(w'.cell? (ad b2 (Q+k*2))=some (zi p.1)∧w'.cell? (ad b2 (Q+k*2+1))=some (zi p.2))∧(w'.cell? (ad b2 (Q+mm*2))=some (zi q.1)∧w'.cell? (ad b2 (Q+mm*2+1))=some (zi q.2))∧(w'.cell? (ad wr.heap.size 0)=some (zi x.1)∧w'.cell? (ad wr.heap.size 1)=some (zi x.2))∧w'.cell? (ad b4 (cf+k))=some (zi y))
     ((first|(with_reducible exact eh.o)|(refine(HK _).out ?_;repeat(first|(with_reducible exact zJ)|(with_reducible exact L)|(with_reducible refine Below.drew ?_)))))
     (first
      | (go_at_call_of 136 (Value.agg #[zi p.1,zi p.2]);(with_reducible refine(ef.o _).mono ?_);rintro e u1 ⟨rfl,hv⟩;replace L:=Ag L hv;clear hv)
      | (go_at_call_of 136 (Value.agg #[zi q.1,zi q.2]);(with_reducible refine(eg.o _).mono ?_);rintro e u2 ⟨rfl,hv⟩;replace L:=Ag L hv;clear hv;have bk:=dl.o.below L;obtain⟨z0,z1,z2,z3,z4,y0,y1,y2,y3,y4,aq⟩:=bk.cells V;have f0:=aq (k*5);have f1:=aq (k*5+1);have f2:=aq (k*5+2);have f3:=aq (k*5+3);have f4:=aq (k*5+4);have fc:=bk.lt;have ei:=zH (rC bk ee.o V);have eh:=zH (kE n2 n2 n3 n4 (k*5) (zi (p.1+x.1)) (zi (p.2+x.2)) (zi (q.1+x.1)) (zi (q.2+x.2)) (zi y) ((HK u2).out L));have ay:=zH (zT ap.o L);clear aq bk))
    go_wp2_with fail
    go_roundw
    case rel=>exact⟨k+1,by omega,by go_num,ei.o,((((ay.o.setCell (p:=ad w4.heap.size (k*5)) (zs2 _) _).setCell (p:=ad w4.heap.size (k*5+1)) (zs2 _) _).setCell (p:=ad w4.heap.size (k*5+2)) (zs2 _) _).setCell (p:=ad w4.heap.size (k*5+3)) (zs2 _) _).setCell (p:=ad w4.heap.size (k*5+4)) (zs2 _) _⟩
    case measure=>exact zM
   obtain rfl:k=N:=zO;obtain⟨SG,ae⟩:=zG (Gl vs each);have ch:SG.length=k:=by rw[<-ae,jY,HN.o]
   obtain⟨w5,rfl⟩:=zE wr
   have ci:Hid (Ab 5 aK w5 (sa w4.heap.size 0) k SG):=by
    have h:=HQ.o.1;rw[ae]at h;exact h.done ch
   have cj:=zH (di.o.trans (HQ.o.2.mono di.o.size));have U:=zH (U.o.on Aa HQ.o.2);have ck:=zH ae;have dm:=zH ch
   have cl:Hid (∀(i:Nat)(x:CR),SG[i]?=some x->inS x.a∧inS x.b∧0<=x.w∧x.w<=1000000):=λi x J=>by
    have hi:i<k:=by have:=(zq1.1 J).1;omega
    obtain⟨dd,hd⟩:∃dd,S[i]?=some dd:=⟨_,zq0 (by rw[cd.o,Fc,HN.o];exact hi)⟩;have h:=SH (vs:=vs) (each:=each) (i:=i) (d:=dd) (by rw[HN.o];exact hi) (by rw[<-cd.o];exact hd);rw[ae,J]at h;obtain rfl:=zs6 h;have g1:=ax.o _ (EL (p:=vs) (by rw[HN.o];omega) i);have g2:=ax.o _ (EL (p:=vs) (by rw[HN.o];omega) (i+1));have g3:=db.o i dd hd
    have hz:each[i]?=some (each.getD i 0):=by
     rw[zq3,zq0 (by rw[ec.o];exact hi)];rfl
    have g4:=dc.o _ (zq2 hz);unfold inG at g1 g2;unfold inS;simp only;omega
   clear ch ae HQ V hk ao dj dk;obtain⟨N,rfl⟩:=zE k
   go_wp2_with fail
   go_loopw[14,15,16,18,79,80,81,82,83,84,85,86,87,88,89,90,91,92,93,94,95,96,97,98,99,100,101,102,103,104,105,106,107,108,109,110,111,112,113,114,115,116,117,118,119,120,121,122] (λv _ _ _ i _ _ _ _ _ _ _ _ _ _ _ _ _ _ _ _ _ _ _ _ _ _ _ _ _ _ _ _ _ _ _ _ _ _ _ _ _ _ _ _ _ _ _ wr=>∃(k:Nat)(A3:oA)(c3:Nat),k<=N∧i=zi (k:Int)∧v=.slice A3 (FA vs SG k).length c3∧Hid (wr.ownsRow w5.heap.size 56 2 (.slice A3 (FA vs SG k).length c3) (FA vs SG k).length ((FA vs SG k).flatMap spC))∧Hid (Bw w5 wr)) (λv _ _ _ i _ _ _ _ _ _ _ _ _ _ _ _ _ _ _ _ _ _ _ _ _ _ _ _ _ _ _ _ _ _ _ _ _ _ _ _ _ _ _ _ _ _ _ _=>N-(intOf i).toNat)
   case atStart=>exact⟨0,none,0,zs3 _,rfl,rfl,zH (by exact World.ownsRow_nil _ _ _ _),zH zJ⟩
   case round=>
    obtain⟨k,A3,c3',hk,rfl,rfl,HO,a3⟩:=hrel;by_cases bl:k<N
    ·obtain⟨mm,a2⟩:=zG ((k+N-1)%N);have lm:mm<N:=by rw[<-a2];exact Nat.mod_lt _ zO
     obtain⟨b2,Q,p,rfl,K,hp,c0,c1⟩:=Ap (U.o.on Aa a3.o) bl;obtain⟨b5,f5,x,f,bm,J,d0,d1,d2,d3,d4⟩:=jW (ci.o.on Vz a3.o) lm;injection f with f
     injection f with e1' e2'
     subst e1';subst e2';obtain⟨b6,f6,y,f,fd,hy,g0,g1,g2,g3,g4⟩:=jW (ci.o.on Vz a3.o) bl;injection f with f
     injection f with e1' e2'
     subst e1';subst e2';have gp:=ax.o p (zq2 hp);have gx:=cl.o _ x J;have gy:=cl.o _ y hy;have bn:=Qz vs SG k;rw[Pe hp,SI dm.o (show(k+vs.length-1)%N=mm by rw[HN.o];exact a2) J,SI dm.o (Nat.mod_eq_of_lt bl) hy]at bn;have ej:=zH (λW=>rB p x y W (by unfold inG at gp;unfold inS;omega) gx.1 gx.2.1 gy.1 gy.2.1 gx.2.2 gy.2.2);have fe:=VA p x y;have ek:=rG p x y;have el:=Nx vs SG k;generalize By p x y=C at *
     obtain⟨F,hF⟩:=zG (FA vs SG k);rw[hF]at bn HO el⊢
     have em:=zH bn;have HF:=zH hF;have I:Bw wr (wr.alloc (.cells #[zi p.1,zi p.2] 56)):=zA _;have X16:=Blk.new wr 56 #[zi p.1,zi p.2];have b0:=I.size;have k1:=λi=>I.cell (p:=ad w4.heap.size i) bm
     have HK:=λw'=>zH (λhb=>VD (w':=w') X16 (zs1 bm b0) ((k1 _).trans d0) ((k1 _).trans d1) ((k1 _).trans d2) ((k1 _).trans d3) ((k1 _).trans d4) ((k1 _).trans g0) ((k1 _).trans g1) ((k1 _).trans g2) ((k1 _).trans g3) ((k1 _).trans g4) hb)
     simp only[Nat.zero_add]at HK;have cm:=zH (Ah HO.o I);have ap:=zH (zT a3.o I);obtain⟨i1,i2⟩:=zI (k:=k) (n:=N) (by omega);have i3:IntKind.i64.wrap ((k:Int)+(N:Int))=(k:Int)+(N:Int):=zs5 _ zO;have i3':IntKind.i64.wrap ((k:Int)+(N:Int)-1)=(k:Int)+(N:Int)-1:=zs5 _ zO
     have i4:((k:Int)+(N:Int)-1).tmod (N:Int)=(mm:Int):=by
      rw[<-a2,show(k:Int)+(N:Int)-1=((k+N-1:Nat):Int)by omega];rfl
     have i5:¬(N:Int)=0:=zO;have i5':(N:Int)≠0:=zO;have i5'':¬N=0:=zO;obtain⟨i6,i7⟩:=zI (k:=mm) (n:=N) (by omega);have i8:IntKind.i64.wrap (mm:Int)=(mm:Int):=zs5 _ zO;have i9:(0:Int)<=(k:Int)+(N:Int)-1:=zO;have i10:(k:Int)+(N:Int)-1<=1000:=zO;have i11:(1:Int)<=(N:Int):=zO;have i12:(N:Int)<=1000:=zO;clear bn hF J hp hy gp gx gy a2 d0 d1 d2 d3 d4 g0 g1 g2 g3 g4 X16 k1
     go_wp2_with fail
     generalize cg:wr.alloc (.cells #[zi p.1,zi p.2] 56)=W0 at *
     clear cg;have L:=Below.refl W0.heap.size W0
     go_region_held3(λw'=>(w'.cell? (ad wr.heap.size 0)=some (zi p.1)∧w'.cell? (ad wr.heap.size 1)=some (zi p.2))∧(w'.cell? (ad w4.heap.size (mm*5))=some (zi x.a.1)∧w'.cell? (ad w4.heap.size (mm*5+1))=some (zi x.a.2)∧w'.cell? (ad w4.heap.size (mm*5+2))=some (zi x.b.1)∧w'.cell? (ad w4.heap.size (mm*5+3))=some (zi x.b.2)∧w'.cell? (ad w4.heap.size (mm*5+4))=some (zi x.w))∧(w'.cell? (ad w4.heap.size (k*5))=some (zi y.a.1)∧w'.cell? (ad w4.heap.size (k*5+1))=some (zi y.a.2)∧w'.cell? (ad w4.heap.size (k*5+2))=some (zi y.b.1)∧w'.cell? (ad w4.heap.size (k*5+3))=some (zi y.b.2)∧w'.cell? (ad w4.heap.size (k*5+4))=some (zi y.w)))
      ((refine(HK _).out ?_;repeat(first|(with_reducible exact zJ)|(with_reducible exact L)|(with_reducible refine Below.drew ?_))))
      ((go_at_call 137;go_must((with_reducible refine(ej.o _).mono ?_);rintro e u1 ⟨gC,rfl,dn,dp,hv⟩;have cn:=zs0 L.size dn;replace L:=Ag L hv;have en:=zH cn;have dq:=zH dp;clear hv dn cn dp)))
     have eo:=zH (Ah cm.o L);have dz:=zH (wR dq.o ek);have e3:=cm;have ep:=zH (zT ap.o L);clear cm ap HK L
     go_wp2_with fail
     go_loopw[14,18,100,101,102,103,104,105,106,107,108,109,110,111,112,113,114,115,116,117,118,119,120,121] (λv _ i _ _ _ _ _ _ _ _ _ _ _ _ _ _ _ _ _ _ _ _ _ wq=>∃(j:Nat)(A4:oA)(c4:Nat),j<=C.length∧i=zi (j:Int)∧v=.slice A4 ((C.take j).foldl Ck F).length c4∧Hid (wq.ownsRow w5.heap.size 56 2 (.slice A4 ((C.take j).foldl Ck F).length c4) ((C.take j).foldl Ck F).length (((C.take j).foldl Ck F).flatMap spC))∧Hid (CK wq (.slice A4 ((C.take j).foldl Ck F).length c4) gC C)∧Hid (Bw w5 wq)) (λv _ i _ _ _ _ _ _ _ _ _ _ _ _ _ _ _ _ _ _ _ _ _ _=>C.length-(intOf i).toNat)
     case atStart=>exact⟨0,A3,c3',zs3 _,rfl,rfl,eo,zH ⟨zs1 dz.o (zs2 _),λe=>by have h1:=(e3.o.lt _ e).2;have h2:=en.o;omega,dq.o⟩,ep⟩
     case round=>
      obtain⟨j,A4,c4,hj,rfl,rfl,co,cp,cq⟩:=hrel
      have dr:((C.take j).foldl Ck F).length<=200:=by
       have:=K0 (C.take j) F;rw[zq7]at this;omega
      by_cases er:j<C.length
      ·obtain⟨bC,offC,q,f,ff,L,f0,f1⟩:=Ap cp.o.2.2 er;injection f with f
       injection f with e1' e2'
       subst e1';subst e2';have bo:=zH (W5 C F L);obtain⟨G,hG⟩:=zG ((C.take j).foldl Ck F);rw[hG]at bo co cp dr⊢
       have I:Bw wr (wr.alloc (.cells #[zi q.1,zi q.2] 56)):=zA _;have X18:=Blk.new wr 56 #[zi q.1,zi q.2];have cr:=zH X18;have b3:=zH (Ah co.o I);have cs:=zH (cp.o.on I);have bp:=zH (zT cq.o I);have D:∀W2:World,Hid (∀o:Obj,Bw W2 (W2.alloc o)):=λ_=>zH (λ_=>zA _)
       have i1:(0:Int)<=(j:Int):=zO;have i2:(j:Int)<(C.length:Int):=zO;have fg:=bp.o.size;obtain⟨x0,x1⟩:=AR X18;clear hG L I X18;simp only[Nat.zero_add]at f0 f1
       go_wp2_with fail
       generalize wr.alloc (.cells #[zi q.1,zi q.2] 56)=W1 at *
       rcases Nat.eq_zero_or_pos G.length with bq|bq
       ·obtain rfl:G=[]:=zt7 bq;have HX:Hid ((C.take (j+1)).foldl Ck F=[]++[q]):=by rw[Hid,bo.o];rfl
        clear bq dr f0 f1;go_quiet (fail)
        have af:=zH (Ah b3.o (BR W1 _ nq));have a4:=zH (cs.o.on (BR W1 _ nq));have H:=zH (Ai bp.o nq);have X2:Blk (W1.drewN nq) wr.heap.size 56 #[zi q.1,zi q.2]:=cr.o;clear x0 x1;generalize W1.drewN nq=W2 at *
        obtain⟨x0,x1⟩:=AR X2;have xl:=X2.lt;have e4:=H.o.size;have D:=D W2;clear X2;go_wp2_with(at_builtin;refine Bt (P:=prog) (by rfl) _ _ 64 (by rfl) w5.heap.size 56 (.agg #[zi 0,zi 0]) 2 16 underlying64 BY rfl zD (.slice A4 0 c4) 0 [] (by rfl) (Ah af.o (D.o _)) ⟨W2.heap.size,0,none⟩ 1 1 (spC q) (by rfl) (by rfl) (FN _ _ _) (DH _) zU zO zQ ?_;intro v7 w7 b7 ag b8;obtain⟨A7,c7,rfl,b9⟩:=Ma (l:=([]:lP)) b7 HX.o;have ct:=zH b9;have cu:=zH (VE a4.o.2.2 a4.o.1 a4.o.2.1 (D.o _) ag b8);have X:=zH (Ax (H.o.trans ((D.o _).mono H.o.size)) ag zQ (λg e=>(af.o.lt g e).1));clear b7 b9 ag b8)
        go_roundw
        case rel=>exact⟨j+1,A7,c7,by omega,by go_num,rfl,ct,cu,X⟩
        case measure=>exact zM
       obtain⟨r,hr⟩:∃r,G.length=r+1:=⟨G.length-1,by omega⟩;obtain⟨g3,rfl,_,_⟩:=GN b3.o bq;obtain⟨bG,offG,u,f,fh,hu,k0,k1⟩:=Ap (DX b3.o rfl) (j:=r) zO;injection f with f
       injection f with e1' e2'
       subst e1';subst e2';simp only[Nat.zero_add]at k0 k1;have br:=wS hr hu;have HR:=zH hr;have bt:IntKind.i64.wrap ((G.length:Int)-1)=(G.length:Int)-1:=zs5 _ zO;have ds:(0:Int)<=(G.length:Int)-1:=zO;have dt:(G.length:Int)-1<(G.length:Int):=zO;have bu:((G.length:Int)-1).toNat=r:=zO;have fi:((G.length:Int) == 0)=false:=by rw[beq_eq_false_iff_ne];omega
       have du:(1:Int)<=(G.length:Int):=zO;have a5:=λW=>CL u q W
       clear hu hr f0 f1;by_cases e:u=q
       ·have HX:Hid ((C.take (j+1)).foldl Ck F=G):=by rw[Hid,bo.o,jZ (by rw[br,e])]
        simp only[zu1 e]at a5;clear e br;go_quiet (fail)
        clear bt bu a5;have af:=zH (Ah b3.o (BR W1 _ nq));have a4:=zH (cs.o.on (BR W1 _ nq));have H:=zH (Ai bp.o nq)
        go_wp2_with fail
        go_roundw
        case rel=>exact⟨j+1,some ⟨g3,0,none⟩,c4,by omega,by go_num,by rw[HX.o],zH (by rw[HX.o];exact af.o),zH (by rw[HX.o];exact a4.o),H⟩
        case measure=>exact zM
       have HX:Hid ((C.take (j+1)).foldl Ck F=G++[q]):=by rw[Hid,bo.o,aN br e]
       simp only[zu0 e]at a5;clear e br;go_quiet (fail)
       clear bt bu a5 k0 k1;have af:=zH (Ah b3.o (BR W1 _ nq));have a4:=zH (cs.o.on (BR W1 _ nq));have H:=zH (Ai bp.o nq);have X2:Blk (W1.drewN nq) wr.heap.size 56 #[zi q.1,zi q.2]:=cr.o;clear x0 x1;generalize W1.drewN nq=W2 at *
       obtain⟨x0,x1⟩:=AR X2;have xl:=X2.lt;have e4:=H.o.size;have D:=D W2;clear X2;go_wp2_with(at_builtin;refine Bt (P:=prog) (by rfl) _ _ 64 (by rfl) w5.heap.size 56 (.agg #[zi 0,zi 0]) 2 16 underlying64 BY rfl zD (.slice (sa g3 0) G.length c4) G.length (G.flatMap spC) (by rfl) (Ah af.o (D.o _)) ⟨W2.heap.size,0,none⟩ 1 1 (spC q) (by rfl) (by rfl) (FN _ _ _) (DH _) zU zO zQ ?_;intro v7 w7 b7 ag b8;obtain⟨A7,c7,rfl,b9⟩:=Ma (l:=G) b7 HX.o;have ct:=zH b9;have cu:=zH (VE a4.o.2.2 a4.o.1 a4.o.2.1 (D.o _) ag b8);have X:=zH (Ax (H.o.trans ((D.o _).mono H.o.size)) ag zQ (λg e=>(af.o.lt g e).1));clear b7 b9 ag b8)
       go_roundw
       case rel=>exact⟨j+1,A7,c7,by omega,by go_num,rfl,ct,cu,X⟩
       case measure=>exact zM
      obtain rfl:j=C.length:=zO;have HE:Hid (FA vs SG (k+1)=(C.take C.length).foldl Ck F):=by rw[Hid,em.o,zq4 (zs2 _)]
      go_wp2_with fail
      go_roundw
      case rel=>exact⟨k+1,A4,c4,by omega,by go_num,by rw[HE.o],zH (by rw[HE.o];exact co.o),cq⟩
      case measure=>exact zM
    obtain rfl:k=N:=zO;obtain⟨r,hr⟩:=zG (FA vs SG k);have fj:r.length<=200:=by have:=Nx vs SG k;rw[hr]at this;omega
    rw[hr]at HO⊢
    have HR:=zH hr;clear hr;have es:=zH (DX HO.o rfl);have fk:r.length<=c3':=XG HO.o;obtain⟨w6,rfl⟩:=zE wr;obtain⟨A6,rfl⟩:=zE A3;obtain⟨c6,rfl⟩:=zE c3';have bv:=zH (zT cj.o a3.o);have U:=zH (U.o.on Aa a3.o);obtain⟨N,rfl⟩:=zE k
    have dv:r.length=0∨∃g3,A6=some ⟨g3,0,none⟩∧w5.heap.size<=g3:=by
     rcases Nat.eq_zero_or_pos r.length with h|h
     ·exact .inl h
     obtain⟨g3,e,ba,_⟩:=GN HO.o h;exact .inr ⟨g3,e,ba⟩
    have et:=zH dv;have f7:=a3.o.size;clear HO a3 hk bl ci dv
    go_wp2_with fail
    go_loopw[14,123,124,125,126,127,128,129,130,131,132,133,134,135,136,137,138,139,140,141,142] (λv _ _ _ _ _ _ _ _ _ _ _ _ _ _ _ _ _ _ _ _ wr=>∃t:Nat,t<=r.length∧v=.slice A6 t c6∧Hid (Fy (r.take t).length (r.take t)=Fy r.length r)∧Hid (Bw w6 wr)) (λv _ _ _ _ _ _ _ _ _ _ _ _ _ _ _ _ _ _ _ _ _=>(match v with | .slice _ n _=>n|_=>0))
    case atStart=>exact⟨r.length,zs2 _,rfl,zH (by rw[zq4 (zs2 _)]),zH zJ⟩
    case round=>
     obtain⟨t,ht,rfl,bb,bw⟩:=hrel;have bc:=(es.o.on Aa bw.o).take ht;have dw:=zH bc;have ah:(r.take t).length=t:=by rw[zq7];omega
     have ai:=zH ah;have fl:(t:Int)<=(c6:Int):=zO;have aj:t<=c6:=zO;by_cases h2:2<=t
     ·obtain⟨b1,o1,p,rfl,an,hp,k0,k1⟩:=Ap bc (j:=t-1) zO;obtain⟨b1',o1',q,f,_,L,k2,k3⟩:=Ap bc (j:=0) zO;injection f with f
      injection f with e1' e2'
      subst e1';subst e2';have ab:(r.take t).getLast?=some p:=by rw[List.getLast?_eq_getElem?,ah];exact hp
      have ac:(r.take t).head?=some q:=by rw[List.head?_eq_getElem?];exact L
      have bt:IntKind.i64.wrap ((t:Int)-1)=(t:Int)-1:=zs5 _ zO;have ds:(0:Int)<=(t:Int)-1:=zO;have dt:(t:Int)-1<(t:Int):=zO;have bu:((t:Int)-1).toNat=t-1:=zO;have du:(1:Int)<=(t:Int):=zO;have cv:(2:Int)<=(t:Int):=zO;have cw:(0:Int)<(t:Int):=zO;have eu:0<t:=zO;have e7:(t:Int)-1<=(c6:Int):=zO;have a5:=λW=>CL p q W
      simp only[Nat.zero_mul,Nat.add_zero]at k2 k3;clear hp L bc;by_cases e:p=q
      ·have e8:Hid (Fy (r.take (t-1)).length (r.take (t-1))=Fy r.length r):=by
        have h:=kA (l:=r.take t) zO (by rw[ab,ac,e]);rw[ah,List.take_take,zt0 zO]at h;rw[Hid,<-bb.o,ah];exact h.symm
       simp only[zu1 e]at a5;clear e ab ac ah
       go_wp2_with fail
       go_quiet (fail)
       clear a5
       go_wp2_with fail
       go_roundw
       case rel=>exact⟨t-1,by omega,by rfl,e8,Ai bw.o _⟩
       case measure=>simp;omega
      have bd:Hid (Fy r.length r=r.take t):=by
       rw[Hid,<-bb.o];exact SJ (λh=>e (zs6 (by rw[<-ab,<-ac];exact h.2)))
      simp only[zu0 e]at a5;clear e ab ac ah
      go_wp2_with fail
      go_quiet (fail)
      clear a5 k0 k1 k2 k3 bt ds dt bu du cv cw eu e7;have a1:=dw.o.on Aa (BR wr _ nq);have ak:=Ai bw.o nq;generalize wr.drewN nq=w7 at *
      have a6:=zH (zT bv.o ak);have bh:=zH (U.o.on Aa ak);obtain⟨T,hT⟩:=zG (r.take t);rw[hT]at a1 bd ai;have be:=zH a1
      have al:Hid (GG vs each=T):=by
       rw[Hid];refine VB ?_ bd.o;rw[ck.o,HN.o];exact HR.o
      clear a1 ak hT bb
      go_wp2_with fail
      go_loopw[20,145,146,147,148,149,150,151,152] (λ_ i _ _ _ _ _ _ _ wr=>∃k:Nat,k<=t∧i=zi (k:Int)∧Hid (∀(j:Nat)(p:Pt),j<k->T[j]?=some p->Cv p 1048576=true)∧Hid (Bw w7 wr)) (λ_ i _ _ _ _ _ _ _ _=>t-(intOf i).toNat)
      case atStart=>exact⟨0,zs3 _,rfl,zH (λj p h=>absurd h zO),zH zJ⟩
      case round=>
       obtain⟨k,hk,rfl,HK,M⟩:=hrel;by_cases V:k<t
       ·obtain⟨b5,o5,p,am,bm,hp,f0,f1⟩:=Ap (be.o.on Aa M.o) V;injection am with am
        injection am with e5 e6
        subst e5;subst e6;have HP:=zH hp;obtain⟨i1,i2⟩:=zI (k:=k) (n:=t) (by omega);have O:Hid (Bw wr (wr.alloc (.cells #[zi p.1,zi p.2] 56))):=zA _;have a7:=zH (λW=>KY p 1048576 W zO);clear hp
        cases hw:Cv p 1048576 with
        | false=>
         simp only[hw]at a7;have HE:=zH (Ye (s:=Bb (AQ vs)) HP.o hw);clear hw;go_wp2_with(go_at_call 138;go_must((refine(a7.o _).mono ?_);rintro e w8 ⟨rfl,Y⟩;have X:=zH (a6.o.trans ((M.o.trans ((zT O.o Y).mono M.o.size)).mono a6.o.size));clear Y))
         refine bodyPost_ret (v:=.tuple #[zn,zi 3]) (by simp[results,results98,go_sem]) rfl ?_;rw[al.o,HE.o];exact⟨X.o,rfl⟩
        | true=>
         simp only[hw]at a7
         have cx:Hid (∀(j:Nat)(p:Pt),j<k+1->T[j]?=some p->Cv p 1048576=true):=λj x hj J=>by
          by_cases e:j=k
          ·subst e;rw[HP.o]at J;obtain rfl:=zs6 J;exact hw
          exact HK.o j x zO J
         clear hw;go_wp2_with(go_at_call 138;go_must((refine(a7.o _).mono ?_);rintro e w8 ⟨rfl,Y⟩;have X:=zH (M.o.trans ((zT O.o Y).mono M.o.size));clear Y))
         go_roundw
         case rel=>exact⟨k+1,by omega,by go_num,cx,X⟩
         case measure=>exact zM
       obtain rfl:k=t:=zO;have a8:=VC (s:=Bb (AQ vs)) (r:=T) (λj x J=>HK.o j x (by have:=(zq1.1 J).1;rw[ai.o]at this;exact this) J);have a9:=zH a8;have R:=be.o.on Aa M.o;have Z:=FJ (sa b1 o1) k c6 T wr R aj zO;have bx:=zH (λW (h:Bw wr W)=>Hy (sa b1 o1) k c6 T W (R.on Aa h) aj zO);have bz:=zH (λW (h:Bw wr W)=>Hy A2 N c2 vs W ((bh.o.on Aa M.o).on Aa h) dg zO);have cy:=zH R;have H:=zH (zT a6.o M.o);have aa:=λh=>(Fs (l:=T) h).2.2
       obtain⟨E,hE⟩:=zG (An T);rw[hE]at Z a9 aa;have Z:=zH Z;clear a8 R hE;by_cases h0:E=0
       ·subst h0;have c5:=aa rfl;rw[ai.o]at c5;obtain⟨s1,dx⟩:=zG (Bb (AQ T));obtain⟨s2,d5⟩:=zG (Bb (AQ vs));rw[dx]at a9 bx;rw[d5]at a9 bz;have dy:=zH d5;clear dx d5 aa;by_cases av:s1=s2
        ·subst av;have HE:Hid (Hz T s1=.ok T):=by rw[Hid,a9.o,if_neg zP,if_neg zP]
         have ev:(s1 != s1)=false:=by simp
         go_wp2_with(first
          | (go_at_call 55;go_must((refine Z.o.mono ?_);rintro e w9 ⟨rfl,a0⟩;have D:=zH a0;clear a0))
          | (go_at_call 139;first
           | ((with_reducible refine(bx.o _ D.o).mono ?_);rintro e wA ⟨rfl,bf⟩;have O:=zH (zT D.o bf);clear bf)
           | ((with_reducible refine(bz.o _ O.o).mono ?_);rintro e wB ⟨rfl,bg⟩;have c8:=zH (zT O.o bg);clear bg)))
         refine bodyPost_ret (v:=.tuple #[.slice (sa b1 o1) k c6,zi 0]) (by simp[results,results98,go_sem]) rfl ?_;rw[al.o,dy.o,HE.o]
         have ew:∃g3,b1=g3∧o1=0∧w.heap.size<=g3:=by
          rcases et.o with h|⟨g3,e,ba⟩
          ·omega
          injection e with e
          injection e with e1 e2
          exact⟨g3,e1,e2,zs0 cj.o.size ba⟩
         obtain⟨g3,rfl,rfl,ba⟩:=ew;have ex:=ai.o;subst ex;exact⟨zT H.o c8.o,b1,c6,rfl,ba,cy.o.on Aa c8.o,aj⟩
        have HE:Hid (Hz T s2=.error 11):=by rw[Hid,a9.o,if_neg zP,if_pos av]
        have ev:(s1 != s2)=true:=by simpa using av
        clear av
        go_wp2_with(first
         | (go_at_call 55;go_must((refine Z.o.mono ?_);rintro e w9 ⟨rfl,a0⟩;have D:=zH a0;clear a0))
         | (go_at_call 139;first
          | ((with_reducible refine(bx.o _ D.o).mono ?_);rintro e wA ⟨rfl,bf⟩;have O:=zH (zT D.o bf);clear bf)
          | ((with_reducible refine(bz.o _ O.o).mono ?_);rintro e wB ⟨rfl,bg⟩;have c8:=zH (zT O.o bg);clear bg)))
        refine bodyPost_ret (v:=.tuple #[zn,zi 11]) (by simp[results,results98,go_sem]) rfl ?_;rw[al.o,dy.o,HE.o];exact⟨zT H.o c8.o,rfl⟩
       have ey:(E != 0)=true:=by simpa using h0
       have HE:Hid (Hz T (Bb (AQ vs))=.error E):=by rw[Hid,a9.o,if_pos h0]
       clear aa h0;go_wp2_with(go_at_call 55;go_must((refine Z.o.mono ?_);rintro e w9 ⟨rfl,a0⟩;have D:=zH a0;clear a0))
       refine bodyPost_ret (v:=.tuple #[zn,zi E]) (by simp[results,results98,go_sem]) rfl ?_;rw[al.o,HE.o];exact⟨zT H.o D.o,rfl⟩
     have bd:Hid (Fy r.length r=r.take t):=by
      rw[Hid,<-bb.o];exact SJ (λh=>by omega)
     have cv:decide ((2:Int)<=(t:Int))=false:=by simp;omega
     have cw:¬(2:Int)<=(t:Int):=zO;clear bc ah
     go_wp2_with fail
     go_quiet (fail)
     clear cv cw;have a1:=dw.o.on Aa (BR wr _ nq);have ak:=Ai bw.o nq;generalize wr.drewN nq=w7 at *
     have a6:=zH (zT bv.o ak);have bh:=zH (U.o.on Aa ak);obtain⟨T,hT⟩:=zG (r.take t);rw[hT]at a1 bd ai;have be:=zH a1
     have al:Hid (GG vs each=T):=by
      rw[Hid];refine VB ?_ bd.o;rw[ck.o,HN.o];exact HR.o
     clear a1 ak hT bb
     go_wp2_with fail
     go_loopw[20,145,146,147,148,149,150,151,152] (λ_ i _ _ _ _ _ _ _ wr=>∃k:Nat,k<=t∧i=zi (k:Int)∧Hid (∀(j:Nat)(p:Pt),j<k->T[j]?=some p->Cv p 1048576=true)∧Hid (Bw w7 wr)) (λ_ i _ _ _ _ _ _ _ _=>t-(intOf i).toNat)
     case atStart=>exact⟨0,zs3 _,rfl,zH (λj p h=>absurd h zO),zH zJ⟩
     case round=>
      obtain⟨k,hk,rfl,HK,M⟩:=hrel;by_cases V:k<t
      ·obtain⟨b5,o5,p,am,bm,hp,f0,f1⟩:=Ap (be.o.on Aa M.o) V;subst am;have HP:=zH hp;obtain⟨i1,i2⟩:=zI (k:=k) (n:=t) (by omega);have O:Hid (Bw wr (wr.alloc (.cells #[zi p.1,zi p.2] 56))):=zA _;have a7:=zH (λW=>KY p 1048576 W zO);clear hp
       cases hw:Cv p 1048576 with
       | false=>
        simp only[hw]at a7;have HE:=zH (Ye (s:=Bb (AQ vs)) HP.o hw);clear hw;go_wp2_with(go_at_call 138;go_must((refine(a7.o _).mono ?_);rintro e w8 ⟨rfl,Y⟩;have X:=zH (a6.o.trans ((M.o.trans ((zT O.o Y).mono M.o.size)).mono a6.o.size));clear Y))
        refine bodyPost_ret (v:=.tuple #[zn,zi 3]) (by simp[results,results98,go_sem]) rfl ?_;rw[al.o,HE.o];exact⟨X.o,rfl⟩
       | true=>
        simp only[hw]at a7
        have cx:Hid (∀(j:Nat)(p:Pt),j<k+1->T[j]?=some p->Cv p 1048576=true):=λj x hj J=>by
         by_cases e:j=k
         ·subst e;rw[HP.o]at J;obtain rfl:=zs6 J;exact hw
         exact HK.o j x zO J
        clear hw;go_wp2_with(go_at_call 138;go_must((refine(a7.o _).mono ?_);rintro e w8 ⟨rfl,Y⟩;have X:=zH (M.o.trans ((zT O.o Y).mono M.o.size));clear Y))
        go_roundw
        case rel=>exact⟨k+1,by omega,by go_num,cx,X⟩
        case measure=>exact zM
      obtain rfl:k=t:=zO;have a8:=VC (s:=Bb (AQ vs)) (r:=T) (λj x J=>HK.o j x (by have:=(zq1.1 J).1;rw[ai.o]at this;exact this) J);have a9:=zH a8;have R:=be.o.on Aa M.o;have Z:=FJ A6 k c6 T wr R aj zO;have bx:=zH (λW (h:Bw wr W)=>Hy A6 k c6 T W (R.on Aa h) aj zO);have bz:=zH (λW (h:Bw wr W)=>Hy A2 N c2 vs W ((bh.o.on Aa M.o).on Aa h) dg zO);have cy:=zH R;have H:=zH (zT a6.o M.o);have aa:=λh=>(Fs (l:=T) h).2.2
      obtain⟨E,hE⟩:=zG (An T);rw[hE]at Z a9 aa;have Z:=zH Z;clear a8 R hE;by_cases h0:E=0
      ·subst h0;have c5:=aa rfl;rw[ai.o]at c5;exact absurd c5 zO
      have ey:(E != 0)=true:=by simpa using h0
      have HE:Hid (Hz T (Bb (AQ vs))=.error E):=by rw[Hid,a9.o,if_pos h0]
      clear aa h0;go_wp2_with(go_at_call 55;go_must((refine Z.o.mono ?_);rintro e w9 ⟨rfl,a0⟩;have D:=zH a0;clear a0))
      refine bodyPost_ret (v:=.tuple #[zn,zi E]) (by simp[results,results98,go_sem]) rfl ?_;rw[al.o,HE.o];exact⟨zT H.o D.o,rfl⟩
end Go.Proofs.YteafekbddckemaaGreatDoor
