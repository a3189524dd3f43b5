/- Parts of the proof. -/
import Derived.Test.YteafekbddckemaaGreatDoorH30
set_option maxRecDepth 100000
set_option maxHeartbeats 40000000
namespace Go.Proofs.YteafekbddckemaaGreatDoor
open Tryz Go.RowKit
open Go.Lib hiding intOf
variable{A:oA}{T:TypeId}{a c k n x:Nat}{b:AG}{l:List Nat}{p:Am}{puts:List Am}{q:Rat}{ss:List Ae}{w:World}{xs:lV}{z:Int}
theorem qN(b:AG)(A:oA)(n c:Nat)(ss:List Ae)(P:oA)(m d:Nat)(puts:List Am)(k:Nat)(w:World)(ha:Ab 5 D6 w A n ss)(hp:Ab 5 Hs w P m puts)(hm:m<=1000)(hs:∀s∈ss,s.poly.length<=1000000)(au:∀q∈puts,Q4 q.turn) :
  CP 40 #[.agg #[zi b.length,zi b.width,zi b.rx,zi b.ry],.slice A n c,.slice P m d,zi (k:Int)] w (KD (DM b ss puts k) w):=by
 obtain⟨Q,hQ⟩:=zG (KD (DM b ss puts k) w);rw[hQ];obtain⟨W0,a0⟩:=zG ((w.alloc (.cells #[zi b.length,zi b.width,zi b.rx,zi b.ry] 33)).alloc (.cells #[zi 0,zF,zi 0,zi 0,zi 0] 87));have X1:Blk W0 w.heap.size 33 #[zi b.length,zi b.width,zi b.rx,zi b.ry]:=by rw[<-a0];exact(Blk.new _ _ _).alloc _
 have X2:Blk W0 (w.heap.size+1) 87 #[zi 0,zF,zi 0,zi 0,zi 0]:=by rw[<-a0];exact Blk.new' _ _ _ zP
 have av:Bw w W0:=by rw[<-a0];exact Below.alo (zA _) _
 have H1:=zH (λW (h:Bw W0 W)=>X1.below h);have H2:=zH (λW (h:Bw W0 W)=>X2.below h);have I:=zH (WU b A n c ss P m d puts k ⟨false,0⟩ W0 (ha.on Bz av) (hp.on D7 av) zO hs (.inl rfl) au);have ce:Hid (W0.heap.size=w.heap.size+1+1):=zH (by rw[<-a0];simp);have HB:=zH av;simp only at I;rw[<-a0]at H1 H2 I HB ce;clear a0 X1 X2 av
 cases hpr:DD b ss puts k ⟨false,0⟩with
 | error z=>
  have J:=Sq hpr;have ba:(z != 0)=true:=by simpa using J
  have HQ:Hid (Q=KD (.error z) w):=zH (by rw[<-hQ,U9 hpr]);rw[hpr]at I;clear hQ ha hp hs au hpr J;go_enter func40,ntmps40;go_wp2_with(go_at_call 66;refine I.o.mono ?_;rintro e w1 ⟨M,f⟩;replace f:e=.returned (.tuple #[zn,zn,zi z]):=f;subst f;obtain⟨⟨p0,p1,p2,p3,p4⟩,⟨q0,q1,q2,q3,q4⟩,pl,r0,r1,r2,r3,r4⟩:=Ls (H2.o _ M) (zi 0) (zF) (zi 0) (zi 0) (zi 0);have a1:=zH (zT HB.o M);clear M)
  refine bodyPost_ret (v:=.tuple #[.agg #[zi 0,zF,zi 0,zi 0,zi 0],zi z]) (by simp[results,results40,go_sem,r0,r1,r2,r3,r4]) rfl ?_;rw[HQ.o];exact⟨Hx a1.o zO _ _ _ _ _,rfl⟩
 | ok rp=>
  obtain⟨r0',placed⟩:=rp;obtain⟨ak,⟨r',cf⟩,a2⟩:=Qt hpr;obtain⟨k',s,cg,aw⟩:=M9 cf;have d8:k'=k:=by simp only at cg;omega
  subst d8;have d9:k'<n:=by rw[<-ha.len];exact(zq1.1 aw).1
  have HA:=zH ha;have HP:=zH hp;have ch:=zH hs;have da:=zH au;obtain⟨sb,soff,s',SB,sm,scp,rfl,a3,al,d0,d1,d2,d3,d4,db,du⟩:=J4 ha d9;obtain rfl:s'=s:=by rw[aw]at al;exact(zs6 al).symm
  have HD:=zH (λW (h:Bw w W)=>zu2 ((h.cell (p:=ad sb (soff+k'*5)) a3).trans d0) (zu2 ((h.cell (p:=ad sb (soff+k'*5+1)) a3).trans d1) (zu2 ((h.cell (p:=ad sb (soff+k'*5+2)) a3).trans d2) (zu2 ((h.cell (p:=ad sb (soff+k'*5+3)) a3).trans d3) ((h.cell (p:=ad sb (soff+k'*5+4)) a3).trans d4)))))
  have ax:Hid (Q=KD (match AE ((Cp s'.grain false).map (B8 b ss puts placed k' s'))with
   | .error e=>.error e
   | .ok l=>match Eo (l.filterMap id)with
    | none=>.error 18
    | some x=>.ok x.1) w):=zH (by rw[<-hQ,Ya aw hpr];rfl)
  have a4:=zH (λW=>uB s'.grain false W);have ci:=zH (WW s'.grain false);have bb:=zH (λt (h:t∈Cp s'.grain false)=>Vb h);have dc:=jF s'.grain false
  have am:Hid (placed.length=m∧∀q∈placed,q.length<=1000000):=zH (by
   have h1:=CE a2;have h2:=congrArg List.length h1;rw[zq6,zq6,hp.len]at h2;refine⟨h2.symm,λq C=>?_⟩;have hm:Except.ok q∈placed.map (Except.ok (ε:=Int)):=zr2.2 ⟨q,C,rfl⟩;rw[<-h1]at hm;obtain⟨u,_,hu⟩:=zr2.1 hm;have:=(Ht hu).2.1;omega)
  have bc:1<=b.width∧b.width<=1048576:=by
   unfold BV at ak;simp only[Bool.or_eq_false_iff,decide_eq_false_iff_not]at ak;omega
  have bd:=zH bc;obtain⟨ts,cj⟩:=zG (Cp s'.grain false);rw[cj]at ax a4 ci bb dc;have j1:(0:Int)<=(k':Int):=zO;have j2:(k':Int)<(n:Int):=zO;rw[hpr]at I;clear hQ ha hp hs au hpr ak cf a2 cg aw al d0 d1 d2 d3 d4 db cj bc;go_enter func40,ntmps40
  go_wp2_with(first
   | (go_at_call 66;refine I.o.mono ?_;rintro e w1 ⟨M,f⟩;obtain⟨g1,A1,c1,f,cx,be⟩:=f;subst f;have cy:=zH be;have F:=zH M;have a1:=zH (zT HB.o M);obtain⟨d0,d1,d2,d3,d4⟩:=HD.o _ a1.o;have sl1:=zs1 a3 a1.o.size;clear M cx be)
   | (go_at_call 67;refine(a4.o _).mono ?_;rintro e w2 ⟨AT,cT,rfl,bf,dr,bg⟩;have bh:=zH bf;have bi:=(Below.alo (Below.refl w1.heap.size w1) (.cells #[.map none,zn] 152)).trans (bg.mono zP);have dd:=zH bi;have ay:=zH ((qJ w1).below bg);clear bf bg bi))
  have ck:Hid (∀z,AE (ts.map (B8 b ss puts placed k' s'))=.error z->Q=KD (.error z) w):=zH (λz h=>by rw[ax.o,h])
  have de:Hid (∀l,AE (ts.map (B8 b ss puts placed k' s'))=.ok l->Q=KD (match Eo (l.filterMap id)with
    | none=>.error 18
    | some x=>.ok x.1) w):=zH (λl h=>by rw[ax.o,h])
  have az:=zH (λW (h:Bw w1 W)=>H2.o _ (zT F.o h));have cl:=zH (λW (h:Bw w1 W)=>Ez (H1.o _ (zT F.o h)));have df:=zH (λW (h:Bw w1 W)=>(H1.o _ (zT F.o h)).lt);have H:=zH (λW (h:Bw w1 W)=>zT a1.o h);have dv:Hid (∀W,Bw w2 W->Ab 2 Ji W AT ts.length ts):=zH (λW h=>bh.o.on Kr h);clear d0 d1 d2 d3 d4 sl1 ax H1 H2 I a4 ce HB F
  go_loopw[15,16,17,18,19,21,22,46,47,48,49,50,51,52,53,54,55,56,57,58,59,60,61,62,63,64,65,66,67,68,69,70,71,72,73,74,75,76,77,78,79,80,81,82,83,84,85,86,87,88,89,90,91,92,93,94,95,96,97,98,99,100,101,102,103,104,105,106,107,108,109,110,111,112,113,114,115,116] (λ_ _ _ _ _ _ _ i _ _ _ _ _ _ _ _ _ _ _ _ _ _ _ _ _ _ _ _ _ _ _ _ _ _ _ _ _ _ _ _ _ _ _ _ _ _ _ _ _ _ _ _ _ _ _ _ _ _ _ _ _ _ _ _ _ _ _ _ _ _ _ _ _ _ _ _ _ _ wr=>∃(j:Nat)(done:List (Option AY))(mo:Option Nat)(v:Value),j<=ts.length∧i=zi (j:Int)∧Hid (DT wr w1.heap.size w1.heap.size mo v (AJ [] (done.filterMap id)))∧Hid ((ts.take j).map (B8 b ss puts placed k' s')=done.map Except.ok)∧Hid (Bw w1 wr)∧Hid (Ab 2 Ji wr AT ts.length ts∧(0<ts.length->∀b bj,AT=some ⟨b,bj,none⟩->¬Dq w1.heap.size mo v b))) (λ_ _ _ _ _ _ _ i _ _ _ _ _ _ _ _ _ _ _ _ _ _ _ _ _ _ _ _ _ _ _ _ _ _ _ _ _ _ _ _ _ _ _ _ _ _ _ _ _ _ _ _ _ _ _ _ _ _ _ _ _ _ _ _ _ _ _ _ _ _ _ _ _ _ _ _ _ _ _=>ts.length-(intOf i).toNat)
  case atStart=>exact⟨0,[],none,zn,zs3 _,rfl,ay,zH rfl,dd,zH ⟨bh.o,jG bh.o ay.o.box⟩⟩
  case round=>
   obtain⟨j,done,mo,v,hj,rfl,a5,a6,a7,a8⟩:=hrel;obtain⟨wo,rfl⟩:∃v:World,v=wr:=⟨_,rfl⟩;by_cases dg:j<ts.length
   ·obtain⟨b2,ds,t,rfl,dw,bk,f0,f1⟩:=Vd a8.o.1 dg;have af:=zH bk;have cm:=bb.o t (zq2 bk);have ag:=zH (λW (h:Bw w W)=>FL (sa sb soff) n c ss ⟨(k':Int),t,(0,0)⟩ W (HA.o.on Bz h) ch.o cm);simp only at ag;have a2:Bw wo (wo.alloc (.cells #[.bool t.flip,zi t.quarter] 55)):=zA _;have a9:=zH (zT a7.o a2);have a4:=zH a2;have i1:(0:Int)<=(j:Int):=zO;have i2:(j:Int)<(ts.length:Int):=zO;clear bk a2
    cases hpp:Af ss ⟨(k':Int),t,(0,0)⟩with
    | error z=>
     have J:=Ey hpp;have ba:(z != 0)=true:=by simpa using J
     have HQ:=zH (ck.o z (Ve a6.o af.o (jC hpp)));rw[hpp]at ag;clear hpp J;go_wp2_with(go_at_call 33;refine(ag.o _ (H.o _ a9.o)).mono ?_;rintro e w5 ⟨N,f⟩;replace f:e=.returned (.tuple #[zn,zi z]):=f;subst f;have bl:=zT a9.o N;obtain⟨⟨p0,p1,p2,p3,p4⟩,⟨q0,q1,q2,q3,q4⟩,pl,r0,r1,r2,r3,r4⟩:=Ls (az.o _ bl) (zi 0) (zF) (zi 0) (zi 0) (zi 0);have ah:=zH (H.o _ bl);clear N bl)
     refine bodyPost_ret (v:=.tuple #[.agg #[zi 0,zF,zi 0,zi 0,zi 0],zi z]) (by simp[results,results40,go_sem,r0,r1,r2,r3,r4]) rfl ?_;rw[HQ.o];exact⟨Hx ah.o zO _ _ _ _ _,rfl⟩
    | ok r=>
     rw[hpp]at ag;obtain⟨_,u2,u3,u4⟩:=Ht hpp;obtain⟨x,hx⟩:=Vf u4;have bm:=zH (λW g (h:Ab 2 Ad W (sa g 0) r.length r)=>XD (sa g 0) r.length r.length r W h (zs2 _) zO);unfold J3 at bm;rw[hx]at bm;have dh:=zH (U1 hx);have di:=zH u2;have b0:=zH (λW g (h:Ab 2 Ad W (sa g 0) r.length r) (hb:Bw w1 W)=>qB b s' SB sm scp t (sa g 0) r.length r.length r A1 placed.length c1 placed W h (zs2 _) (zV di.o) (cy.o.on JC hb) (by rw[am.o.1];exact hm) am.o.2 bd.o cm);clear u2 u3 u4
     go_wp2_with(first
      | (go_at_call 33;refine(ag.o _ (H.o _ a9.o)).mono ?_;rintro e w5 ⟨N,f⟩;obtain⟨g5,f,dj,cn⟩:=f;subst f;have ah:=zH (zT a9.o N);have bn:=zH cn;have an:=zH (zT a4.o N);have co:=zH ((Blk.new wo 55 #[.bool t.flip,zi t.quarter]).below N);clear N cn dj)
      | (go_at_call 68;refine(bm.o _ _ bn.o).mono ?_;rintro e w7 ⟨bo,f⟩;replace f:e=.returned (.tuple #[.agg #[zi x.x,zi x.y,zi x.w,zi x.h],zi 0]):=f;subst f;have bp:=Below.alo (Below.refl w7.heap.size w7) (.cells #[zi x.x,zi x.y,zi x.w,zi x.h] 156);have O:=zT bo bp;have B:=zH (zT ah.o O);have b1:=zH (bn.o.on Aa O);have aa:=zH (zT an.o O);have b4:=zH (co.o.below O);have bq:=zH (Blk.new w7 156 #[zi x.x,zi x.y,zi x.w,zi x.h]);clear bo bp O))
     obtain⟨W8,cp⟩:=zG (w7.alloc (.cells #[zi x.x,zi x.y,zi x.w,zi x.h] 156));rw[cp]at B b1 aa b4 bq⊢
     clear cp;have HK:=zH (λW (h:Bw W8 W)=>zu2 (cl.o W (zT B.o h)) (zu2 (HD.o W (H.o _ (zT B.o h))) (AR (b4.o.below h))));have C:=Below.refl W8.heap.size W8
     cases hcp:Fx b s' t r placed with
     | error z=>
      have J:=Sr hcp;have ba:(z != 0)=true:=by simpa using J
      have HQ:=zH (ck.o z (Ve a6.o af.o (jD hpp hx hcp)));rw[hcp]at b0;clear hpp hx hcp J
      go_region_held3(λw'=>(w'.cell? (ad w.heap.size 0)=some (zi b.length)∧w'.cell? (ad w.heap.size 1)=some (zi b.width)∧w'.cell? (ad w.heap.size 2)=some (zi b.rx)∧w'.cell? (ad w.heap.size 3)=some (zi b.ry))∧(w'.cell? (ad sb (soff+k'*5))=some (.slice SB sm scp)∧w'.cell? (ad sb (soff+k'*5+1))=some (zi s'.grain)∧w'.cell? (ad sb (soff+k'*5+2))=some (.bool s'.match_)∧w'.cell? (ad sb (soff+k'*5+3))=some (zi s'.anchor.1)∧w'.cell? (ad sb (soff+k'*5+4))=some (zi s'.anchor.2))∧(w'.cell? (ad wo.heap.size 0)=some (.bool t.flip)∧w'.cell? (ad wo.heap.size 1)=some (zi t.quarter)))
       ((refine HK.o _ ?_;repeat(first|(with_reducible exact zJ)|(with_reducible exact C)|(with_reducible refine Below.drew ?_))))
       ((go_at_call 69;go_must((refine(b0.o _ _ (b1.o.on Aa zB) (by repeat(first|(with_reducible exact B.o)|(with_reducible refine Below.drew ?_)))).mono ?_);rintro e w9 ⟨hv,f⟩;replace f:e=.returned (.tuple #[zn,zi z]):=f;subst f;replace C:=Ag C hv;clear hv)))
      have br:=zT B.o C;obtain⟨⟨p0,p1,p2,p3,p4⟩,⟨q0,q1,q2,q3,q4⟩,pl,r0,r1,r2,r3,r4⟩:=Ls (az.o _ br) (zi 0) (zF) (zi 0) (zi 0) (zi 0);have b5:=zH (H.o _ br);clear C br
      go_wp2_with fail
      refine bodyPost_ret (v:=.tuple #[.agg #[zi 0,zF,zi 0,zi 0,zi 0],zi z]) (by simp[results,results40,go_sem,r0,r1,r2,r3,r4]) rfl ?_;rw[HQ.o];exact⟨Hx b5.o zO _ _ _ _ _,rfl⟩
     | ok l=>
      rw[hcp]at b0;have bt:=zH (jE (b:=b) (ss:=ss) (puts:=puts) (placed:=placed) (k:=k') (s:=s') hpp hx hcp);have dk:=zH (vV bd.o hcp);have dq:=qI (by rw[am.o.1];exact hm) hcp;clear hpp hx hcp
      go_region_held3(λw'=>(w'.cell? (ad w.heap.size 0)=some (zi b.length)∧w'.cell? (ad w.heap.size 1)=some (zi b.width)∧w'.cell? (ad w.heap.size 2)=some (zi b.rx)∧w'.cell? (ad w.heap.size 3)=some (zi b.ry))∧(w'.cell? (ad sb (soff+k'*5))=some (.slice SB sm scp)∧w'.cell? (ad sb (soff+k'*5+1))=some (zi s'.grain)∧w'.cell? (ad sb (soff+k'*5+2))=some (.bool s'.match_)∧w'.cell? (ad sb (soff+k'*5+3))=some (zi s'.anchor.1)∧w'.cell? (ad sb (soff+k'*5+4))=some (zi s'.anchor.2))∧(w'.cell? (ad wo.heap.size 0)=some (.bool t.flip)∧w'.cell? (ad wo.heap.size 1)=some (zi t.quarter)))
       ((refine HK.o _ ?_;repeat(first|(with_reducible exact zJ)|(with_reducible exact C)|(with_reducible refine Below.drew ?_))))
       ((go_at_call 69;go_must((refine(b0.o _ _ (b1.o.on Aa zB) (by repeat(first|(with_reducible exact B.o)|(with_reducible refine Below.drew ?_)))).mono ?_);rintro e w9 ⟨hv,f⟩;obtain⟨A9,c9,f,cq,dx,dl⟩:=f;subst f;replace C:=Ag C hv;have dm:=zH cq;clear hv cq dl)))
      have b5:=zH (zT B.o C);have R:=zH (zT aa.o C);have cr:=zH (b4.o.below C);have dn:=zH (bq.o.below C);clear C HK B aa b4 bq b1 ah an bn co
      go_wp2_with fail
      go_loopw[21,22,89,90,91,92,93,94,95,96,97,98,99,100,101,102,103,104,105,106,107,108,109,110,111,112,113,114,115] (λ_ _ i _ _ _ _ _ _ _ _ _ _ _ _ _ _ _ _ _ _ _ _ _ _ _ _ _ _ wr=>∃q:Nat,q<=l.length∧i=zi (q:Int)∧Hid ((l.take q).find? (λa=>decide (Bh b ss puts ⟨(k':Int),t,a⟩=0))=none)∧Hid (Bw w9 wr)) (λ_ _ i _ _ _ _ _ _ _ _ _ _ _ _ _ _ _ _ _ _ _ _ _ _ _ _ _ _ _=>l.length-(intOf i).toNat)
      case atStart=>exact⟨0,zs3 _,rfl,zH rfl,zH zJ⟩
      case round=>
       obtain⟨q,C,rfl,b6,E⟩:=hrel;have ao:=zH (a5.o.below (zT R.o E.o));have bu:=zH (a8.o.1.on Kr (zT R.o E.o));have S:=zH (zT b5.o E.o);by_cases bv:q<l.length
       ·obtain⟨b3,dt,p,rfl,dy,hp,g0,g1'⟩:=Ap (dm.o.on Aa E.o) bv;have cs:=zH hp;obtain⟨p1,p2,p3,p4⟩:=dk.o p (zq2 hp);obtain⟨x1,x2,x3,x4,x5,x6,x7,x8⟩:=dh.o;have ab:Bw wr ((wr.alloc (.cells #[zi p.1,zi p.2] 56)).alloc (.cells #[zi (k':Int),.bool t.flip,zi t.quarter,zi p.1,zi p.2] 87)):=Below.alo (zA _) _;have ac:=zH (zT S.o ab);have bw:=zH (zT E.o ab);have ai:=zH (λW (h:Bw w W)=>US b (sa sb soff) n c ss P m d puts ⟨(k':Int),t,p⟩ W (HA.o.on Bz h) (HP.o.on D7 h) zO ch.o (bb.o t (zq2 af.o)) da.o);simp only at ai;obtain⟨t0,t1⟩:=AR (cr.o.below E.o);have tl:=(cr.o.below E.o).lt;obtain⟨z0,z1,z2,z3⟩:=cl.o _ S.o;have zl:=df.o _ S.o;have cz:=zH (dn.o.below E.o);have i3:(0:Int)<=(q:Int):=zO;have i4:(q:Int)<(l.length:Int):=zO;have i5:IntKind.i64.wrap (p.1+x.x)=p.1+x.x:=zs5 _ zO;have i6:IntKind.i64.wrap (p.1+x.x+x.w)=p.1+x.x+x.w:=zs5 _ zO;clear hp p1 p2 p3 p4 x1 x2 x3 x4 x5 x6 x7 x8;by_cases T:Bh b ss puts ⟨(k':Int),t,p⟩=0
        ·have bx:Hid (B8 b ss puts placed k' s' t=.ok (some (⟨(k':Int),t,p⟩,p.1+x.x+x.w))):=zH (by rw[bt.o,vX cs.o b6.o (zu1 T)];rfl);have ap:=zH (St a6.o af.o bx.o);have b7:Hid (AJ [] ((done++[some ((⟨(k':Int),t,p⟩,p.1+x.x+x.w):AY)]).filterMap id)=AJ (AJ [] (done.filterMap id)) [(⟨(k':Int),t,p⟩,p.1+x.x+x.w)]):=zH (by rw[List.filterMap_append,O8];rfl)
         have ct:(AJ [] (done.filterMap id)).length<=10000000000:=by
          have h1:=FP [] (done.filterMap id);have h2:=List.length_filterMap_le id done;have h3:=congrArg List.length a6.o;rw[zq6,zq6,zq7]at h3;simp only[List.length_nil]at h1;omega
         obtain⟨K,hK⟩:=zG (AJ [] (done.filterMap id));rw[hK]at ao b7 ct;rw[T]at ai;clear T hK ab
         go_wp2_with(first
          | (go_at_call 70;refine(ai.o _ (H.o _ ac.o)).mono ?_;rintro e w12 ⟨rfl,D⟩;have aq:=zH (zT ac.o D);have ae:=zH ((Below.alo (Below.alo (Below.refl wr.heap.size wr) (.cells #[zi p.1,zi p.2] 56)) (.cells #[zi (k':Int),.bool t.flip,zi t.quarter,zi p.1,zi p.2] 87)).trans (D.mono zQ));obtain⟨y0,y1,y2,y3,y4⟩:=Dm ((Blk.new' (wr.alloc (.cells #[zi p.1,zi p.2] 56)) 87 #[zi (k':Int),.bool t.flip,zi t.quarter,zi p.1,zi p.2] (g:=wr.heap.size+1) zP).below D);obtain⟨v0,v1⟩:=AR (((Blk.new wr 56 #[zi p.1,zi p.2]).alloc (.cells #[zi (k':Int),.bool t.flip,zi t.quarter,zi p.1,zi p.2] 87)).below D);obtain⟨c0,c1,c2,c3⟩:=Ez (cz.o.below ae.o);have b8:=zH (ao.o.below ae.o);have dp:=zH (vW b8.o aq.o.size ct (⟨(k':Int),t,p⟩,p.1+x.x+x.w));have c8:=zH (b8.o.below (zA (.cells #[zi (k':Int),.bool t.flip,zi t.quarter,zi p.1,zi p.2,zi (p.1+x.x+x.w)] 163)));have bz:=zH (aq.o.trans ((zA (.cells #[zi (k':Int),.bool t.flip,zi t.quarter,zi p.1,zi p.2,zi (p.1+x.x+x.w)] 163)).mono aq.o.size));have ca:=zH ((bu.o.on Kr ae.o).on Kr (zA (.cells #[zi (k':Int),.bool t.flip,zi t.quarter,zi p.1,zi p.2,zi (p.1+x.x+x.w)] 163)));have cb:=zH (zs0 (zs0 R.o.size E.o.size) (zs0 ae.o.size (NY w12 (.cells #[zi (k':Int),.bool t.flip,zi t.quarter,zi p.1,zi p.2,zi (p.1+x.x+x.w)] 163))));clear D)
          | (go_at_call 71;refine dp.o.mono ?_;rintro e w14 ⟨rfl,mb14,v14,aj,c4,c5,U⟩;have cc:=zH aj;have V:=zH (aB bz.o U c8.o bz.o.size);have cd:=zH (zu2 (U.recsT ca.o a8.o.2) (λ(h0:0<ts.length) b bj e=>qL (a8.o.2 h0 b bj e) (by obtain⟨b',off',e',d5,_⟩:=a8.o.1.2 h0;rw[e]at e';injection e' with e';injection e' with e1 _;subst e1;exact zs1 d5 cb.o) c4 c5));clear aj c4 c5 U))
         go_roundw
         case rel=>exact⟨j+1,done++[some (⟨(k':Int),t,p⟩,p.1+x.x+x.w)],some mb14,v14,by omega,by go_num,by rw[b7.o];exact cc,ap,V,cd⟩
         case measure=>exact zM
        have d6:Hid ((l.take (q+1)).find? (λa=>decide (Bh b ss puts ⟨(k':Int),t,a⟩=0))=none):=zH (by rw[Ss cs.o b6.o,zu0 T];rfl);obtain⟨z,J⟩:=zG (Bh b ss puts ⟨(k':Int),t,p⟩);rw[J]at ai T;have ba:(z == 0)=false:=by simpa using T
        have cu:=zH bv;clear J T ab;go_wp2_with(go_at_call 70;refine(ai.o _ (H.o _ ac.o)).mono ?_;rintro e w12 ⟨rfl,D⟩;have d7:=zH (zT bw.o D);clear D)
        go_roundw
        case rel=>exact⟨q+1,cu.o,by go_num,d6,d7⟩
        case measure=>
         have:=cu.o;simp[intOf];omega
       obtain rfl:q=l.length:=zO;rw[zq4 (zs2 _)]at b6;have bx:Hid (B8 b ss puts placed k' s' t=.ok none):=zH (by rw[bt.o,b6.o];rfl);have ap:=zH (St a6.o af.o bx.o);have b7:Hid ((done++[(none:Option AY)]).filterMap id=done.filterMap id):=zH (by rw[List.filterMap_append];simp)
       go_wp2_with fail
       go_roundw
       case rel=>exact⟨j+1,done++[none],mo,v,by omega,by go_num,by rw[b7.o];exact ao,ap,S,zH ⟨bu.o,a8.o.2⟩⟩
       case measure=>exact zM
   obtain rfl:j=ts.length:=zO;have X:=a6.o;rw[zq4 (zs2 _)]at X;have c6:=aA (λt e h=>U8 h) X ci.o;have cv:=congrArg List.length X;rw[zq6,zq6]at cv;have Y:=zH (de.o done (by rw[X,GP]));obtain⟨L,hL⟩:=zG (done.filterMap id)
   have dz:L.length<=4:=by
    have h2:=List.length_filterMap_le id done;rw[<-hL];omega
   rw[hL]at Y a5 c6
   have cw:AJ [] L=L:=by
    have:=Va (xs:=L) (l:=[]) (by simpa using c6);simpa using this
   rw[cw]at a5;have ar:=a5.o.row;obtain⟨A7,c7,rfl⟩:=AX ar;have b9:=zH (jB A7 L.length c7 L wo (qM ar rfl) zO);have y1:=a5.o.box.c (i:=1) rfl;have yl:=a5.o.box.lt;clear X c6 cv hL cw ar
   cases hle:Eo L with
   | none=>
    rw[hle]at b9 Y;have HQ:Hid (Q=KD (.error 18) w):=Y;clear hle Y;go_wp2_with(go_at_call 72;refine b9.o.mono ?_;rintro e w13 ⟨f,Z⟩;replace f:e=.returned (.tuple #[.agg #[zi 0,zF,zi 0,zi 0,zi 0,zi 0],zF]):=f;subst f;have G:=Below.alo (zT a7.o Z) (.cells #[zi 0,zF,zi 0,zi 0,zi 0,zi 0] 163);obtain⟨⟨p0,p1,p2,p3,p4⟩,⟨q0,q1,q2,q3,q4⟩,pl,r0,r1,r2,r3,r4⟩:=Ls (az.o _ G) (zi 0) (zF) (zi 0) (zi 0) (zi 0);have V:=zH (H.o _ G);clear Z G)
    refine bodyPost_ret (v:=.tuple #[.agg #[zi 0,zF,zi 0,zi 0,zi 0],zi 18]) (by simp[results,results40,go_sem,r0,r1,r2,r3,r4]) rfl ?_;rw[HQ.o];exact⟨Hx V.o zO _ _ _ _ _,rfl⟩
   | some y=>
    rw[hle]at b9 Y;have HQ:Hid (Q=KD (.ok y.1) w):=Y;clear hle Y;go_wp2_with(go_at_call 72;refine b9.o.mono ?_;rintro e w13 ⟨f,Z⟩;replace f:e=.returned (.tuple #[.agg #[zi y.1.shape,.bool y.1.turn.flip,zi y.1.turn.quarter,zi y.1.at_.1,zi y.1.at_.2,zi y.2],zY]):=f;subst f;have G:=Below.alo (zT a7.o Z) (.cells #[zi y.1.shape,.bool y.1.turn.flip,zi y.1.turn.quarter,zi y.1.at_.1,zi y.1.at_.2,zi y.2] 163);obtain⟨⟨p0,p1,p2,p3,p4⟩,⟨q0,q1,q2,q3,q4⟩,pl,r0,r1,r2,r3,r4⟩:=Ls (az.o _ G) (zi y.1.shape) (.bool y.1.turn.flip) (zi y.1.turn.quarter) (zi y.1.at_.1) (zi y.1.at_.2);have V:=zH (H.o _ G);clear Z G)
    refine bodyPost_ret (v:=.tuple #[.agg #[zi y.1.shape,.bool y.1.turn.flip,zi y.1.turn.quarter,zi y.1.at_.1,zi y.1.at_.2],zi 0]) (by simp[results,results40,go_sem,r0,r1,r2,r3,r4]) rfl ?_;rw[HQ.o];exact⟨Hx V.o zO _ _ _ _ _,rfl⟩
theorem qO(p:Am):(GK p).length=5:=rfl
theorem Vg(p:Am):∀v∈GK p,v.oneCell'=true:=λv a=>by
 simp only[GK,zr3,List.not_mem_nil,or_false]at a;rcases a with rfl|rfl|rfl|rfl|rfl <;> rfl
theorem Vh:(prog.info? 87).map (λi=>(i.zero,i.size,i.bytes))=some (some (.agg #[zi 0,zF,zi 0,zi 0,zi 0]),5,40):=zk
theorem Pc{l:List Am}(h:w.ownsRow a T 5 (.slice A n c) n (l.flatMap GK))(f:l.length=n):Ab 5 Hs w A n l:=by
 obtain⟨A',c',b,e,i⟩:=CJ (G:=Hs) (g:=λx:Am=>x) qO h f (λt _=>rfl);rw[List.map_id']at e;injection b with b _ _
 rw[b];exact e
theorem Rk{size:Nat}(h:w.ownsRow a T size (.slice A n c) n xs):n<=c:=by
 rcases h.2 with⟨e,b⟩|⟨g,cap,cur,e,_,_,f,_⟩
 ·omega
 injection e with _ _ e
 omega
theorem Yc(h:DM b ss puts k=.ok p):Q4 p.turn:=by
 have q:=IC (b:=b) (ss:=ss) (l:=[k]) (puts:=[]) (out:=[p]);unfold DM at h;split at h
 ·cases h
 split at h
 ·cases h
 split at h
 ·cases h
 simp only at h;split at h
 ·cases h
 rename_i l i;split at h
 ·cases h
 rename_i x f;injection h with h
 subst h
 have s:x∈l.filterMap id:=by
  clear q i
  cases hf:l.filterMap id with
  | nil=>rw[hf]at f;cases f
  | cons y r=>
   rw[hf]at f;injection f with f
   rw[<-f];clear f hf
   have:∀(r:List AY)(m:AY),r.foldl (λm y=>if Hn y m=true then y else m) m∈m::r:=λr=>by
    induction r with
    | nil=>intro m;simp
    | cons a r ih=>
     intro m;rw[List.foldl_cons];have:=ih (if Hn a m=true then a else m);rcases zr3.1 this with e|e
     ·rw[e];split <;> simp
     simp[e]
   exact this r y
 obtain⟨d,hd,j⟩:=List.mem_filterMap.1 s;have g:d=some x:=j;subst g;have n:Except.ok (some x)∈l.map (Except.ok (ε:=Int)):=zr2.2 ⟨_,hd,rfl⟩;rw[<-CE i]at n;obtain⟨t,v,o⟩:=zr2.1 n;rw[U8 o];exact Vb v
theorem Su(h:DM b ss puts k=.error z):z≠0:=by
 cases hp:DD b ss puts k ⟨false,0⟩with
 | error y=>
  rw[U9 hp]at h;injection h with h
  rw[<-h];exact Sq hp
 | ok rp=>
  obtain⟨r,placed⟩:=rp;obtain⟨_,⟨r',f⟩,_⟩:=Qt hp;obtain⟨k',s,g,m⟩:=M9 f;have i:k'=k:=by simp only at g;omega
  subst i;rw[Ya m hp]at h;split at h
  ·rename_i e n;injection h with h
   subst h;obtain⟨t,_,a⟩:=zr2.1 (FQ n)
   cases hpp:Af ss ⟨(k':Int),t,(0,0)⟩with
   | error y=>
    rw[jC hpp]at a;injection a with a
    rw[<-a];exact Ey hpp
   | ok r=>
    obtain⟨_,_,_,o⟩:=Ht hpp;obtain⟨x,j⟩:=Vf o
    cases hc:Fx b s t r placed with
    | error y=>
     rw[jD hpp j hc]at a;injection a with a
     rw[<-a];exact Sr hc
    | ok l=>rw[jE hpp j hc]at a;cases a
  split at h
  ·injection h with h
   omega
  cases h
theorem vZ(h:DM b ss puts k=.error z):Ch b ss (k::l) puts=.error z:=by rw[Ch,h]
theorem qP(h:DM b ss puts k=.ok p):Ch b ss (k::l) puts=Ch b ss l (puts++[p]):=by rw[Ch,h]
def Aar(i:Int)(w:World)(e:Ending)(w':World):Prop:=∃(v:Int)(ok:Bool),e=.returned (.tuple #[zi v,.bool ok])∧(ok=true->v=i)∧(i.natAbs<4611686018427387904->ok=true)∧Bw w w'
theorem wD(m:l.length<=2)(i:okL l)(e:l[k]?=some x):bits .or .u64 (val (l.take k):Int) ((x:Int)*2^(32*k))=(val (l.take (k+1)):Int):=by
 have f:∀y∈l,y<4294967296:=λy j=>by have:=i y j;unfold bs at this;omega
 match l,k,e with
 | a::t,0,e=>
  simp only[List.getElem?_cons_zero,Option.some.injEq]at e;subst e;have:=f a zP;rw[show(val (List.take 0 (a::t)):Int)=((0:Nat):Int)by simp[val],show(a:Int)*2^(32*0)=((a:Nat):Int)by simp,u64_or_nat 0 a zO zO];simp[val]
 | a::b::t,1,e=>
  simp only[List.getElem?_cons_succ,List.getElem?_cons_zero,Option.some.injEq]at e;subst e;have n:=f a zP;have o:=f b zP;rw[show(val (List.take 1 (a::b::t)):Int)=((a:Nat):Int)by simp[val],show(b:Int)*2^(32*1)=((b*4294967296:Nat):Int)by simp,u64_or_nat a (b*4294967296) zO zO];have g:=Nat.shiftLeft_add_eq_or_of_lt (show a<2^32 by omega) b;rw[Nat.shiftLeft_eq,Nat.or_comm]at g;rw[show b*4294967296=b*2^32 by rfl,<-g];simp[val,bs];omega
 | a::b :: [],k+2,e=>simp at e
 | [a],k+1,e=>simp at e
 | [],k,e=>simp at e
theorem wE(e:l.length<=2)(b:okL l)(a:l[k]?=some x):bits .or .u64 (val (l.take k):Int) (IntKind.u64.wrap (IntKind.u64.wrap (x:Int)*2^(32*k)))=(val (l.take (k+1)):Int):=by
 have f:=b x (zq2 a);unfold bs at f
 have g:k<2:=by
  have:=(zq1.1 a).1;omega
 rw[<-wD e b a];congr 1;rw[IntKind.wrap_u64,IntKind.wrap_u64];rcases(by omega:k=0∨k=1)with rfl|rfl
 ·simp;omega
 simp;omega
theorem jH(i:Int)(A:oA)(n c:Nat)(w:World)(F:Sl w w.heap.size A n (AC (Aj i.natAbs)))(J:n<=c)(K:n<=1000000) :
  CP 268 #[.agg #[.bool (Ay i),.slice A n c]] w (Aar i w):=by
 have l:Bw w (zw w #[.bool (Ay i),.slice A n c] 215):=zA _;have X0:Blk (zw w #[.bool (Ay i),.slice A n c] 215) w.heap.size 215 #[.bool (Ay i),.slice A n c]:=Blk.new _ _ _;have a:=λW (h:Bw w W)=>AaU (Ay i) A n c i.natAbs W (.of_limbs (F.on h) J) K
 rw[CV]at a;have a:=zH a;clear F;go_enter func268,ntmps268
 go_wp2_with fail
 refine(a.o _ l).mono ?_;rintro e w1 ⟨A1,n1,c1,rfl,z,P,f⟩;have X1:=X0.below f;have B:=NoU.blk X1 zP;have g:=(z.no B 0 (.bool (Ay i))).no (B.set ⟨w.heap.size,0,none⟩ (u:=.bool (Ay i)) zP) 1 (.slice A1 n1 c1);have X2:=(X1.set_ 0 (.bool (Ay i))).set_ 1 (.slice A1 n1 c1);have B2:=((zT l f).setCell (p:=ad w.heap.size 0) (zs2 _) (.bool (Ay i))).setCell (p:=ad w.heap.size 1) (zs2 _) (.slice A1 n1 c1);have x0:=X1.c (i:=0) rfl;have x1:=X1.c (i:=1) rfl;have f0:=X1.frozen 0;have f1:=X1.frozen 1;have L:=z.ulen;clear X0 l f B z X1;by_cases Q:2<n1
 ·have j:4611686018427387904<=i.natAbs:=by
   rcases Nat.lt_or_ge i.natAbs 4611686018427387904 with h|h
   ·have:=JF (m:=i.natAbs) zO;have:n1=nl i.natAbs:=L.symm;omega
   exact h
  obtain⟨W,q⟩:=zG ((w1.setCell (ad w.heap.size 0) (.bool (Ay i))).setCell (ad w.heap.size 1) (.slice A1 n1 c1));rw[q]at g X2 B2;have y0:=X2.c (i:=0) (v:=.bool (Ay i)) rfl;have y1:=X2.c (i:=1) (v:=.slice A1 n1 c1) rfl;have G:((2:Int)<(n1:Int))=True:=by simp;omega
  go_wp2_with fail
  refine bodyPost_ret (v:=.tuple #[zi (0),zF]) (by simp[results,results268,go_sem]) rfl ?_;exact⟨_,_,rfl,λh=>(by cases h),λh=>zO,B2⟩
 obtain⟨W,q⟩:=zG ((w1.setCell (ad w.heap.size 0) (.bool (Ay i))).setCell (ad w.heap.size 1) (.slice A1 n1 c1));rw[q]at g X2 B2;have y0:=X2.c (i:=0) (v:=.bool (Ay i)) rfl;have y1:=X2.c (i:=1) (v:=.slice A1 n1 c1) rfl;have G:((2:Int)<(n1:Int))=False:=by simp;omega
 go_wp2_with fail
 have H:=zH (zu2 g (zu2 X2 B2));have C:(Aj i.natAbs).length=n1:=by simpa[AC]using g.1
 have y:okL (Aj i.natAbs):=AH _;clear g X2 B2 q x0 x1 f0 f1 a
 go_loopw[4,5,6,16,17,18,19,20,21,22,23,24,25,26,27,28] (λmv _ _ s _ _ _ _ _ _ _ _ _ _ _ _ wr=>∃k:Nat,k<=n1∧s=zi (k:Int)∧mv=.int .u64 (val ((Aj i.natAbs).take k):Int)∧wr=W) (λ_ _ _ s _ _ _ _ _ _ _ _ _ _ _ _ _=>n1-(intOf s).toNat)
 case atStart=>exact⟨0,zs3 _,rfl,by simp[val],rfl⟩
 case round=>
  obtain⟨k,X,rfl,rfl,rfl⟩:=hrel;by_cases R:k<n1
  ·have I:k<(Aj i.natAbs).length:=zO;obtain⟨x,D⟩:∃x,(Aj i.natAbs)[k]?=some x:=⟨_,zq0 I⟩;obtain⟨b,S,rfl,T,r⟩:=H.o.1.2 zO;have U:=r k (.int .u32 (x:Int)) (by simp[AC,D]);have V:=y x (zq2 D);obtain⟨i1,i2⟩:=zI (k:=k) (n:=n1) (by omega);have M:=zH (wE zO y D)
   go_wp2_with fail
   go_roundw
   case rel=>exact⟨k+1,by omega,by go_num,by rw[M.o],trivial⟩
   case measure=>exact zM
  obtain rfl:k=n1:=zO;have N:val ((Aj i.natAbs).take k)=i.natAbs:=by rw[<-C,List.take_length,Bc]
  rw[N];obtain⟨m,O⟩:=zG i.natAbs;rw[O];have i1:¬(k:Int)<(k:Int):=zO;have t:=zH H.o.2.2;by_cases E:i<0
  ·obtain rfl:i = -(m:Int):=zO;have hi:Ay (-(m:Int))=true:=by simpa[Ay]using E
   rw[hi]at y0;by_cases j:m<=9223372036854775808
   ·have b1:((m:Int)<=9223372036854775808)=True:=by simp;omega
    have b2:IntKind.i64.wrap (IntKind.u64.wrap (-(m:Int))) = -(m:Int):=by rw[IntKind.wrap_u64,IntKind.wrap_i64];omega
    go_wp2_with fail
    refine bodyPost_ret (v:=.tuple #[zi (-(m:Int)),zY]) (by simp[results,results268,go_sem]) rfl ?_;exact⟨_,_,rfl,λ_=>rfl,λ_=>rfl,t.o⟩
   have b1:((m:Int)<=9223372036854775808)=False:=by simp;omega
   go_wp2_with fail
   refine bodyPost_ret (v:=.tuple #[zi (0),zF]) (by simp[results,results268,go_sem]) rfl ?_;exact⟨_,_,rfl,λh=>(by cases h),λh=>zO,t.o⟩
  obtain rfl:i=(m:Int):=zO;have hi:Ay (m:Int)=false:=by simp[Ay]
  rw[hi]at y0;by_cases j:m<9223372036854775808
  ·have b1:((m:Int)<9223372036854775808)=True:=by simp;omega
   have b2:IntKind.i64.wrap (m:Int)=(m:Int):=by rw[IntKind.wrap_i64];omega
   go_wp2_with fail
   refine bodyPost_ret (v:=.tuple #[zi (m:Int),zY]) (by simp[results,results268,go_sem]) rfl ?_;exact⟨_,_,rfl,λ_=>rfl,λ_=>rfl,t.o⟩
  have b1:((m:Int)<9223372036854775808)=False:=by simp;omega
  go_wp2_with fail
  refine bodyPost_ret (v:=.tuple #[zi (0),zF]) (by simp[results,results268,go_sem]) rfl ?_;exact⟨_,_,rfl,λh=>(by cases h),λh=>zO,t.o⟩
def Aas(z:Int)(w:World)(e:Ending)(w':World):Prop:=∃(v:Int)(ok:Bool),e=.returned (.tuple #[zi v,.bool ok])∧(ok=true->v=z)∧(ok=true↔-1048576<=z∧z<=1048576)∧Bw w w'
theorem qQ(h:Go.Proofs.YteafekbddckemaaGreatDoor.qk q k):nl (BH q).natAbs<=k+2:=by
 have a:(BH q).natAbs=(2*q.num.natAbs+q.den)/(2*q.den):=by
  unfold BH;split
  ·rw[Int.natAbs_neg,Int.natAbs_natCast]
  rw[Int.natAbs_natCast]
 rw[a,Nat.two_mul];have b:=MP (q.num.natAbs+q.num.natAbs+q.den) (2*q.den);have e:=JP (q.num.natAbs+q.num.natAbs) q.den;have f:=JP q.num.natAbs q.num.natAbs;have:=h.1;have:=h.2;omega
theorem Sv(v:Value)(k:Nat)(q:Rat)(w:World)(l:BK w v k q)(p:1<=k)(r:k<=100000) :
  CP 225 #[v] w (Aas (BH q) w):=by
 have a:=l;obtain⟨s,A,n,c,B,m,d,x,y,rfl,_⟩:=l;have b:Bw w (zw w #[.bool s,.slice A n c,.slice B m d] 217):=zA _;have D:=zH (iT _ k q _ (a.on b) p r);have E:=qQ (a.qk p);clear a;go_enter func225,ntmps225
 go_wp2_with(first
  | (go_at_call 269;go_must((refine D.o.mono ?_);rintro e w1 ⟨A1,n1,c1,rfl,i,t,f⟩;have B1:=zT b f;have G:n1<=100002:=(by rw[<-i.ulen];exact zs0 E zO);have F:=zH i;clear i f b))
  | (go_at_call 268;go_must((refine(jH (BH q) A1 n1 c1 _ F.o t zO).mono ?_);rintro e w2 ⟨z,ok,rfl,H,C,g⟩;have j:=zH (zT B1 g);clear g)))
 all_goals first
  | (refine bodyPost_ret (v:=.tuple #[zi (BH q),.bool (decide (BH q<=1048576))]) (by simp[results,results225,go_sem]) rfl ?_;exact⟨_,_,rfl,λ_=>rfl,⟨λh=>⟨by omega,of_decide_eq_true h⟩,λh=>zu1 h.2⟩,j.o⟩)
  | (refine bodyPost_ret (v:=.tuple #[zi (BH q),zF]) (by simp[results,results225,go_sem]) rfl ?_;exact⟨_,_,rfl,λh=>(by cases h),⟨λh=>(by cases h),λh=>zO⟩,j.o⟩)
  | (refine bodyPost_ret (v:=.tuple #[zi z,zF]) (by simp[results,results225,go_sem]) rfl ?_;exact⟨_,_,rfl,λh=>(by cases h),⟨λh=>(by cases h),λh=>absurd (C zO) (by assumption)⟩,j.o⟩)
end Go.Proofs.YteafekbddckemaaGreatDoor
