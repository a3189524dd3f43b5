/- Parts of the proof. -/
import Derived.Test.YteafekbddckemaaGreatDoorH24
set_option maxRecDepth 100000
set_option maxHeartbeats 40000000
namespace Go.Proofs.YteafekbddckemaaGreatDoor
open Tryz Go.RowKit
open Go.Lib hiding intOf
variable{A:oA}{a b:lP}{c:Nat}{r:PL}{t:List PL}{v:Value}{w w0 w1:World}{z:Int}
section
open Go.Sort
theorem UP(x:PL):∀l:List PL,(Hm x l).length<=l.length+1
 | []=>by simp[Hm]
 | y::l=>by
  unfold Hm;split
  ·simp
  split
  ·simp
  have:=UP x l;simp only[zt5];omega
theorem O7:∀l:List PL,(GO l).length<=l.length
 | []=>by simp[GO]
 | x::l=>by
  have a:=UP x (GO l);have b:=O7 l;show(Hm x (GO l)).length<=_;simp only[zt5];omega
theorem UQ(h:BN a=.error z):Cx a b=.error z:=by unfold Cx;rw[h]
theorem UR{s:lP}(e:BN a=.ok t)(h:BN b=.error z):s=s->Cx a b=.error z:=λ_=>by unfold Cx;rw[e,h]
theorem WQ{rs:List (Value×PL)}{x:Value×PL}{rest:List (Except Int PL)}(a:x.2=r):(Bp rs).map (Except.ok (ε:=Int)) ++ .ok r::rest=(Bp (rs++[x])).map Except.ok++rest:=by
 subst a;simp[Bp]
theorem vC{r:lP}(a:w.ownsRow w1.heap.size 56 2 (.slice A r.length c) r.length (r.flatMap spC))(g:∀k,v.ownBlock=some k->k<w0.heap.size)(l:w0.heap.size<=w1.heap.size)(i:r.length<=1000000):PlO w v.ownBlock (.slice A r.length c,r):=by
 refine⟨A,r.length,c,rfl,DX a rfl,Lo a,i,λb j e=>?_⟩;subst e;have f:=a.lt b rfl;refine⟨λq=>?_,f.2⟩;have:=g b q.symm;have:=f.1;omega
theorem WR(A1 A2:oA)(n1 c1 n2 c2:Nat)(a b:lP)(w:World)(ha:Ab 2 Ad w A1 n1 a)(X:Ab 2 Ad w A2 n2 b)(aw:n1<=c1)(ax:n2<=c2)(ay:n1<=1000000)(az:n2<=1000000) :
  CP 183 #[.slice A1 n1 c1,.slice A2 n2 c2] w (Qj (Cx a b) w):=by
 have E:=Kx A1 n1 c1 a w ha aw ay;have M:=λW (h:Bw w W)=>Kx A2 n2 c2 b W (X.on Aa h) ax az
 obtain⟨Q,U⟩:=zG (Qj (Cx a b) w);rw[U]
 cases hs:BN a with
 | error z=>
  rw[hs]at E;have Z:=ES hs;have ac:(z != 0)=true:=by simpa using Z
  have N:Hid (Q=Qj (.error z) w):=by rw[Hid,<-U,UQ hs]
  have E:=zH E;clear U hs M ha X;go_enter func183,ntmps183;go_wp2_with(go_at_call 58;refine E.o.mono ?_;rintro e w1 ⟨C,f⟩;replace f:e=.returned (.tuple #[zn,zi z]):=f;subst f;have n:=zH C;clear C)
  rw[N.o];exact⟨n.o,rfl⟩
 | ok s=>
  rw[hs]at E;have E:=zH E;have M:=zH M
  cases ht:BN b with
  | error z=>
   rw[ht]at M;have Z:=ES ht;have ac:(z != 0)=true:=by simpa using Z
   have N:Hid (Q=Qj (.error z) w):=by rw[Hid,<-U,UR (s:=a) hs ht rfl]
   clear U hs ht ha X;go_enter func183,ntmps183
   go_wp2_with(go_at_call 58;first
    | (refine E.o.mono ?_;rintro e w1 ⟨C,f⟩;obtain⟨B1,d1,f,F,b0⟩:=f;subst f;have n:=zH C;clear C E)
    | (refine(M.o _ n.o).mono ?_;rintro e w2 ⟨K,f⟩;replace f:e=.returned (.tuple #[zn,zi z]):=f;subst f;have L:=zH (zT n.o K);clear K))
   rw[N.o];exact⟨L.o,rfl⟩
  | ok t=>
   rw[ht]at M
   have N:Hid (Q=Qj (match AE (EF s t 0)with | .error e=>.error e | .ok l=>.ok (GO l)) w):=by
    rw[Hid,<-U,ZU hs ht];rfl
   obtain⟨s1,s2⟩:=Hc hs;obtain⟨t1,t2⟩:=Hc ht;have s0:=Oq hs;have t0:=Oq ht;have b3:=zH s2;have b4:=zH t2;clear U hs ht s2 t2 ha X;go_enter func183,ntmps183
   go_wp2_with(go_at_call 58;first
    | (refine E.o.mono ?_;rintro e w1 ⟨C,f⟩;obtain⟨B1,d1,f,F,b0⟩:=f;subst f;have n:=zH C;have b5:=zH F;clear C F E)
    | (refine(M.o _ n.o).mono ?_;rintro e w2 ⟨K,f⟩;obtain⟨B2,d2,f,G,bt⟩:=f;subst f;have L:=zH (zT n.o K);have ar:=zH (b5.o.on Lm K);have b6:=zH G;clear K G M))
   go_loopw[9,11,13,14,15,34,35,36,37,38,39,40,41,42,43,44,45,46,47,48,49,50,51,52,53,54,55,56,57,58,59] (λv _ _ _ _ i _ _ _ _ _ _ _ _ _ _ _ _ _ _ _ _ _ _ _ _ _ _ _ _ _ wr=>∃(k:Nat)(rs:List (Value×PL)),k<=s.length∧i=zi (k:Int)∧k<=rs.length∧rs.length<=k*41∧Hid (DS wr w2.heap.size v rs)∧Hid (AE (EF s t 0)=AE ((Bp rs).map Except.ok++EF s t k))∧Hid (Bw w2 wr)) (λ_ _ _ _ _ i _ _ _ _ _ _ _ _ _ _ _ _ _ _ _ _ _ _ _ _ _ _ _ _ _ _=>s.length-(intOf i).toNat)
   case atStart=>exact⟨0,[],zs3 _,rfl,zs3 _,zs3 _,zH (DS.start _ _),zH rfl,zH zJ⟩
   case round=>
    obtain⟨k,rs,hk,rfl,a0,a1,J,O,a2⟩:=hrel;by_cases b7:k<s.length
    ·obtain⟨b1,o1,x,g1,p1,m1,e1,rfl,b8,hx,d0',F,bu⟩:=Tm ar.o b7;have d0:=(a2.o.cell (p:=ad b1 (o1+k)) b8).trans d0';obtain⟨gx,lx⟩:=b3.o x (zq2 hx);have bv:=zH gx;have b9:=zH F;have ae:Hid (AE (EF s t 0)=AE ((Bp rs).map Except.ok++Jr s t k x 0)):=zH (by rw[O.o,pT hx]);have ba:m1<=1000000:=by rw[<-F.len];omega
     have i1:(0:Int)<=(k:Int):=zO;have i2:(k:Int)<(s.length:Int):=zO;clear gx F hx d0';obtain⟨wo,rfl⟩:∃v:World,v=wr:=⟨_,rfl⟩
     go_wp2_with fail
     go_loopw[9,13,14,15,40,41,42,43,44,45,46,47,48,49,50,51,52,53,54,55,56,57,58] (λv _ _ _ i _ _ _ _ _ _ _ _ _ _ _ _ _ _ _ _ _ _ wr=>∃(j:Nat)(rs:List (Value×PL)),j<=t.length∧i=zi (j:Int)∧k<=rs.length∧(0<j->k+1<=rs.length)∧rs.length<=k*41+j∧Hid (DS wr w2.heap.size v rs)∧Hid (AE (EF s t 0)=AE ((Bp rs).map Except.ok++Jr s t k x j))∧Hid (Bw w2 wr)) (λ_ _ _ _ i _ _ _ _ _ _ _ _ _ _ _ _ _ _ _ _ _ _ _=>t.length-(intOf i).toNat)
     case atStart=>exact⟨0,rs,zs3 _,rfl,a0,λh=>absurd h zO,a1,J,ae,a2⟩
     case round=>
      clear a0 a1 J O ae;obtain⟨j,rs,hj,rfl,a0,au,a1,J,O,B⟩:=hrel;by_cases bb:j<t.length
      ·obtain⟨b2,o2,y,g2,p2,m2,e2,rfl,bc,hy,f0',a3,bw⟩:=Tm b6.o bb;have f0:=(B.o.cell (p:=ad b2 (o2+j)) bc).trans f0';have G:=a3.on Aa B.o;obtain⟨gy,ly⟩:=b4.o y (zq2 hy);have af:m2<=1000000:=by rw[<-G.len];omega
       have HN:=zH (ZO (sa g2 p2) m2 e2 y wr G af gy);have ag:Hid ((Hl y).length<=1000000):=zH (by rw[Rb,G.len];exact af);have bd:=zH (b9.o.on Aa B.o);have H:=O.o;rw[pU hy]at H;have i3:(0:Int)<=(j:Int):=zO;have i4:(j:Int)<(t.length:Int):=zO
       have be:rs.length<=2000:=by
        have:k*41<=40*41:=Nat.mul_le_mul_right _ zO;omega
       obtain⟨Y,hY⟩:=zG (Hl y);rw[hY]at HN ag H;have HS:=zH (λW g (X:Bw wr W) (hr:Ab 2 Ad W (sa g 0) Y.length Y)=>vA g1 p1 g 0 m1 e1 Y.length Y.length x Y W (bd.o.on Aa X) hr ba ag.o);clear G a3 f0' gy ly hY O hy
       cases hsum:Fv x Y with
       | error z=>
        rw[hsum]at HS H;have Z:=Si hsum;have ac:(z != 0)=true:=by simpa using Z
        rw[H,J8]at N;clear hsum H J
        go_wp2_with(first
         | (go_at_call 228;refine HN.o.mono ?_;rintro e w4 ⟨g4,rfl,bf,R,S⟩;have m:=zH S;have a4:=zH R;clear S R HN)
         | (go_at_call 227;refine(HS.o _ _ m.o a4.o).mono ?_;rintro e w5 ⟨T,f⟩;replace f:e=.returned (.tuple #[zn,zi z]):=f;subst f;have I:=zH (zT m.o T);clear T))
        rw[N.o];exact⟨L.o.trans ((zT B.o I.o).mono L.o.size),rfl⟩
       | ok r=>
        rw[hsum]at HS H;obtain⟨r1,r2⟩:=XK hsum;clear hsum
        go_wp2_with(first
         | (go_at_call 228;refine HN.o.mono ?_;rintro e w4 ⟨g4,rfl,bf,R,S⟩;have m:=zH S;have a4:=zH R;clear S R HN)
         | (go_at_call 227;refine(HS.o _ _ m.o a4.o).mono ?_;rintro e w5 ⟨T,f⟩;obtain⟨A5,c5,f,ah⟩:=f;subst f;have I:=zH (zT m.o T);have bg:=zH (vC ah (λk e=>(J.o.own.lt k e).2) m.o.size zO);have ai:=zH (J.o.below (Below.alo I.o (.cells #[.slice A5 r.length c5] 64)));have bh:=zH (bg.o.below (zA (.cells #[.slice A5 r.length c5] 64)));have aj:=zH (zs0 B.o.size (Below.alo I.o (.cells #[.slice A5 r.length c5] 64)).size);clear T ah HS)
         | (at_builtin;refine Bt (P:=prog) (by rfl) _ _ 51 (by rfl) w2.heap.size 64 (zn) 1 24 underlying51 JD rfl zD u9 rs.length (rs.flatMap λx=>[x.1]) (by rfl) ai.o.own ⟨w5.heap.size,0,none⟩ 1 1 [.slice A5 r.length c5] (by rfl) (by rfl) (EV (Blk.new w5 64 _)) (λu hu=>by obtain rfl:=zr9.1 hu;rfl) zU zO aj.o ?_;intro v7 w7 ak a5 al;have bi:=zH (ai.o.more bh.o ak a5 al);have bj:=zH (Ax (B.o.trans ((Below.alo I.o (.cells #[.slice A5 r.length c5] 64)).mono B.o.size)) a5 aj.o (λk e=>(J.o.own.lt k e).1));clear ak a5 al))
        go_roundw
        case rel=>exact⟨j+1,rs++[(.slice A5 r.length c5,r)],by omega,by go_num,by simp;omega,by simp;omega,by simp;omega,bi,zH (by rw[H,WQ (x:=(.slice A5 r.length c5,r)) rfl]),bj⟩
        case measure=>exact zM
      obtain rfl:j=t.length:=zO;have bk:Hid (AE (EF s t 0)=AE ((Bp rs).map Except.ok++EF s t (k+1))):=zH (by rw[O.o,iG])
      go_wp2_with fail
      go_roundw
      case rel=>exact⟨k+1,rs,by omega,by go_num,au zO,by omega,J,bk,B⟩
      case measure=>exact zM
    obtain rfl:k=s.length:=zO
    have be:rs.length<=2000:=by
     have:s.length*41<=41*41:=Nat.mul_le_mul_right _ s1;omega
    obtain⟨g0,c0,rfl,bl,bm,am⟩:=J.o.done zO;have bn:Hid (AE (EF s t 0)=.ok (Bp rs)):=zH (by rw[O.o,iH,zt3,GP]);rw[bn.o]at N;have bo:=zH (iF g0 0 c0 rs.length rs wr am rfl zO zO);have an:=zH bl;clear am O J
    go_wp2_with(first
     | (go_at_call 229;refine bo.o.mono ?_;rintro e w4 ⟨rfl,ys,D,V,a6,a7⟩;have ao:=zH (zu2 D V);have bx:=zH D.length_eq;have bp:=zH (UN g0 0 c0 rs.length ys w4 a6 D.length_eq bm zO);have m:=zH (DC a2.o a7 an.o);clear D V a6 a7)
     | (go_at_call 232;refine bp.o.mono ?_;rintro e w5 ⟨zs,rfl,ap,a8,a9⟩;have bq:=zH ap;have av:=zH a8;have I:=zH (DC m.o a9 an.o);clear ap a8 a9))
    have aa:Bp zs=GO (Bp rs):=by
     rw[bq.o];refine UL ao.o.2 λq=>?_
     exact(ao.o.1.map (λx:Value×PL=>x.2)).mem_iff
    have ab:zs.length=(GO (Bp rs)).length:=by
     rw[<-aa];simp[Bp]
    have br:zs.length<=c0:=by
     have h1:=O7 (Bp rs);have h2:(Bp rs).length=rs.length:=by simp[Bp]
     omega
    have aq:=av.o.recs;rw[aa,ab]at aq;rw[N.o];refine⟨zT L.o I.o,some ⟨g0,0,none⟩,c0,?_,aq,by rw[<-ab];exact br⟩;rw[<-ab];rfl
end
theorem Rg(b:AG)(w:World):Bw w (zw w #[zi b.length,zi b.width,zi b.rx,zi b.ry] 33):=zA _
theorem US(b:AG)(A:oA)(n c:Nat)(ss:List Ae)(P:oA)(m d:Nat)(puts:List Am)(p:Am)(w:World)(ha:Ab 5 D6 w A n ss)(hp:Ab 5 Hs w P m puts)(hm:m<=1000000)(hs:∀s∈ss,s.poly.length<=1000000)(hq:Q4 p.turn)(a5:∀q∈puts,Q4 q.turn) :
  CP 70 #[.agg #[zi b.length,zi b.width,zi b.rx,zi b.ry],.slice A n c,.slice P m d,.agg #[zi p.shape,.bool p.turn.flip,zi p.turn.quarter,zi p.at_.1,zi p.at_.2]] w (zR (zi (Bh b ss puts p)) w):=by
 obtain⟨F,V⟩:=zG (Bh b ss puts p);rw[V];obtain⟨W0,a6⟩:=zG ((w.alloc (.cells #[zi b.length,zi b.width,zi b.rx,zi b.ry] 33)).alloc (.cells #[zi p.shape,.bool p.turn.flip,zi p.turn.quarter,zi p.at_.1,zi p.at_.2] 87));have X1:Hid (Blk W0 w.heap.size 33 #[zi b.length,zi b.width,zi b.rx,zi b.ry]):=zH (by rw[<-a6];exact(Blk.new _ _ _).alloc _);have X2:Hid (Blk W0 (w.heap.size+1) 87 #[zi p.shape,.bool p.turn.flip,zi p.turn.quarter,zi p.at_.1,zi p.at_.2]):=zH (by rw[<-a6];exact Blk.new' _ _ _ zP);have C:Hid (Bw w W0):=zH (by rw[<-a6];exact Below.alo (zA _) _);rw[<-a6]at X1 X2 C;clear a6;by_cases E:BV b=true
 ·have l:Hid (F=3):=zH (by rw[<-V,pG E]);clear V ha hp hs hq a5;obtain⟨bl,bw,rx,ry⟩:=b;simp only at *
  by_cases h1:bl<1
  ·go_enter func70,ntmps70;go_wp2;go_ret;exact⟨by rw[l.o];rfl,C.o⟩
  by_cases h2:1048576<bl
  ·go_enter func70,ntmps70;go_wp2;go_ret;exact⟨by rw[l.o];rfl,C.o⟩
  by_cases h3:bw<1
  ·go_enter func70,ntmps70;go_wp2;go_ret;exact⟨by rw[l.o];rfl,C.o⟩
  have h4:1048576<bw:=by
   unfold BV at E;simp only[Bool.or_eq_true,decide_eq_true_eq]at E;omega
  go_enter func70,ntmps70;go_wp2;go_ret;exact⟨by rw[l.o];rfl,C.o⟩
 have D:BV b=false:=by simpa using E
 have az:¬b.length<1∧¬1048576<b.length∧¬b.width<1∧¬1048576<b.width:=by
  unfold BV at E;simp only[Bool.or_eq_true,decide_eq_true_eq]at E;omega
 obtain⟨i1,i2,i3,i4⟩:=az;have HA:=zH ha;have HP:=zH hp;have b0:=zH hs;have b3:=zH a5;have X:=zH (λW (h:Bw w W)=>FL A n c ss p W (ha.on Bz h) hs hq)
 cases hpp:Af ss p with
 | error z=>
  have hz:=Ey hpp;have av:(z != 0)=true:=by simpa using hz
  have l:Hid (F=z):=zH (by rw[<-V,pH D hpp]);rw[hpp]at X;clear V ha hp hs hq a5 E D hpp hz;go_enter func70,ntmps70;go_wp2_with(go_at_call 33;refine(X.o _ C.o).mono ?_;rintro e w1 ⟨G,a⟩;replace a:e=.returned (.tuple #[zn,zi z]):=a;subst a;have J:=zH (zT C.o G);clear G)
  go_ret;exact⟨by rw[l.o];rfl,J.o⟩
 | ok r=>
  obtain⟨k,s,hk,O⟩:=M9 hpp;obtain⟨r1,r2,r3,r4⟩:=Ht hpp;have bb:=zH r1;rw[hpp]at X;have b4:k<n:=by rw[<-ha.len];exact(zq1.1 O).1
  obtain⟨b1,a7,s',B,sm,cs,rfl,hb,af,d0,d1,d2,d3,d4,aw,bc⟩:=J4 ha b4;obtain rfl:s'=s:=by rw[O]at af;exact(zs6 af).symm
  have a3:=zH (λW=>KQ s'.grain false p.turn W hq);have HD:=zH (λW (h:Bw w W)=>zu2 ((h.cell (p:=ad b1 (a7+k*5)) hb).trans d0) (zu2 ((h.cell (p:=ad b1 (a7+k*5+1)) hb).trans d1) (zu2 ((h.cell (p:=ad b1 (a7+k*5+2)) hb).trans d2) (zu2 ((h.cell (p:=ad b1 (a7+k*5+3)) hb).trans d3) ((h.cell (p:=ad b1 (a7+k*5+4)) hb).trans d4)))));obtain⟨j1,j2⟩:=zI (k:=k) (n:=n) (by omega);clear d0 d1 d2 d3 d4 af r1
  cases hal:BF s'.grain false p.turn with
  | false=>
   have l:Hid (F=12):=zH (by rw[<-V,ZC D hpp hk O hal]);rw[hal]at a3;clear V ha hp hs hq a5 E D hpp O hal aw;obtain⟨sh,tu,at0⟩:=p;simp only at *
   subst hk;go_enter func70,ntmps70
   go_wp2_with(first
    | (go_at_call 33;refine(X.o _ C.o).mono ?_;rintro e w1 ⟨G,a⟩;obtain⟨g1,a,al,ag⟩:=a;subst a;have J:=zH (zT C.o G);obtain⟨k0,k1,k2,k3,k4⟩:=Dm (X2.out.below G);have xl:=(X2.out.below G).lt;obtain⟨d0,d1,d2,d3,d4⟩:=HD.o _ J.o;clear G ag al X)
    | (go_at_call 13;refine(a3.o _).mono ?_;rintro e w2 ⟨rfl,K⟩;have Y:=zH ((Below.alo J.o _).trans (K.mono (Below.alo J.o _).size));clear K a3))
   go_ret;exact⟨by rw[l.o];rfl,Y.o⟩
  | true=>
   have ah:Hid (r.any (Fl b)=true->F=13):=zH (λh=>by rw[<-V,pI D hpp hk O hal h]);have b5:Hid (r.any (Fl b)=false->s'.match_=true->CH (b.rx,b.ry) s'.anchor p=false->F=15):=zH (λh h1 h2=>by rw[<-V,ZD D hpp hk O hal h h1 h2]);have ax:Hid (r.any (Fl b)=false->(s'.match_=false∨CH (b.rx,b.ry) s'.anchor p=true)->F=Cu ss r puts):=zH (λh h1=>by rw[<-V,gJ D hpp hk O hal h h1])
   have b6:inG p.at_:=by
    unfold Af at hpp;split at hpp
    ·cases hpp
    rename_i h;exact DZ.1 (by cases ho:Av p.at_ <;> simp_all)
   have ai:=zH (λW=>WE (b.rx,b.ry) s'.anchor p W hq b6);rw[hal]at a3;clear V ha hp hs hq a5 E D hpp O hal aw;obtain⟨sh,tu,at0⟩:=p;simp only at *
   subst hk;go_enter func70,ntmps70
   go_wp2_with(first
    | (go_at_call 33;refine(X.o _ C.o).mono ?_;rintro e w1 ⟨G,a⟩;obtain⟨g1,a,al,ag⟩:=a;subst a;have J:=zH (zT C.o G);have X21:=zH (X2.out.below G);have X11:=zH (X1.out.below G);obtain⟨k0,k1,k2,k3,k4⟩:=Dm X21.out;have xl:=X21.out.lt;have xl1:=X11.out.lt;obtain⟨d0,d1,d2,d3,d4⟩:=HD.o _ J.o;have b7:=zH ag;clear G ag al X)
    | (go_at_call 13;refine(a3.o _).mono ?_;rintro e w2 ⟨rfl,K⟩;have Y:=zH ((Below.alo J.o _).trans (K.mono (Below.alo J.o _).size));have X22:=zH ((X21.out.alloc _).below K);have X12:=zH ((X11.out.alloc _).below K);have X32:=zH ((Blk.new _ _ _).below K);have am:=zH ((b7.o.on Aa (zA _)).on Aa K);clear K a3))
   go_loopw[13,59,60,61,62,63,64,65,66,67,68,69,70,71,72,73,74,75,76,77,78,79,80,81,82,83,84,85] (λ_ i _ _ _ _ _ _ _ _ _ _ _ _ _ _ _ _ _ _ _ _ _ _ _ _ _ _ wr=>∃j:Nat,j<=r.length∧i=zi (j:Int)∧Hid ((r.take j).any (Fl b)=false)∧Hid (Bw w2 wr)) (λ_ i _ _ _ _ _ _ _ _ _ _ _ _ _ _ _ _ _ _ _ _ _ _ _ _ _ _ _=>r.length-(intOf i).toNat)
   case atStart=>exact⟨0,zs3 _,rfl,zH zP,zH zJ⟩
   case round=>
    obtain⟨j,hj,rfl,a8,x⟩:=hrel;by_cases an:j<r.length
    ·obtain⟨b2,N,v,ao,Q,hv,f0',f1'⟩:=Ap am.o an;injection ao with ao
     injection ao with e1 e2
     subst e1;subst e2;have f0:=(x.o.cell (p:=ad g1 (0+j*2)) Q).trans f0';have f1:=(x.o.cell (p:=ad g1 (0+j*2+1)) Q).trans f1';simp only[Nat.zero_add]at f0 f1;have b8:=zH (pJ hv a8.o);have aj:=zH (λh=>yK (f:=Fl b) hv h);obtain⟨y0,y1,y2,y3⟩:=Ez (X12.out.below x.o);have yl:=(X12.out.below x.o).lt;have I:=zH (Below.alo (zT Y.o x.o) (.cells #[zi v.1,zi v.2] 56));have i1':(0:Int)<=(j:Int):=zO;have i2':(j:Int)<(r.length:Int):=zO;have a9:Hid (Fl b v=(decide (v.1<0)||(decide (b.length<v.1)||(decide (v.2<0)||decide (b.width<v.2))))):=rfl;clear hv f0' f1';by_cases q1:v.1<0
     ·have l:=zH (ah.o (aj.o (by rw[a9.o,zu1 q1];rfl)))
      go_wp2_with fail
      go_ret;exact⟨by rw[l.o];rfl,I.o⟩
     by_cases q2:b.length<v.1
     ·have l:=zH (ah.o (aj.o (by rw[a9.o,zu1 q2];simp)))
      go_wp2_with fail
      go_ret;exact⟨by rw[l.o];rfl,I.o⟩
     by_cases q3:v.2<0
     ·have l:=zH (ah.o (aj.o (by rw[a9.o,zu1 q3];simp)))
      go_wp2_with fail
      go_ret;exact⟨by rw[l.o];rfl,I.o⟩
     by_cases q4:b.width<v.2
     ·have l:=zH (ah.o (aj.o (by rw[a9.o,zu1 q4];simp)))
      go_wp2_with fail
      go_ret;exact⟨by rw[l.o];rfl,I.o⟩
     have b9:Hid ((r.take (j+1)).any (Fl b)=false):=zH (by rw[b8.o,a9.o,zu0 q1,zu0 q2,zu0 q3,zu0 q4];rfl)
     go_wp2_with fail
     go_roundw
     case rel=>exact⟨j+1,by omega,by go_num,b9,zH (Below.alo x.o _)⟩
     case measure=>exact zM
    obtain rfl:j=r.length:=zO;rw[zq4 (zs2 _)]at a8;obtain⟨w3,rfl⟩:∃w3:World,w3=wr:=⟨_,rfl⟩;have ba:=zH (am.o.on Aa x.o);have ay:=zH (zT Y.o x.o);obtain⟨y0,y1,y2,y3⟩:=Ez (X12.out.below x.o);obtain⟨x0,x1,x2,x3,x4⟩:=Dm (X32.out.below x.o);obtain⟨z0,z1,z2,z3,z4⟩:=Dm (X22.out.below x.o);clear Y am x X12 X22 X32
    go_upto_region 15 with fail
    go_cut [96]from 86 to 96 (λv96 wx=>∃mt:Bool,v96=.bool mt∧(mt=true->Hid (F=15))∧(mt=false->Hid (F=Cu ss r puts))∧Bw w3 wx)
    case first=>
     rcases Bool.eq_false_or_eq_true s'.match_ with R|R
     ·rw[R]at x2
      cases hmt:CH (b.rx,b.ry) s'.anchor ⟨(k:Int),tu,at0⟩with
      | false=>
       rw[hmt]at ai;have l:=zH (b5.o a8.o R hmt);clear hmt R;go_wp2_with(go_at_call 105;refine(ai.o _).mono ?_;rintro e w4 ⟨rfl,L⟩;have Z:=zH L;clear L)
       go_meet;exact⟨true,rfl,λ_=>l,λh=>(by cases h),Z.o⟩
      | true=>
       rw[hmt]at ai;have l:=zH (ax.o a8.o (.inr hmt));clear hmt R;go_wp2_with(go_at_call 105;refine(ai.o _).mono ?_;rintro e w4 ⟨rfl,L⟩;have Z:=zH L;clear L)
       go_meet;exact⟨false,rfl,λh=>(by cases h),λ_=>l,Z.o⟩
     rw[R]at x2;have l:=zH (ax.o a8.o (.inl R));clear R
     go_wp2_with fail
     go_meet;exact⟨false,rfl,λh=>(by cases h),λ_=>l,zJ⟩
    case rest=>
     obtain⟨mt,rfl,ap,aq,L⟩:=hcut;obtain⟨w4,rfl⟩:∃w4:World,w4=wc:=⟨_,rfl⟩;have Z:=zH (zT ay.o L);have ar:=zH (ba.o.on Aa L);clear L
     cases mt with
     | true=>
      have l:=ap rfl;clear ap aq
      go_wp2_with fail
      go_ret;exact⟨by rw[l.o];rfl,Z.o⟩
     | false=>
      have l:=aq rfl;clear ap aq
      go_wp2_with fail
      go_loopw[15,16,17,18,99,100,101,102,103,104,105,106,107,108,109,110,111,112,113,114,115,116,117,118,119,120,121,122] (λ_ _ _ _ i _ _ _ _ _ _ _ _ _ _ _ _ _ _ _ _ _ _ _ _ _ _ _ wr=>∃j:Nat,j<=m∧i=zi (j:Int)∧Hid (F=Cu ss r (puts.drop j))∧Hid (Bw w4 wr)) (λ_ _ _ _ i _ _ _ _ _ _ _ _ _ _ _ _ _ _ _ _ _ _ _ _ _ _ _ _=>m-(intOf i).toNat)
      case atStart=>exact⟨0,zs3 _,rfl,zH (by simpa using l.o),zH zJ⟩
      case round=>
       obtain⟨j,hj,rfl,I,x⟩:=hrel;have a0:=zH (zT Z.o x.o);by_cases an:j<m
       ·obtain⟨b2,N,q,rfl,Q,hv,f0',f1',f2',f3',f4'⟩:=Ik HP.o an;have f0:=(a0.o.cell (p:=ad b2 (N+j*5)) Q).trans f0';have f1:=(a0.o.cell (p:=ad b2 (N+j*5+1)) Q).trans f1';have f2:=(a0.o.cell (p:=ad b2 (N+j*5+2)) Q).trans f2';have f3:=(a0.o.cell (p:=ad b2 (N+j*5+3)) Q).trans f3';have f4:=(a0.o.cell (p:=ad b2 (N+j*5+4)) Q).trans f4';have ak:=zH (show puts.drop j=q::puts.drop (j+1)from Et hv);have a4:=zH (λW (h:Bw w W)=>FL _ n c ss q W (HA.o.on Bz h) b0.o (b3.o q (zq2 hv)));have H:=zH (Below.alo a0.o (.cells #[zi q.shape,.bool q.turn.flip,zi q.turn.quarter,zi q.at_.1,zi q.at_.2] 87));have a1:=zH (Below.alo x.o (.cells #[zi q.shape,.bool q.turn.flip,zi q.turn.quarter,zi q.at_.1,zi q.at_.2] 87));have i1':(0:Int)<=(j:Int):=zO;have i2':(j:Int)<(m:Int):=zO;clear hv f0' f1' f2' f3' f4'
        cases hqp:Af ss q with
        | error z=>
         have hz:=Ey hqp;have av:(z != 0)=true:=by simpa using hz
         have M:Hid (F=z):=zH (by rw[I.o,ak.o,ZE hqp]);rw[hqp]at a4;clear hqp hz;go_wp2_with(go_at_call 33;refine(a4.o _ H.o).mono ?_;rintro e w5 ⟨y,a⟩;replace a:e=.returned (.tuple #[zn,zi z]):=a;subst a;have S:=zH (zT H.o y);clear y)
         go_ret;exact⟨by rw[M.o];rfl,S.o⟩
        | ok t=>
         rw[hqp]at a4;obtain⟨t1,t2,t3,t4⟩:=Ht hqp;have aa:=zH (λW g (h1:Ab 2 Ad W (sa g 0) t.length t) (h2:Ab 2 Ad W (sa g1 0) r.length r)=>Oi (sa g 0) (sa g1 0) t.length t.length r.length r.length t r W h1 h2 (zs2 _) (zs2 _) zO zO);clear t1 t4
         cases hov:BJ t r with
         | error z=>
          have hz:=KN hov;have av:(z != 0)=true:=by simpa using hz
          have M:Hid (F=z):=zH (by rw[I.o,ak.o,WF hqp hov]);rw[hov]at aa;clear hqp hz hov
          go_wp2_with(first
           | (go_at_call 33;refine(a4.o _ H.o).mono ?_;rintro e w5 ⟨y,a⟩;obtain⟨g5,a,ab,T⟩:=a;subst a;have S:=zH (zT H.o y);have ac:=zH T;have a2:=zH ((ar.o.on Aa a1.o).on Aa y);clear y T ab)
           | (go_at_call 14;refine(aa.o _ _ ac.o a2.o).mono ?_;rintro e w6 ⟨U,a⟩;replace a:e=.returned (.tuple #[zF,zi z]):=a;subst a;have ae:=zH (zT S.o U);clear U))
          go_ret;exact⟨by rw[M.o];rfl,ae.o⟩
         | ok o=>
          rw[hov]at aa
          cases o with
          | true=>
           have M:Hid (F=14):=zH (by rw[I.o,ak.o,ZF hqp hov]);clear hqp hov
           go_wp2_with(first
            | (go_at_call 33;refine(a4.o _ H.o).mono ?_;rintro e w5 ⟨y,a⟩;obtain⟨g5,a,ab,T⟩:=a;subst a;have S:=zH (zT H.o y);have ac:=zH T;have a2:=zH ((ar.o.on Aa a1.o).on Aa y);clear y T ab)
            | (go_at_call 14;refine(aa.o _ _ ac.o a2.o).mono ?_;rintro e w6 ⟨U,a⟩;replace a:e=.returned (.tuple #[zY,zi 0]):=a;subst a;have ae:=zH (zT S.o U);clear U))
           go_ret;exact⟨by rw[M.o];rfl,ae.o⟩
          | false=>
           have M:Hid (F=Cu ss r (puts.drop (j+1))):=zH (by rw[I.o,ak.o,WG hqp hov]);clear hqp hov
           go_wp2_with(first
            | (go_at_call 33;refine(a4.o _ H.o).mono ?_;rintro e w5 ⟨y,a⟩;obtain⟨g5,a,ab,T⟩:=a;subst a;have S:=zH (zT H.o y);have ac:=zH T;have a2:=zH ((ar.o.on Aa a1.o).on Aa y);have au:=zH (zT a1.o y);clear y T ab)
            | (go_at_call 14;refine(aa.o _ _ ac.o a2.o).mono ?_;rintro e w6 ⟨U,a⟩;replace a:e=.returned (.tuple #[zF,zi 0]):=a;subst a;have ae:=zH (zT au.o U);clear U))
           go_roundw
           case rel=>exact⟨j+1,by omega,by go_num,M,ae⟩
           case measure=>exact zM
       obtain rfl:j=m:=zO;have M:Hid (F=0):=zH (by rw[I.o,zr6 (by rw[HP.o.len];exact zs2 _)];rfl)
       go_wp2_with fail
       go_ret;exact⟨by rw[M.o];rfl,a0.o⟩
end Go.Proofs.YteafekbddckemaaGreatDoor
