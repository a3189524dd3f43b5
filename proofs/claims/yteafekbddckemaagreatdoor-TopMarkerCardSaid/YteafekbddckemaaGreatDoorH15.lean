/- Parts of the proof. -/
import Derived.Test.YteafekbddckemaaGreatDoorH14
set_option maxRecDepth 100000
set_option maxHeartbeats 40000000
namespace Go.Proofs.YteafekbddckemaaGreatDoor
open Tryz Go.RowKit
open Go.Lib hiding intOf
variable{S:oA}{c i k y:Nat}{e:Ending}{l:lP}{n:Int×Int}{p:Aw}{w w':World}{zs:List Int}
def Aal(w:World)(e:Ending)(w':World):Prop:=∃q r:Int,e=.returned (.tuple #[.int .u64 q,.int .u64 r])∧0<=q∧0<=r∧∃k,w'=w.drewN k
theorem Uc:∀(n:Nat),1<=n->2^(Bn n-1)<=n∧n<2^Bn n
  | 0,h=>by omega
  | n+1,_=>by
    rw[Bn,Nat.add_sub_cancel];by_cases e:n=0
    · subst e;rw[show(0+1)/2=0 from rfl,Bn];decide
    obtain⟨a,b⟩:=Uc ((n+1)/2) zO;have g:=Ko (n:=(n+1)/2) zO;obtain⟨m,f⟩:∃m,Bn ((n+1)/2)=m+1:=⟨Bn ((n+1)/2)-1,by omega⟩;rw[f]at a b⊢
    rw[Nat.add_sub_cancel]at a;simp only[Nat.pow_succ]at b⊢
    generalize 2^m=z at *
    omega
decreasing_by omega
theorem oO(e:1<=y)(f:y<18446744073709551616):9223372036854775808<=y*2^(64-Bn y)∧y*2^(64-Bn y)<18446744073709551616:=by
  obtain⟨a,b⟩:=Uc y e;have g:=JZ 64 y f;have i:=Ko e;have e1:(2:Nat)^(Bn y-1)*2^(64-Bn y)=2^63:=by rw[<-Nat.pow_add];congr 1;omega
  have e2:(2:Nat)^Bn y*2^(64-Bn y)=2^64:=by rw[<-Nat.pow_add];congr 1;omega
  have p:0<(2:Nat)^(64-Bn y):=Nat.pow_pos zO;constructor
  · have:=Nat.mul_le_mul_right (2^(64-Bn y)) a;rw[e1]at this;exact this
  have:=Nat.mul_lt_mul_of_pos_right b p;rw[e2]at this;exact this
theorem Bx(x:Int):0<=IntKind.u64.wrap x∧IntKind.u64.wrap x<18446744073709551616:=by
  rw[IntKind.wrap_u64];omega
theorem fI(hi lo y:Nat)(w:World)(H:hi<y)(m:y<18446744073709551616)(I:lo<18446744073709551616) :
    CP 219 #[.int .u64 (hi:Int),.int .u64 (lo:Int),.int .u64 (y:Int)] w (Aal w):=by
  by_cases t:hi=0
  · subst t;have y0:¬(y:Int)=0:=zO;have y0':¬y=0:=zO;have q0:(0:Int)<=(lo:Int)/(y:Int):=Int.ediv_nonneg zO zO;have q1:(0:Int)<=(lo:Int)%(y:Int):=Int.emod_nonneg _ y0
    have q2:IntKind.u64.wrap ((lo:Int).tdiv (y:Int))=((lo/y:Nat):Int):=by
      have F:lo/y<=lo:=Nat.div_le_self _ _;rw[show((lo:Int).tdiv (y:Int))=((lo/y:Nat):Int)from rfl,IntKind.wrap_u64];omega
    have q3:((lo:Int).tmod (y:Int))=((lo%y:Nat):Int):=rfl;go_enter func219,ntmps219
    go_wp2_with fail
    go_quiet (fail)
    go_wp2_with fail
    go_ret2
    exact⟨_,_,rfl,(Bx _).1,q1,_,rfl⟩
  have x:=Ko (n:=y) zO;have j:=JZ 64 y m;obtain⟨n1,n2⟩:=oO (y:=y) zO m
  have p:∀W,CP 261 #[.int .u64 (y:Int)] W λe w'=>e=.returned (zi ((64-Bn y:Nat):Int))∧W=w':=λW=>by
    have:=Tryz.bits_LeadingZeros64 (y:Int) W zO zO;rw[Int.toNat_natCast,RF m,show((64:Int)-(Bn y:Int))=((64-Bn y:Nat):Int)by omega]at this;exact this.mono λ_ _ h=>⟨h.1,h.2.symm⟩
  obtain⟨s,z⟩:=zG (64-Bn y);rw[z]at n1 n2 p;have G:s<=63:=zO;have C:=zH p;clear p z x j;obtain⟨Y,k⟩:=zG (y*2^s);have D:min s 64=s:=zO
  have E:IntKind.u64.wrap ((y:Int)*2^s)=(Y:Int):=by
    rw[show((y:Int)*2^s)=((y*2^s:Nat):Int)by simp,k,IntKind.wrap_u64];rw[k]at n2;omega
  rw[k]at n1 n2;clear k;have B:(Y:Int)/4294967296=((Y/4294967296:Nat):Int):=rfl;have d1:Y/4294967296<4294967296:=zO;have d2:1<=Y/4294967296:=zO;generalize Y/4294967296=v at *
  have e1:¬(y:Int)<=(hi:Int):=zO;have e2:((hi:Int) == 0)=false:=by simpa using t
  have e3:((y:Int) == 0)=false:=by simp;omega
  go_enter func219,ntmps219;go_wp2_with(go_at_call 261;refine(C.o _).mono ?_;rintro e w' ⟨rfl,rfl⟩)
  clear e1 e2 e3 E B D
  go_loop [15,16] (λa b=>∃q r:Int,a=.int .u64 q∧b=.int .u64 r∧0<=q∧0<=r∧r<18446744073709551616) (λ_ b=>if intOf b<4294967296 then(4294967296-intOf b).toNat else 8589934592)
  case atStart=>exact⟨_,_,rfl,rfl,by first|exact(Bx _).1|skip,(Bx _).1,(Bx _).2⟩
  case round=>
    obtain⟨q,r,rfl,rfl,g0,g1,g2⟩:=hrel;obtain⟨r2,i⟩:=zG (IntKind.u64.wrap (r+(v:Int)));have w1:0<=r2∧r2<18446744073709551616:=by rw[<-i];exact Bx _
    obtain⟨w1,w2⟩:=w1
    have l:Hid (r2<4294967296->(if r2<4294967296 then(4294967296-r2).toNat else 8589934592)<(if r<4294967296 then(4294967296-r).toNat else 8589934592)):=by
      rw[IntKind.wrap_u64]at i;intro h;rw[if_pos h];split <;> omega
    by_cases J:4294967296<=r2
    · go_wp2_with fail
      all_goals first
        | (go_round
           case rel=>exact⟨_,_,rfl,rfl,(Bx _).1,w1,w2⟩
           case measure=>simp only[intOf];exact l.o zO)
        | (clear l
           go_loop [16,18] (λb a=>∃q r:Int,a=.int .u64 q∧b=.int .u64 r∧0<=q∧0<=r∧r<18446744073709551616) (λb _=>if intOf b<4294967296 then(4294967296-intOf b).toNat else 8589934592)
           case atStart=>exact⟨_,_,rfl,rfl,(Bx _).1,(Bx _).1,(Bx _).2⟩
           case round=>
             clear i;obtain⟨q',r',rfl,rfl,g0',g1',g2'⟩:=hrel;obtain⟨r3,f⟩:=zG (IntKind.u64.wrap (r'+(v:Int)));have w3:0<=r3∧r3<18446744073709551616:=by rw[<-f];exact Bx _
             obtain⟨w3,w4⟩:=w3
             have g:Hid (r3<4294967296->(if r3<4294967296 then(4294967296-r3).toNat else 8589934592)<(if r'<4294967296 then(4294967296-r').toNat else 8589934592)):=by
               rw[IntKind.wrap_u64]at f;intro h;rw[if_pos h];split <;> omega
             by_cases j:4294967296<=r3
             · go_wp2_with fail
               all_goals first
                 | (go_round
                    case rel=>exact⟨_,_,rfl,rfl,(Bx _).1,w3,w4⟩
                    case measure=>simp only[intOf];exact g.o zO)
                 | (go_ret2
                    exact⟨_,_,rfl,(by first|exact(Bx _).1|omega),Int.ediv_nonneg (Bx _).1 (Int.le_of_lt (Int.pow_pos zD)),0,rfl⟩)
             · go_wp2_with fail
               all_goals first
                 | (go_round
                    case rel=>exact⟨_,_,rfl,rfl,(Bx _).1,w3,w4⟩
                    case measure=>simp only[intOf];exact g.o zO)
                 | (go_ret2
                    exact⟨_,_,rfl,(by first|exact(Bx _).1|omega),Int.ediv_nonneg (Bx _).1 (Int.le_of_lt (Int.pow_pos zD)),0,rfl⟩))
    go_wp2_with fail
    all_goals first
      | (go_round
         case rel=>exact⟨_,_,rfl,rfl,(Bx _).1,w1,w2⟩
         case measure=>simp only[intOf];exact l.o zO)
      | (clear l
         go_loop [16,18] (λb a=>∃q r:Int,a=.int .u64 q∧b=.int .u64 r∧0<=q∧0<=r∧r<18446744073709551616) (λb _=>if intOf b<4294967296 then(4294967296-intOf b).toNat else 8589934592)
         case atStart=>exact⟨_,_,rfl,rfl,(Bx _).1,(Bx _).1,(Bx _).2⟩
         case round=>
           clear i;obtain⟨q',r',rfl,rfl,g0',g1',g2'⟩:=hrel;obtain⟨r3,f⟩:=zG (IntKind.u64.wrap (r'+(v:Int)));have w3:0<=r3∧r3<18446744073709551616:=by rw[<-f];exact Bx _
           obtain⟨w3,w4⟩:=w3
           have g:Hid (r3<4294967296->(if r3<4294967296 then(4294967296-r3).toNat else 8589934592)<(if r'<4294967296 then(4294967296-r').toNat else 8589934592)):=by
             rw[IntKind.wrap_u64]at f;intro h;rw[if_pos h];split <;> omega
           by_cases j:4294967296<=r3
           · go_wp2_with fail
             all_goals first
               | (go_round
                  case rel=>exact⟨_,_,rfl,rfl,(Bx _).1,w3,w4⟩
                  case measure=>simp only[intOf];exact g.o zO)
               | (go_ret2
                  exact⟨_,_,rfl,(by first|exact(Bx _).1|omega),Int.ediv_nonneg (Bx _).1 (Int.le_of_lt (Int.pow_pos zD)),0,rfl⟩)
           · go_wp2_with fail
             all_goals first
               | (go_round
                  case rel=>exact⟨_,_,rfl,rfl,(Bx _).1,w3,w4⟩
                  case measure=>simp only[intOf];exact g.o zO)
               | (go_ret2
                  exact⟨_,_,rfl,(by first|exact(Bx _).1|omega),Int.ediv_nonneg (Bx _).1 (Int.le_of_lt (Int.pow_pos zD)),0,rfl⟩))
def KS(n:Nat)(a:Int):Prop:=n<1∨1099511627776<n∨a<0∨(n:Int)<a
def yA(n:Nat)(a:Int)(w:World)(e:Ending)(w':World):Prop:=∃z k:Int,e=.returned (.tuple #[zi z,zi k])∧(KS n a->k=3)∧(¬KS n a->k=0)∧Bw w w'
theorem Wu(n:Nat)(a:Int)(w:World)(v:n<2199023255552) :
  CP 171 #[zi (n:Int),zi (n:Int),zF,zi a] w (yA n a w):=by
 by_cases f:n<1
 ·have b:Hid (KS n a):=.inl f;go_enter func171,ntmps171;go_wp2;go_ret2
  exact⟨0,3,rfl,λ_=>rfl,λh=>absurd b.o h,zJ⟩
 by_cases g:1099511627776<n
 ·have b:Hid (KS n a):=.inr (.inl g);go_enter func171,ntmps171;go_wp2;go_ret2
  exact⟨0,3,rfl,λ_=>rfl,λh=>absurd b.o h,zJ⟩
 by_cases i:a<0
 ·have b:Hid (KS n a):=.inr (.inr (.inl i));go_enter func171,ntmps171;go_wp2;go_ret2
  exact⟨0,3,rfl,λ_=>rfl,λh=>absurd b.o h,zJ⟩
 by_cases j:(n:Int)<a
 ·have b:Hid (KS n a):=.inr (.inr (.inr j));go_enter func171,ntmps171;go_wp2;go_ret2
  exact⟨0,3,rfl,λ_=>rfl,λh=>absurd b.o h,zJ⟩
 have b:Hid (¬KS n a):=λh=>by
  rcases h with h|h|h|h
  ·exact f h
  ·exact g h
  ·exact i h
  exact j h
 obtain⟨m,rfl⟩:∃m:Nat,a=(m:Int):=⟨a.toNat,by omega⟩;have k:m<=n:=zO
 have l:m*n/18446744073709551616<n:=by
  refine Nat.div_lt_of_lt_mul ?_;refine zt2 (Nat.mul_le_mul_right n k) ?_;exact Nat.mul_lt_mul_of_pos_right zO zO
 have p:m*n%18446744073709551616<18446744073709551616:=Nat.mod_lt _ zO;have s:=zH (λW=>Tryz.bits_Mul64 m n zO zO W);generalize m*n/18446744073709551616=hi at *
 generalize m*n%18446744073709551616=lo at *
 have t:=zH (λW=>fI hi lo n W l zO p);go_enter func171,ntmps171
 go_wp2_with(first
  | (go_at_call 218;refine(s.o _).mono ?_;rintro e w1 ⟨rfl,rfl⟩)
  | (go_at_call 219;refine(t.o _).mono ?_;rintro e w2 ⟨q,r,rfl,x,y,kk,rfl⟩))
 all_goals
  go_ret2
  exact⟨_,0,rfl,λh=>absurd h b.o,λ_=>rfl,BR _ _ _⟩
theorem J2:(prog.info? 3).map (λi=>(i.zero,i.size,i.bytes))=some (some (zi 0),1,8):=zk
def Aam(p:Aw)(w:World)(e:Ending)(w':World):Prop:=∃A n c B m d,e=.returned (.tuple #[.slice A n c,.slice B m d,zi (Cm p)])∧Bw w w'
def Aan(p:Aw)(w:World)(e:Ending)(w':World):Prop:=∃A n c,e=.returned (.tuple #[.slice A n c,zi (Cm p)])∧Bw w w'
theorem QT(W:World)(z:Int):∀(j:Nat)(u:Value),[zi z][j]?=some u->(zw W #[zi z] 3).cell? ((⟨W.heap.size,0,none⟩:Addr).add j)=some u:=λj u a=>by
 have b:Blk (W.alloc (.cells [zi z].toArray 3)) W.heap.size 3 [zi z].toArray:=Blk.new W _ _;rw[Go.WideShapes.add_plain];exact b.c (by simpa using a)
theorem QU(z:Int):∀u∈[zi z],u.oneCell'=true:=λu a=>by
 obtain rfl:u=zi z:=by simpa using a
 rfl
theorem fJ(h:T0 l w e w')(a:AK l=0):e=.returned (.tuple #[zi (Dc l:Int),zi 0])∧Bw w w':=by
 unfold T0 at h;rw[a,if_pos rfl]at h;exact h
theorem uD{e:As}(a:n.1=(k:Int))(b:p.edges[k]?=some e):(KS (Dc e.line) n.2->Fh p n=3)∧(¬KS (Dc e.line) n.2->Fh p n=0):=by
 rw[oE a b];exact⟨λh=>if_pos h,λh=>if_neg h⟩
theorem Zi(p:Aw)(E:oA)(en ec:Nat)(N:oA)(nn nc:Nat)(C:oA)(cn cc:Nat)(D:oA)(dn dc:Nat)(w:World)(h:PcA w p E en ec N nn nc C cn cc D dn dc) :
  CP 124 #[.agg #[.string p.name,.slice E en ec,zi p.grain,.slice N nn nc,.slice C cn cc,.slice D dn dc,.bool p.match_],zi 0] w (Aam p w):=by
 have V:=zH (zu2 h.eds.len h.nots.len);have e1:en<=9223372036854775807:=by rw[<-h.eds.len];exact h.small.eds
 have e2:nn<=9223372036854775807:=by rw[<-h.nots.len];exact h.small.not
 have X:Hid (Bw w (zw w #[.string p.name,.slice E en ec,zi p.grain,.slice N nn nc,.slice C cn cc,.slice D dn dc,.bool p.match_] 66)):=zA _;have HX:=zH (Blk.new w 66 #[.string p.name,.slice E en ec,zi p.grain,.slice N nn nc,.slice C cn cc,.slice D dn dc,.bool p.match_]);have ak:=zH (PN p E en ec N nn nc C cn cc D dn dc _ (h.on X.o));have HA:=zH h;clear h;go_enter func124,ntmps124
 go_wp2_with fail
 refine ak.o.mono ?_;rintro e w1 ⟨A2,m2,c2,rfl,a7,Y⟩;have S:=zH (zT X.o Y);have a0:=zH (HX.o.below Y);obtain⟨x0,x1,x2,x3,x4,x5,x6⟩:=AS a0.o;have al:=zH a7;clear Y a7;obtain⟨Z,hZ⟩:=zG (AB p);rw[hZ];have L:=zH hZ;clear hZ;by_cases h0:Z=0
 ·subst h0;obtain⟨a1,b7⟩:=al.o L.o;obtain⟨_,_,k1,k2,k3⟩:=Wm L.o;have a8:=a1.len;rw[V.o.1]at a8 k1 k2;subst a8;have am:=zH a1;have an:=zH k3;rename_i z1 z2;clear z1 z2 a1 k3;by_cases a9:16<nn
  ·have t:Hid (Cm p=5):=Wn L.o (by rw[V.o.2];exact a9)
   go_wp2_with fail
   refine bodyPost_ret (results_tmp3 rfl _ _ _) rfl ?_;exact⟨none,0,0,none,0,0,by rw[t.o];rfl,S.o⟩
  have M:=zH (show ¬16<p.notches.length by rw[V.o.2];exact a9)
  go_wp2_with fail
  go_loopw[9,11,12,13,14,15,32] (λv _ _ _ _ _ i wr=>∃(k:Nat)(zs:List Int),k<=nn∧i=zi (k:Int)∧Hid (∀(j:Nat)(m:Int×Int),j<k->p.notches[j]?=some m->Fh p m=0)∧wr.ownsRow w1.heap.size 3 1 v k (Ar zs)∧Bw w1 wr) (λ_ _ _ _ _ _ i _=>nn-(intOf i).toNat)
  case atStart=>exact⟨0,[],zs3 _,rfl,(λj m hj=>by omega),World.ownsRow_nil _ _ _ _,zJ⟩
  case round=>
   obtain⟨k,zs,hk,rfl,hz,l,f⟩:=hrel;have F:=zH (zT S.o f);have a2:=zH f;by_cases ao:k<nn
   ·obtain⟨b,b8,q,rfl,b9,hq,c0,c1⟩:=Ap (HA.o.nots.on Aa F.o) ao;obtain⟨q1,q2⟩:=q;simp only at c0 c1;have HQ:=zH hq;have a3:Bw wr (zw wr #[zi q1,zi q2] 279):=zA _;have a:=zH a3;have ap:=zH (Ah l a3);have aq:Hid (∀g,u9.ownBlock=some g->g<wr.heap.size∧w1.heap.size<=g):=λg e=>⟨(l.lt _ e).2,(l.lt _ e).1⟩
    obtain⟨x0,x1,x2,x3,x4,x5,x6⟩:=AS (a0.o.below f);have ba:=(a0.o.below f).lt;have ay:w.heap.size<wr.heap.size+1:=zO;have aa:=f.size;obtain⟨i1,i2⟩:=zI (k:=k) (n:=nn) (by omega);clear hq l f a3;by_cases G:q1<0∨(en:Int)<=q1
    ·have t:Hid (Cm p=3):=RK L.o M.o HQ.o hz.out (eX (by rw[V.o.1];exact G)) zD;by_cases az:q1<0
     ·clear G
      go_wp2_with fail
      refine bodyPost_ret (results_tmp3 rfl _ _ _) rfl ?_;exact⟨none,0,0,none,0,0,by rw[t.o];rfl,zT F.o a.o⟩
     have bb:(en:Int)<=q1:=zO;clear G
     go_wp2_with fail
     refine bodyPost_ret (results_tmp3 rfl _ _ _) rfl ?_;exact⟨none,0,0,none,0,0,by rw[t.o];rfl,zT F.o a.o⟩
    obtain⟨k1,rfl⟩:∃k1:Nat,q1=(k1:Int):=⟨q1.toNat,by omega⟩;have ab:k1<en:=zO;obtain⟨b2,b0,x,B,ln,lc,rfl,b1,hx,d0,d1,H,bc⟩:=EO (HA.o.eds.on Bq F.o) ab;obtain⟨b3,O,x',B3,ln3,lc3,rfl,R,a4,f0,f1,r,aj⟩:=EO (am.o.on Bq a2.o) ab;rw[hx]at a4;obtain rfl:=zs6 a4;have J:=an.o k1 x hx;obtain⟨g1,g2⟩:=uD (n:=((k1:Int),q2)) (p:=p) rfl hx;have ac:=zH (zu2 g1 g2);have b4:ln<=1000:=by rw[<-H.len];have:=(CB J).1;omega
    have b5:ln3<=1000:=by rw[<-r.len];have:=(CB J).1;omega
    have b6:=YO J;have ar:=zH (Pz B ln lc x.line _ (H.on Aa a.o) zO);have au:=zH (λW (y:Bw wr W)=>Pz B3 ln3 lc3 x.line W (r.on Aa y) zO);have HP:=zH (λW=>Wu (Dc x.line) q2 W zO);have ae:=zH J;have af:=zH (λW' (y:Bw (zw wr #[zi (k1:Int),zi q2] 279) W')=>M3 (g:=b3) (o:=O+k1*2) (Blk.new wr 279 #[zi (k1:Int),zi q2]) (zs1 R a.o.size) ((a.o.cell (p:=ad b3 (O+k1*2)) R).trans f0) ((a.o.cell (p:=ad b3 (O+k1*2+1)) R).trans f1) y);have j1:(k1:Int)<(en:Int):=zO;clear hx a4 H r J g1 g2 G f0 f1 aj
    go_wp2_with fail
    refine ar.o.mono ?_;rintro e w2 s;obtain⟨rfl,I⟩:=fJ s ae.o;have ag:=zH I;obtain⟨p0,p1,p2,p3⟩:=af.o w2 I;clear s I
    go_wp2_with fail
    refine(au.o _ (zT a.o ag.o)).mono ?_;rintro e w3 s;obtain⟨rfl,I⟩:=fJ s ae.o;have ah:=zH (Ag ag.o I);obtain⟨p0,p1,p2,p3⟩:=af.o w3 ah.o;clear s I
    go_wp2_with fail
    refine(HP.o _).mono ?_;rintro e w4 ⟨z,kk,rfl,a5,T,I⟩;have K:=zH (Ag ah.o I);have ai:=zH (zu2 a5 T);clear a5 T I;by_cases y:KS (Dc x.line) q2
    ·have a6:=ai.o.1 y;subst a6;have t:Hid (Cm p=3):=RK L.o M.o HQ.o hz.out (ac.o.1 y) zD;clear y
     go_wp2_with fail
     refine bodyPost_ret (results_tmp3 rfl _ _ _) rfl ?_;exact⟨none,0,0,none,0,0,by rw[t.o];rfl,F.o.trans ((zT a.o K.o).mono F.o.size)⟩
    have a6:=ai.o.2 y;subst a6
    have av:Hid (∀(j:Nat)(m:Int×Int),j<k+1->p.notches[j]?=some m->Fh p m=0):=λj m hj U=>by
     by_cases e:j=k
     ·subst e;rw[HQ.o]at U;rw[<-zs6 U];exact ac.o.2 y
     exact hz.out j m zO U
    clear y;have b3':k+1<=maxLen:=by unfold maxLen;omega
    have b4':(k+1)*8<=140737488355328:=zO;go_wp2_with(at_builtin;refine Bt (P:=prog) (by rfl) _ _ 23 (by rfl) w1.heap.size 3 (zi 0) 1 8 underlying23 J2 rfl zD u9 k (Ar zs) (by rfl) (Ah ap.o (by exact Below.alo K.o _)) ⟨w4.heap.size,0,none⟩ 1 1 [zi z] (by rfl) (by rfl) (QT w4 z) (QU z) b3' b4' (by exact zs0 aa (zs0 a.o.size (zs0 K.o.size (J0 _ _)))) ?_;intro v5 w5 aw ax bd)
    go_roundw
    case rel=>
     refine⟨k+1,zs++[z],by omega,by go_num,av,?_,?_⟩
     ·rw[show Ar (zs++[z])=Ar zs++[zi z]by simp[Ar]];exact aw
     exact Ax (a2.o.trans ((a.o.trans ((Below.alo K.o _).mono a.o.size)).mono a2.o.size)) ax (zs0 aa (zs0 a.o.size (zs0 K.o.size (J0 _ _)))) (λg e=>(aq.o g e).2)
    case measure=>exact zM
   obtain rfl:k=nn:=zO;have t:Hid (Cm p=0):=eW L.o M.o λi m U=>hz.out i m (by have:=(zq1.1 U).1;rw[V.o.2]at this;exact this) U
   obtain⟨Q,qc,rfl⟩:=AX l;clear hz l f
   go_wp2_with fail
   refine bodyPost_ret (results_tmp3 rfl _ _ _) rfl ?_;exact⟨_,_,_,_,_,_,by rw[t.o];rfl,F.o⟩
 have be:(Z != 0)=true:=by simpa using h0
 have t:Hid (Cm p=Z):=S8 L.o h0;clear h0
 go_wp2_with fail
 refine bodyPost_ret (results_tmp3 rfl _ _ _) rfl ?_;exact⟨none,0,0,none,0,0,by rw[t.o];rfl,S.o⟩
theorem Zj(p:Aw)(E:oA)(en ec:Nat)(N:oA)(nn nc:Nat)(C:oA)(cn cc:Nat)(D:oA)(dn dc:Nat)(w:World)(h:PcA w p E en ec N nn nc C cn cc D dn dc) :
  CP 84 #[.agg #[.string p.name,.slice E en ec,zi p.grain,.slice N nn nc,.slice C cn cc,.slice D dn dc,.bool p.match_],zi 0] w (Aan p w):=by
 have a:Hid (Bw w (zw w #[.string p.name,.slice E en ec,zi p.grain,.slice N nn nc,.slice C cn cc,.slice D dn dc,.bool p.match_] 66)):=zA _;have f:=zH (Zi p E en ec N nn nc C cn cc D dn dc _ (h.on a.o));clear h;go_enter func84,ntmps84
 go_wp2_with fail
 refine f.o.mono ?_;rintro e w1 ⟨A1,n1,c1,B1,m1,d1,rfl,b⟩
 go_wp2_with fail
 go_ret2
 exact⟨_,_,_,rfl,zT a.o b⟩
theorem oQ(s:ByteArray):decide (Id ⟨[s],0,[]⟩=0)=Bl s.data.toList:=by
 have a:¬(12<(Cb.mk [s] 0 []).sizes.length∨32<(Cb.mk [s] 0 []).rows.length):=by simp
 cases h:Bl s.data.toList
 ·rw[GV a (by unfold Cb.right;simp[h])];rfl
 rw[cS a (by unfold Cb.right;simp[h]) (by rfl) (by rfl) (by unfold LC;simp)];rfl
theorem oR(w:World)(s:ByteArray)(a:s.size<=9223372036854775807):LS (zw w #[.string s] 9) (sa w.heap.size 0) 1 1 none 0 0 1 ⟨[s],0,[]⟩:=by
 refine⟨⟨?_,DO.nil _ none 1⟩,zs2 _,zs2 _,by omega,by omega,by omega,by omega,λi t h=>?_,λi r h=>by simp at h⟩
 ·have:=Sl.lit w #[.string s] 9 (n:=1) (xs:=Hh [s]) rfl rfl;simpa using this
 have:t∈[s]:=zq2 h;obtain rfl:t=s:=by simpa using this
 omega
theorem fK(s:ByteArray)(w:World)(j:s.size<=9223372036854775807) :
  CP 81 #[.string s] w (zR (.bool (Bl s.data.toList)) w):=by
 have f:Bw w (zw w #[.string s] 9):=zA _;have b:=eV _ 1 1 none 0 0 1 ⟨[s],0,[]⟩ _ (oR w s j);have k:=zH (oQ s);generalize Id ⟨[s],0,[]⟩=z at *
 have b:=zH b;have g:=zH f;clear f;go_enter func81,ntmps81;go_wp2_with(go_at_call 118;refine b.o.mono ?_;rintro e w1 ⟨rfl,a⟩;have i:=zH (zT g.o a);clear a)
 go_ret;exact⟨by rw[<-k.o];rfl,i.o⟩
theorem RO(s:Al)(Z:oA)(z zc:Nat)(M:oA)(m mc:Nat)(P:oA)(p pc:Nat)(U:oA)(u uc:Nat)(E:oA)(e ec:Nat)(O:oA)(o oc:Nat)(i j:Int)(w:World)(h:Co w s Z z zc M m mc P p pc U u uc E e ec O o oc) :
  CP 53 #[.agg #[.string s.name,.slice Z z zc,.slice M m mc,.slice P p pc,.slice U u uc,.slice E e ec,.slice O o oc],zi i,zi j] w (zR (.bool (Dd s i j)) w):=by
 have f:Hid (Bw w (zw w #[.string s.name,.slice Z z zc,.slice M m mc,.slice P p pc,.slice U u uc,.slice E e ec,.slice O o oc] 29)):=zA _;have r:=zH h.pieces.len;have t:=zH h.pieces;clear h;by_cases D:0<=i
 ·by_cases F:i<(p:Int)
  ·obtain⟨k,rfl⟩:∃k:Nat,i=(k:Int):=⟨i.toNat,by omega⟩;have v:k<p:=zO;obtain⟨b,y,x,A,n,c,q1,q2,q3,q4,q5,q6,q7,q8,q9,rfl,B,g,c0,c1,c2,c3,c4,c5,c6,r1,r2,r3,r4,r5,r6,r7,r8⟩:=Ex t.o v;have l:Hid (Dd s (k:Int) j=(decide (0<=j)&&decide (j<(n:Int)))):=by rw[Hid,fC rfl g,r1.len]
   have C:b<w.heap.size+1:=zO;clear g c0 c2 c3 c4 c5 c6 r1 r2 r3 r4 r5 r6 r7 r8;by_cases q:0<=j
   ·have a:Hid (Dd s (k:Int) j=decide (j<(n:Int))):=by rw[Hid,l.o,zu1 q];rfl
    go_enter func53,ntmps53;go_wp2;go_ret;exact⟨by rw[a.o];rfl,f.o⟩
   have a:Hid (Dd s (k:Int) j=false):=by rw[Hid,l.o,zu0 q];rfl
   go_enter func53,ntmps53;go_wp2;go_ret;exact⟨by rw[a.o];rfl,f.o⟩
  have a:Hid (Dd s i j=false):=PI (by rw[r.o];omega);go_enter func53,ntmps53;go_wp2;go_ret;exact⟨by rw[a.o];rfl,f.o⟩
 have a:Hid (Dd s i j=false):=PI zO;go_enter func53,ntmps53;go_wp2;go_ret;exact⟨by rw[a.o];rfl,f.o⟩
theorem Sl.icontains(h:Sl w w.heap.size S i (Ar zs))(x:Int)(hi:i<=9223372036854775807) :
  CP 82 #[.slice S i c,zi x] w λe w'=>e=.returned (.bool (zs.contains x))∧w=w':=by
 rcases Nat.eq_zero_or_pos i with a|a
 ·subst a;have l:zs=[]:=zt7 h.ilen;subst l;exact(Tryz.slices_Contains_int_empty S c x w).mono λe w' ⟨f,g⟩=>⟨by rw[f];rfl,g.symm⟩
 obtain⟨b,k,rfl,o,m⟩:=h.2 a;have p:=h.ilen;refine(Tryz.slices_Contains_int b k i c zs x w zO zO (λj n=>?_)).mono λe w' ⟨f,g⟩=>⟨?_,g.symm⟩
 ·apply m;simp[Ar,zq0 n]
 rw[f,zq4 zO]
theorem Kt(w:World):(zeroValue 4).run prog w=.ok (zF) w:=zk
theorem fM(s:Al)(Z:oA)(z zc:Nat)(M:oA)(m mc:Nat)(P:oA)(p pc:Nat)(U:oA)(u uc:Nat)(E:oA)(e ec:Nat)(O:oA)(o oc:Nat)(w:World)(h:Co w s Z z zc M m mc P p pc U u uc E e ec O o oc)(Q:Dj s) :
  CP 51 #[.agg #[.string s.name,.slice Z z zc,.slice M m mc,.slice P p pc,.slice U u uc,.slice E e ec,.slice O o oc]] w (zR (zi (AM s)) w):=by
 have J:Hid (Bw w (zw w #[.string s.name,.slice Z z zc,.slice M m mc,.slice P p pc,.slice U u uc,.slice E e ec,.slice O o oc] 29)):=zA _;have HX:=zH (Blk.new w 29 #[.string s.name,.slice Z z zc,.slice M m mc,.slice P p pc,.slice U u uc,.slice E e ec,.slice O o oc]);have HA:=zH h;have HS:=zH Q;have n:=zH (zu2 h.sizes.slen (zu2 h.mults.ilen (zu2 h.pieces.len (zu2 h.uses.len (zu2 h.seams.len h.ops.len)))));have l1:z<=9223372036854775807:=by rw[<-h.sizes.slen];exact Q.szs
 have l2:m<=9223372036854775807:=by rw[<-h.mults.ilen];exact Q.mul
 have l3:p<=9223372036854775807:=by rw[<-h.pieces.len];exact Q.pcs
 have l4:u<=9223372036854775807:=by rw[<-h.uses.len];exact Q.us
 have l5:e<=9223372036854775807:=by rw[<-h.seams.len];exact Q.sm
 have l6:o<=9223372036854775807:=by rw[<-h.ops.len];exact Q.ops
 have C:=λW=>RG s.name W (zV Q.nm)
 clear h Q
 cases hnm:AD s.name.data.toList
 ·have a:Hid (AM s=1):=PF (.inl hnm);simp only[hnm]at C;have C:=zH C;clear hnm;go_enter func51,ntmps51;go_wp2_with(go_at_call 80;refine(C.o _).mono ?_;rintro e w1 ⟨rfl,y⟩;have K:=zH (zT J.o y);clear y)
  go_ret;exact⟨by rw[a.o];rfl,K.o⟩
 by_cases hz:z=0
 ·have a:Hid (AM s=1):=PF (.inr (by rw[n.o.1];exact hz));simp only[hnm]at C;have C:=zH C;subst hz;clear hnm;go_enter func51,ntmps51;go_wp2_with(go_at_call 80;refine(C.o _).mono ?_;rintro e w1 ⟨rfl,y⟩;have K:=zH (zT J.o y);obtain⟨x0,x1,x2,x3,x4,x5,x6⟩:=AS (HX.o.below y);clear y)
  go_ret;exact⟨by rw[a.o];rfl,K.o⟩
 have D:Hid (¬(AD s.name.data.toList=false∨s.sizes.length=0)):=λh=>by
  rcases h with h|h
  ·rw[hnm]at h;cases h
  rw[n.o.1]at h;exact hz h
 simp only[hnm]at C;have C:=zH C;have am:((z:Int) == 0)=false:=by simpa using hz
 clear hnm;go_enter func51,ntmps51
 go_wp2_with fail
 refine(C.o _).mono ?_;rintro e w1 ⟨rfl,y⟩;have K:=zH (zT J.o y);have a5:=zH (HX.o.below y);obtain⟨x0,x1,x2,x3,x4,x5,x6⟩:=AS a5.o;clear y
 go_wp2_with fail
 go_loopw[4,23] (λ_ i wr=>∃k:Nat,k<=z∧i=zi (k:Int)∧Hid (∀(j:Nat)(t:ByteArray),j<k->s.sizes[j]?=some t->Bl t.data.toList=true)∧Bw w1 wr) (λ_ i _=>z-(intOf i).toNat)
 case atStart=>exact⟨0,zs3 _,rfl,(λj t hj=>by omega),zJ⟩
 case round=>
  obtain⟨k,hk,rfl,l,f⟩:=hrel;have R:=zH (zT K.o f);have a6:=zH f;by_cases F:k<z
  ·obtain⟨b,a7,t,rfl,a8,ht,c0⟩:=(HA.o.sizes.on R.o).str_ F;have HT:=zH ht;have B:=λW=>fK t W (HS.o.sz t (zq2 ht))
   obtain⟨i1,i2⟩:=zI (k:=k) (n:=z) (by omega);clear ht f
   cases hq:Bl t.data.toList
   ·have a:Hid (AM s=1):=Ze D.o HT.o hq;simp only[hq]at B;have B:=zH B;clear hq;go_wp2_with(go_at_call 81;refine(B.o _).mono ?_;rintro e w2 ⟨rfl,S⟩;have a0:=zH (zT R.o S);clear S)
    go_ret;exact⟨by rw[a.o];rfl,a0.o⟩
   have a:Hid (∀(j:Nat)(t:ByteArray),j<k+1->s.sizes[j]?=some t->Bl t.data.toList=true):=λj t' hj a1=>by
    by_cases e:j=k
    ·subst e;rw[HT.o]at a1;rw[<-zs6 a1];exact hq
    exact l.out j t' zO a1
   simp only[hq]at B;have B:=zH B;clear hq;go_wp2_with(go_at_call 81;refine(B.o _).mono ?_;rintro e w2 ⟨rfl,S⟩;have a0:=zH (zT a6.o S);clear S)
   go_roundw
   case rel=>exact⟨k+1,by omega,by go_num,a,a0.o⟩
   case measure=>exact zM
  obtain rfl:z=k:=zO;have I:=zH (fA (s:=s) λj t ht=>l.out j t (by have:=(zq1.1 ht).1;rw[n.o.1]at this;exact this) ht);have Y:=zH (a5.o.below f);clear x0 x1 x2 x3 x4 x5 x6 l f F hk;obtain⟨x0,x1,x2,x3,x4,x5,x6⟩:=AS Y.o;by_cases a2:m=z
  ·subst a2;have T:=(HA.o.mults.on R.o).icontains (c:=mc) 0 zO;by_cases L:(0:Int)∈s.multiples
   ·have V:Hid (¬(s.multiples.length≠s.sizes.length∨0∉s.multiples)):=λh=>by
     rcases h with h|h
     ·exact h (by rw[n.o.1,n.o.2.1])
     exact h L
    rw[show s.multiples.contains 0=true by simpa using L]at T;have T:=zH T;have aa:=@run_makeMap prog;clear L;obtain⟨wm,rfl⟩:∃wm:World,wm=wr:=⟨_,rfl⟩;have an:=Y.o.lt;have uK:=underlying176;have ao:=zH (Y.o.alloc (.map #[] 0));have ab:Hid (Bw wm (wm.alloc (.map #[] 0))):=zA _;go_wp2_with(go_at_call 82;refine T.o.mono ?_;rintro e w2 ⟨rfl,rfl⟩)
    clear aa
    go_loopw[7,48] (λ_ i wr=>∃k:Nat,k<=m∧i=zi (k:Int)∧Hid (∀(i:Nat)(x:ByteArray),i<k->s.sizes[i]?=some x->x∉s.sizes.take i)∧I4 Value.string wr wm.heap.size (s.sizes.take k)∧Bw wm wr) (λ_ i _=>m-(intOf i).toNat)
    case atStart=>exact⟨0,zs3 _,rfl,(λj b hj=>by omega),I4.made _ _,ab.o⟩
    case round=>
     obtain⟨k,hk,rfl,l,a3,f⟩:=hrel;have r:=zH (zT R.o f);have a4:=zH f;have ac:=zH (Y.o.below f);by_cases F:k<m
     ·obtain⟨b,a7,x,rfl,a8,G,c0⟩:=(HA.o.sizes.on r.o).str_ F;have N:=zH G;obtain⟨i1,i2⟩:=zI (k:=k) (n:=m) (by omega);obtain⟨mm,hm,a9⟩:=a3;have HM:=zH (zu2 hm a9);clear G hm a9 f;by_cases v:x∈s.sizes.take k
      ·have a:Hid (AM s=7):=Wq D.o I.o V.o (by
        cases hq:Di s.sizes
        ·rfl
        exact absurd v (IL.1 hq k x N.o))
       have HD:Hid ((Cz mm x).getD (zF)=zY):=HM.o.2.get_yes v;clear v;go_wp2_with(at_lookup;refine PJ (by rfl) _ _ _ _ (by rfl) (QS underlying9) uK (Kt _) (by rfl) HM.o.1 x (by rfl) ?_;simp only[HD.o])
       go_ret;exact⟨by rw[a.o];rfl,r.o⟩
      have HD:Hid ((Cz mm x).getD (zF)=zF):=HM.o.2.get_no v
      have a:Hid (∀(i:Nat)(x:ByteArray),i<k+1->s.sizes[i]?=some x->x∉s.sizes.take i):=λi x' hi H=>by
       by_cases e:i=k
       ·subst e;rw[N.o]at H;rw[<-zs6 H];exact v
       exact l.out i x' zO H
      clear v
      go_wp2_with(first
       | (at_lookup;refine PJ (by rfl) _ _ _ _ (by rfl) (QS underlying9) uK (Kt _) (by rfl) HM.o.1 x (by rfl) ?_;simp only[HD.o])
       | (at_mapUpdate;refine Zg (by rfl) _ _ _ _ (by rfl) (QS underlying9) uK (by rfl) HM.o.1 x (by rfl) _ (by rfl) ?_;intro w5 ae af))
      go_roundw
      case rel=>
       refine⟨k+1,by omega,by go_num,a,⟨_,ae,?_⟩,Ax a4.o af a4.o.size (λg e=>by injection e with e;omega)⟩
       have:=HM.o.2.add x;rw[List.take_add_one,N.o];exact this
      case measure=>exact zM
     obtain rfl:m=k:=zO;have X:Hid (Di s.sizes=true):=IL.2 λi x G=>l.out i x (by have:=(zq1.1 G).1;rw[n.o.1]at this;exact this) G
     clear l a3 f x0 x1 x2 x3 x4 x5 x6 hk F;obtain⟨x0,x1,x2,x3,x4,x5,x6⟩:=AS ac.o;by_cases ag:12<m
     ·have a:Hid (AM s=5):=LT D.o I.o V.o X.o (.inl (by rw[n.o.1];exact ag))
      go_wp2_with fail
      go_ret;exact⟨by rw[a.o];rfl,r.o⟩
     by_cases ah:12<p
     ·have a:Hid (AM s=5):=LT D.o I.o V.o X.o (.inr (.inl (by rw[n.o.2.2.1];exact ah)))
      go_wp2_with fail
      go_ret;exact⟨by rw[a.o];rfl,r.o⟩
     by_cases ai:12<u
     ·have a:Hid (AM s=5):=LT D.o I.o V.o X.o (.inr (.inr (by rw[n.o.2.2.2.1];exact ai)))
      go_wp2_with fail
      go_ret;exact⟨by rw[a.o];rfl,r.o⟩
     have H5:Hid (¬(12<s.sizes.length∨12<s.pieces.length∨12<s.uses.length)):=λh=>by
      rw[n.o.1,n.o.2.2.1,n.o.2.2.2.1]at h;omega
     by_cases aj:24<e
     ·have a:Hid (AM s=5):=PH D.o I.o V.o X.o H5.o (.inl (by rw[n.o.2.2.2.2.1];exact aj))
      go_wp2_with fail
      go_ret;exact⟨by rw[a.o];rfl,r.o⟩
     by_cases ak:16<o
     ·have a:Hid (AM s=5):=PH D.o I.o V.o X.o H5.o (.inr (by rw[n.o.2.2.2.2.2];exact ak))
      go_wp2_with fail
      go_ret;exact⟨by rw[a.o];rfl,r.o⟩
     have H6:Hid (¬(24<s.seams.length∨16<s.ops.length)):=λh=>by
      rw[n.o.2.2.2.2.1,n.o.2.2.2.2.2]at h;omega
     go_wp2_with fail
     go_loopw[9,87] (λ_ i wq=>∃k:Nat,k<=m∧i=zi (k:Int)∧Hid (∀(j:Nat)(x:Int),j<k->s.multiples[j]?=some x->-100<=x∧x<=100)∧wr=wq) (λ_ i _=>m-(intOf i).toNat)
     case atStart=>exact⟨0,zs3 _,rfl,(λj x hj=>by omega),by trivial⟩
     case round=>
      obtain⟨k,hk,rfl,l,rfl⟩:=hrel;by_cases F:k<m
      ·obtain⟨b,a7,x,rfl,a8,G,c0⟩:=(HA.o.mults.on r.o).int_ F;have N:=zH G;obtain⟨i1,i2⟩:=zI (k:=k) (n:=m) (by omega);clear G;by_cases v : -100<=x∧x<=100
       ·have a:Hid (∀(j:Nat)(x:Int),j<k+1->s.multiples[j]?=some x->-100<=x∧x<=100):=λj x' hj H=>by
         by_cases ej:j=k
         ·subst ej;rw[N.o]at H;rw[<-zs6 H];exact v
         exact l.out j x' zO H
        obtain⟨q1,q2⟩:=v;have q3:¬x < -100:=zO;have q4:¬100<x:=zO
        go_wp2_with fail
        go_roundw
        case rel=>exact⟨k+1,by omega,by go_num,a,by trivial⟩
        case measure=>exact zM
       have a:Hid (AM s=3):=oF D.o I.o V.o X.o H5.o H6.o N.o zO;by_cases q:x < -100
       ·clear v
        go_wp2_with fail
        go_ret;exact⟨by rw[a.o];rfl,r.o⟩
       have q2:100<x:=zO;clear v
       go_wp2_with fail
       go_ret;exact⟨by rw[a.o];rfl,r.o⟩
      obtain rfl:m=k:=zO;have a:Hid (AM s=0):=oG D.o I.o V.o X.o H5.o H6.o λj x G=>l.out j x (by have:=(zq1.1 G).1;rw[n.o.2.1]at this;exact this) G
      go_wp2_with fail
      go_ret;exact⟨by rw[a.o];rfl,r.o⟩
   have a:Hid (AM s=1):=PG D.o I.o (.inr L);rw[show s.multiples.contains 0=false by simpa using L]at T;have T:=zH T;clear L;go_wp2_with(go_at_call 82;refine T.o.mono ?_;rintro e w2 ⟨rfl,rfl⟩)
   go_ret;exact⟨by rw[a.o];rfl,R.o⟩
  have a:Hid (AM s=1):=PG D.o I.o (.inl (by rw[n.o.1,n.o.2.1];exact a2));have al:((m:Int) != (z:Int))=true:=by simp;omega
  clear a2
  go_wp2_with fail
  go_ret;exact⟨by rw[a.o];rfl,R.o⟩
end Go.Proofs.YteafekbddckemaaGreatDoor
