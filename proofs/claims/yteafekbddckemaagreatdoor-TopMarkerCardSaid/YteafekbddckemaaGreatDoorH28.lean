/- Parts of the proof. -/
import Derived.Test.YteafekbddckemaaGreatDoorH27
set_option maxRecDepth 100000
set_option maxHeartbeats 40000000
namespace Go.Proofs.YteafekbddckemaaGreatDoor
open Tryz Go.RowKit
open Go.Lib hiding intOf
variable{L a l r:lP}{T:TypeId}{W1 w w':World}{b:AG}{done placed:List PL}{g i j mb p:Nat}{k:QO}{s:Ae}{t:Az}{v v':Value}{z:Int}
def Eb(x0 y0 y1:Int)(v:Pt):List Pt:=[v,(v.1,y0),(v.1,y1),(x0,v.2)]
theorem Me(h:EK a=.error z):BO b a placed=.error z:=by unfold BO;rw[h]
theorem Mf(h:EK a=.ok k)(e:AE (placed.map λq=>Cs q a)=.error z):BO b a placed=.error z:=by unfold BO;rw[h];simp only[e]
theorem Qr{l:List PL}(h:EK a=.ok k)(e:AE (placed.map λq=>Cs q a)=.ok l):BO b a placed=.ok (AJ [] ([(-k.x,-k.y),(-k.x,b.width-k.y-k.h)]++(l.flatMap id).flatMap (Eb (-k.x) (-k.y) (b.width-k.y-k.h)))):=by unfold BO;rw[h];simp only[e];rfl
theorem Qs{b:lP}(h:Cs a b=.error z):z≠0:=by
 unfold Cs at h;split at h
 ·rename_i e f;injection h with h
  subst h;exact Nk f
 cases h
theorem So{b:lP}(h:Cs a b=.ok r):r.length<=300000:=by
 unfold Cs at h;split at h
 ·cases h
 rename_i rs e;injection h with h
 subst h;have g:=List.length_filter_le (λv=>!CX rs v) (Dx (rs.flatMap id));have i:=NV (rs.flatMap id);have j:=Or e;have k:=NX 160 (λr f=>(Mc e r f).2);omega
theorem UZ{p:lP}(h:EK p=.error z):z≠0:=by
 unfold EK at h;split at h
 ·rename_i a;injection h with h
  rw[<-h];exact a
 cases h
theorem XO:∀{l:lP}{a:Pt},inG a->(∀s∈l,inG s)->inG (l.foldl loP a)
 | [],a,ha,_=>ha
 | s::l,a,ha,h=>XO (l:=l) (by
  obtain⟨a1,a2,a3,a4⟩:=ha;obtain⟨s1,s2,s3,s4⟩:=h s zP;unfold loP inG;simp only;omega) (λx b=>h x (by simp[b]))
theorem XQ:∀{l:lP}{a:Pt},inG a->(∀s∈l,inG s)->inG (l.foldl hiP a)
 | [],a,ha,_=>ha
 | s::l,a,ha,h=>XQ (l:=l) (by
  obtain⟨a1,a2,a3,a4⟩:=ha;obtain⟨s1,s2,s3,s4⟩:=h s zP;unfold hiP inG;simp only;omega) (λx b=>h x (by simp[b]))
theorem U1{p:lP}(h:EK p=.ok k) : -1048576<=k.x∧k.x<=1048576∧-1048576<=k.y∧k.y<=1048576∧-2097152<=k.w∧k.w<=2097152∧-2097152<=k.h∧k.h<=2097152:=by
 by_cases a:An p=0
 ·obtain⟨g1,g2,g3⟩:=Fs a;rw[Up a]at h;injection h with h
  subst h;obtain⟨a1,a2,a3,a4⟩:=XO (Cy g1 zO 0) g1;obtain⟨b1,b2,b3,b4⟩:=XQ (Cy g1 zO 0) g1;simp only;omega
 unfold EK at h;rw[if_pos a]at h
 cases h
theorem Ka{a b:Pt}(h:Blk w g T #[zi a.1,zi a.2,zi b.1,zi b.2]):Ab 2 Ad w (sa g 0) 2 [a,b]:=by
 refine⟨rfl,λ_=>⟨g,0,rfl,h.lt,λj x f=>⟨_,rfl,λi u e=>?_⟩⟩⟩
 match j,f with
 | 0,f=>
  injection f with f
  subst f
  match i,e with
  | 0,e=>injection e with e;subst e;exact h.c rfl
  | 1,e=>injection e with e;subst e;exact h.c rfl
 | 1,f=>
  injection f with f
  subst f
  match i,e with
  | 0,e=>injection e with e;subst e;exact h.c rfl
  | 1,e=>injection e with e;subst e;exact h.c rfl
theorem Sp{a b c d:Pt}(h:Blk w g T #[zi a.1,zi a.2,zi b.1,zi b.2,zi c.1,zi c.2,zi d.1,zi d.2]):Ab 2 Ad w (sa g 0) 4 [a,b,c,d]:=by
 refine⟨rfl,λ_=>⟨g,0,rfl,h.lt,λj x f=>⟨_,rfl,λi u e=>?_⟩⟩⟩
 match j,f with
 | 0,f=>
  injection f with f
  subst f
  match i,e with
  | 0,e=>injection e with e;subst e;exact h.c rfl
  | 1,e=>injection e with e;subst e;exact h.c rfl
 | 1,f=>
  injection f with f
  subst f
  match i,e with
  | 0,e=>injection e with e;subst e;exact h.c rfl
  | 1,e=>injection e with e;subst e;exact h.c rfl
 | 2,f=>
  injection f with f
  subst f
  match i,e with
  | 0,e=>injection e with e;subst e;exact h.c rfl
  | 1,e=>injection e with e;subst e;exact h.c rfl
 | 3,f=>
  injection f with f
  subst f
  match i,e with
  | 0,e=>injection e with e;subst e;exact h.c rfl
  | 1,e=>injection e with e;subst e;exact h.c rfl
theorem Lq{a:Nat}(h:Dp w a p (some mb) v L):∀i,Dq p (some mb) v i->a<=i∧i<w.heap.size:=λi hi=>by
 rcases hi with rfl|e|e
 ·exact⟨h.low,h.box.lt⟩
 ·injection e with e
  subst e;exact⟨(h.mp _ rfl).2,(h.mp _ rfl).1.lt⟩
 have:=h.row.lt i e;exact⟨this.1,this.2⟩
theorem N0{a:Nat}(h:Dp w a p none v L):∀i,Dq p none v i->a<=i∧i<w.heap.size:=λi hi=>by
 rcases hi with rfl|e|e
 ·exact⟨h.low,h.box.lt⟩
 ·cases e
 have:=h.row.lt i e;exact⟨this.1,this.2⟩
theorem vH{mb':Nat}(h:¬Dq p (some mb) v i)(hi:i<w.heap.size)(a:some mb=some mb'∨w.heap.size<=mb')(b:∀g,v'.ownBlock=some g->v.ownBlock=some g∨w.heap.size<=g):¬Dq p (some mb') v' i:=λf=>by
 rcases f with rfl|e|e
 ·exact h (.inl rfl)
 ·injection e with e
  subst e;rcases a with e|e
  ·exact h (.inr (.inl e))
  omega
 rcases b i e with e|e
 ·exact h (.inr (.inr e))
 omega
theorem N2(w:World):Dp (zw w #[.map none,zn] 197) w.heap.size w.heap.size none (zn) []:=
 ⟨Blk.new _ _ _,World.ownsRow_nil _ _ _ _,λmb e=>(by cases e),λ_=>rfl,zs2 _⟩
theorem iP(w:World)(a b:Pt) :
  CP 102 #[.pointer (sa w.heap.size 0),.slice (sa (w.heap.size+1) 0) 2 2] (zw (zw w #[.map none,zn] 197) #[zi a.1,zi a.2,zi b.1,zi b.2] 56) (Qn w.heap.size w.heap.size none (zn) (AJ [] [a,b]) (zw (zw w #[.map none,zn] 197) #[zi a.1,zi a.2,zi b.1,zi b.2] 56)):=by
 refine Pb w.heap.size w.heap.size none (zn) [] (sa (w.heap.size+1) 0) 2 2 [a,b] _ ((N2 w).below (zA _)) (Ka (Blk.new' _ _ _ zP)) (λb' g e f=>?_) zO zP zQ;injection e with e
 injection e with e1 e2
 have:=(N0 (N2 w) b' f).2;simp at this;omega
theorem pY{f:Nat}(h:Dp w f p (some mb) v L)(g:f<=w.heap.size)(i:L.length<=10000000000)(a b c d:Pt) :
  CP 102 #[.pointer (sa p 0),.slice (sa w.heap.size 0) 4 4] (zw w #[zi a.1,zi a.2,zi b.1,zi b.2,zi c.1,zi c.2,zi d.1,zi d.2] 56) (Qn f p (some mb) v (AJ L [a,b,c,d]) (zw w #[zi a.1,zi a.2,zi b.1,zi b.2,zi c.1,zi c.2,zi d.1,zi d.2] 56)):=by
 refine Pb f p (some mb) v L (sa w.heap.size 0) 4 4 [a,b,c,d] _ (h.below (zA _)) (Sp (Blk.new _ _ _)) (λb' j e g=>?_) zO i zQ;injection e with e
 injection e with e1 e2
 have:=(Lq h b' g).2;omega
theorem pZ{a:Pt}(h:Blk w g T #[zi a.1,zi a.2]):Ab 2 Ad w (sa g 0) 1 [a]:=by
 refine⟨rfl,λ_=>⟨g,0,rfl,h.lt,λj x e=>⟨_,rfl,λi u b=>?_⟩⟩⟩
 match j,e with
 | 0,e=>
  injection e with e
  subst e
  match i,b with
  | 0,b=>injection b with b;subst b;exact h.c rfl
  | 1,b=>injection b with b;subst b;exact h.c rfl
theorem qA{b:Nat}{mo:Option Nat}(h:Dp w b p mo v L)(f:b<=w.heap.size)(g:L.length<=10000000000)(a:Pt) :
  CP 102 #[.pointer (sa p 0),.slice (sa w.heap.size 0) 1 1] (zw w #[zi a.1,zi a.2] 56) (Qn b p mo v (AJ L [a]) (zw w #[zi a.1,zi a.2] 56)):=by
 refine Pb b p mo v L (sa w.heap.size 0) 1 1 [a] _ (h.below (zA _)) (pZ (Blk.new _ _ _)) (λb' i e f=>?_) zO g zQ;injection e with e
 injection e with e1 e2
 cases mo with
 | none=>
  have:=(N0 h b' f).2;omega
 | some mb=>
  have:=(Lq h b' f).2;omega
theorem Mg(x0 y0 y1:Int):∀l:List Pt,(l.flatMap (Eb x0 y0 y1)).length=4*l.length
 | []=>rfl
 | v::l=>by
  rw[List.flatMap_cons,zq5,Mg x0 y0 y1 l,zt5];show 4+_=_;omega
theorem iQ{a:Nat}(h:Below a W1 w)(b:Off (Dq p (some mb) v) w w')(e:Dp w a p (some mb) v L)(f:a<=w.heap.size):Below a W1 w':=
 h.trans (b.below f λi hi=>(Lq e i hi).1)
theorem Z3{a:Nat}(h:Below a W1 w)(b:Off (Dq p none v) w w')(e:Dp w a p none v L)(f:a<=w.heap.size):Below a W1 w':=
 h.trans (b.below f λi hi=>(N0 e i hi).1)
theorem U2(K:Nat)(a:done.length=j)(h:∀t∈done,t.length<=K):(done.flatMap id).length<=j*K:=by
 rw[<-a];exact NX K h
theorem Z5(b:AG)(A:oA)(n c:Nat)(a:lP)(P:oA)(m d:Nat)(placed:List PL)(w:World)(ht:Ab 2 Ad w A n a)(hc:n<=c)(hn:n<=1000000)(hp:Ab 1 plG w P m placed)(hm:m<=1000)(a1:∀q∈placed,q.length<=1000000)(hb:1<=b.width∧b.width<=1048576) :
  CP 100 #[.agg #[zi b.length,zi b.width,zi b.rx,zi b.ry],.slice A n c,.slice P m d] w (Fz (BO b a placed) w):=by
 obtain⟨Q,hQ⟩:=zG (Fz (BO b a placed) w);rw[hQ];have D:Hid (Bw w (w.alloc (.cells #[zi b.length,zi b.width,zi b.rx,zi b.ry] 33))):=zH (Rg b w);have HX:=zH (Blk.new w 33 #[zi b.length,zi b.width,zi b.rx,zi b.ry]);have HA:=zH ht;have HP:=zH hp;have bb:=zH a1;have F:=zH (λW (h:Bw w W)=>XD A n c a W (ht.on Aa h) hc hn);unfold J3 at F
 cases hbx:EK a with
 | error z=>
  have hz:=UZ hbx;have bc:(z != 0)=true:=by simpa using hz
  have HQ:Hid (Q=Fz (.error z) w):=zH (by rw[<-hQ,Me hbx]);rw[hbx]at F;clear hQ ht hp a1 hbx hz;go_enter func100,ntmps100;go_wp2_with(go_at_call 68;refine(F.o _ D.o).mono ?_;rintro e w1 ⟨C,s⟩;replace s:e=.returned (.tuple #[.agg #[zi 0,zi 0,zi 0,zi 0],zi z]):=s;subst s;have a2:=zH (zT D.o C);clear C)
  rw[HQ.o];exact⟨Below.alo a2.o _,rfl⟩
 | ok k=>
  rw[hbx]at F;have bd:Hid (∀z,AE (placed.map λq=>Cs q a)=.error z->Q=Fz (.error z) w):=zH (λz h=>by rw[<-hQ,Mf hbx h]);have ai:Hid (∀l,AE (placed.map λq=>Cs q a)=.ok l->Q=Fz (.ok (AJ [] ([(-k.x,-k.y),(-k.x,b.width-k.y-k.h)]++(l.flatMap id).flatMap (Eb (-k.x) (-k.y) (b.width-k.y-k.h))))) w):=zH (λl h=>by rw[<-hQ,Qr hbx h]);obtain⟨k1,k2,k3,k4,k5,k6,k7,k8⟩:=U1 hbx;obtain⟨b1,b2⟩:=hb;have i3:IntKind.i64.wrap (b.width-k.y)=b.width-k.y:=zs5 _ zO;obtain⟨x0,a3⟩:=zG (-k.x);obtain⟨y0,a4⟩:=zG (-k.y);obtain⟨y1,a5⟩:=zG (b.width-k.y-k.h);rw[a3,a4,a5]at ai;have i1:IntKind.i64.wrap (-k.x)=x0:=by rw[<-a3];exact zs5 _ zO
  have i2:IntKind.i64.wrap (-k.y)=y0:=by rw[<-a4];exact zs5 _ zO
  have i4:IntKind.i64.wrap (b.width-k.y-k.h)=y1:=by rw[<-a5];exact zs5 _ zO
  clear hQ ht hp a1 hbx a3 a4 a5 k1 k2 k3 k4 k5 k6 k7 k8 b1 b2;go_enter func100,ntmps100;go_wp2_with(go_at_call 68;refine(F.o _ D.o).mono ?_;rintro e w1 ⟨C,s⟩;replace s:e=.returned (.tuple #[.agg #[zi k.x,zi k.y,zi k.w,zi k.h],zi 0]):=s;subst s;have a2:=zH (zT D.o C);obtain⟨z0,z1,z2,z3⟩:=Ez (HX.o.below C);have zl:=(HX.o.below C).lt;have aj:=zH (HX.o.below C);clear C)
  have O:=Blk.new w1 156 #[zi k.x,zi k.y,zi k.w,zi k.h];have S:=aj.o.alloc (.cells #[zi k.x,zi k.y,zi k.w,zi k.h] 156);have T:=zH (Below.alo a2.o (.cells #[zi k.x,zi k.y,zi k.w,zi k.h] 156));obtain⟨W1,ak⟩:=zG (w1.alloc (.cells #[zi k.x,zi k.y,zi k.w,zi k.h] 156));rw[ak]at O S T⊢
  obtain⟨g0,g1,g2,g3⟩:=Ez O;obtain⟨h0,J,h2,h3⟩:=Ez S;have be:=O.lt;have bf:=S.lt;clear O S ak z0 z1 z2 z3 zl HX aj D F;go_quiet (fail)
  have U:=zH (iP (W1.drewN nq) (x0,y0) (x0,y1));have al:=zH ((N2 (W1.drewN nq)).below (zA (.cells #[zi x0,zi y0,zi x0,zi y1] 56)));have a6:=zH (Below.alo (Below.alo (Ai (Below.refl W1.heap.size W1) nq) (.cells #[.map none,zn] 197)) (.cells #[zi x0,zi y0,zi x0,zi y1] 56));go_wp2_with(go_at_call 102;refine U.o.mono ?_;rintro e w3 ⟨rfl,mb3,v3,V,bg,bh,X⟩;have Y:=zH V;have am:=zH (Z3 a6.o X al.o a6.o.size);clear V bg bh X)
  obtain⟨B0,E⟩:=zG W1.heap.size;have an:(W1.drewN nq).heap.size=B0:=E;have b4:Hid (Dp w3 B0 B0 (some mb3) v3 (AJ [] [(x0,y0),(x0,y1)])):=zH (by have:=Y.o;rwa[an]at this);have bi:Hid (Below B0 W1 w3):=zH (by rw[<-E];exact am.o);have bj:Hid (w.heap.size<=B0):=zH (by rw[<-E];exact T.o.size);have bk:Hid (∀W,Below B0 W1 W->Bw w W):=zH (λW h=>T.o.trans (h.mono (by rw[<-E];exact T.o.size)));have ao:Hid (B0<=W1.heap.size):=zH (Nat.le_of_eq E.symm);rw[E];clear Y am a6 al U E an g0 g1 g2 g3 h0 J h2 h3 be bf i1 i2 i3 i4
  go_loopw[15,16,17,19,52,53,54,55,56,57,58,59,60,61,62,63,64,65,66,67,68,69,70,71,72,73,74,75,76,77,78,79,80,81,82,83,84,85,86,87] (λ_ _ _ _ i _ _ _ _ _ _ _ _ _ _ _ _ _ _ _ _ _ _ _ _ _ _ _ _ _ _ _ _ _ _ _ _ _ _ _ wr=>∃(j:Nat)(done:List PL)(mb:Nat)(v:Value),j<=m∧i=zi (j:Int)∧Hid (Dp wr B0 B0 (some mb) v (AJ [] ([(x0,y0),(x0,y1)]++(done.flatMap id).flatMap (Eb x0 y0 y1))))∧Hid (AE (placed.map λq=>Cs q a)=AE (done.map Except.ok++(placed.drop j).map λq=>Cs q a))∧Hid (done.length=j∧∀t∈done,t.length<=300000)∧Hid (Below B0 W1 wr)) (λ_ _ _ _ i _ _ _ _ _ _ _ _ _ _ _ _ _ _ _ _ _ _ _ _ _ _ _ _ _ _ _ _ _ _ _ _ _ _ _ _=>m-(intOf i).toNat)
  case atStart=>exact⟨0,[],mb3,v3,zs3 _,rfl,zH (by simpa using b4.o),zH zP,zH ⟨rfl,λt h=>by cases h⟩,bi⟩
  case round=>
   obtain⟨j,done,mb,v,hj,rfl,f,HE,HD,a7⟩:=hrel;have G:=zH (bk.o _ a7.o);by_cases bl:j<m
   ·obtain⟨b1,g,x,B,xm,cx,rfl,bm,hx,d0',a8,bn⟩:=P5 HP.o bl;have d0:=(G.o.cell (p:=ad b1 (g+j)) bm).trans d0';have bo:=bb.o x (zq2 hx);have Z:=zH (iL B A xm cx n c x a wr (a8.on Aa G.o) (HA.o.on Aa G.o) bn hc (by rw[<-a8.len];exact bo) hn);have ap:=zH (Et hx);obtain⟨i1,i2⟩:=zI (k:=j) (n:=m) (by omega);clear hx a8 d0'
    cases hsp:Cs x a with
    | error z=>
     have hz:=Qs hsp;have bc:(z != 0)=true:=by simpa using hz
     have HQ:=zH (bd.o z (by rw[HE.o,ap.o,List.map_cons,hsp,J8]));rw[hsp]at Z;clear hsp hz;go_wp2_with(go_at_call 141;refine Z.o.mono ?_;rintro e w5 ⟨H,s⟩;replace s:e=.returned (.tuple #[zn,zi z]):=s;subst s;have a9:=zH (zT G.o H);clear H)
     rw[HQ.o];exact⟨a9.o,rfl⟩
    | ok r=>
     have bp:Hid (AE (placed.map λq=>Cs q a)=AE ((done++[r]).map Except.ok++(placed.drop (j+1)).map λq=>Cs q a)):=zH (by rw[HE.o,ap.o,List.map_cons,hsp];simp);have bq:=So hsp
     have br:Hid ((done++[r]).length=j+1∧∀t∈done++[r],t.length<=300000):=zH ⟨by rw[zq5,HD.o.1];rfl,λu hu=>by
      rcases zr1.1 hu with hu|hu
      ·exact HD.o.2 u hu
      obtain rfl:=zr9.1 hu;exact bq⟩
     have aq:Hid ([(x0,y0),(x0,y1)]++((done++[r]).flatMap id).flatMap (Eb x0 y0 y1)=[(x0,y0),(x0,y1)]++(done.flatMap id).flatMap (Eb x0 y0 y1)++r.flatMap (Eb x0 y0 y1)):=zH zP
     have bt:([(x0,y0),(x0,y1)]++(done.flatMap id).flatMap (Eb x0 y0 y1)).length<=2000000002:=by
      rw[zq5,Mg];have J:=U2 300000 HD.o.1 HD.o.2;have h2:j*300000<=1000*300000:=Nat.mul_le_mul_right _ zO;simp only[zt5,List.length_nil];omega
     obtain⟨L,hL⟩:=zG ([(x0,y0),(x0,y1)]++(done.flatMap id).flatMap (Eb x0 y0 y1));rw[hL]at f aq bt;rw[hsp]at Z;clear hsp hL;go_wp2_with(go_at_call 141;refine Z.o.mono ?_;rintro e w5 ⟨H,s⟩;obtain⟨A5,c5,s,ar,c3,au⟩:=s;subst s;have a9:=zH (a7.o.trans (H.mono (zs0 ao.o a7.o.size)));have b5:=zH (f.o.below H);have bu:=zH ar;have bv:Hid (∀b g,A5=some ⟨b,g,none⟩->¬Dq B0 (some mb) v b):=zH (λb g e hs=>by have J:=au b g e;have h2:=(Lq f.o b hs).2;omega);clear H ar au)
     go_loopw[19,67,68,69,70,71,72,73,74,75,76,77,78,79,80,81,82,83,84,85,86] (λ_ i _ _ _ _ _ _ _ _ _ _ _ _ _ _ _ _ _ _ _ wr=>∃(k mb:Nat)(v:Value),k<=r.length∧i=zi (k:Int)∧Hid (Dp wr B0 B0 (some mb) v (AJ [] (L++(r.take k).flatMap (Eb x0 y0 y1))))∧Hid (Ab 2 Ad wr A5 r.length r)∧Hid (∀b g,A5=some ⟨b,g,none⟩->¬Dq B0 (some mb) v b)∧Hid (Below B0 W1 wr)) (λ_ i _ _ _ _ _ _ _ _ _ _ _ _ _ _ _ _ _ _ _ _=>r.length-(intOf i).toNat)
     case atStart=>exact⟨0,mb,v,zs3 _,rfl,zH (by simpa using b5.o),bu,bv,a9⟩
     case round=>
      obtain⟨k,mb,v,hk,rfl,f,av,aw,aa⟩:=hrel;by_cases b6:k<r.length
      ·obtain⟨b2,b7,p,rfl,c4,ax,f0,f1⟩:=Ap av.o b6;have ay:Hid (AJ [] (L++(r.take (k+1)).flatMap (Eb x0 y0 y1))=AJ (AJ [] (L++(r.take k).flatMap (Eb x0 y0 y1))) [p,(p.1,y0),(p.1,y1),(x0,p.2)]):=zH (by rw[J9 ax,zr7,<-List.append_assoc,O8];simp[Eb])
       have az:(AJ [] (L++(r.take k).flatMap (Eb x0 y0 y1))).length<=10000000000:=by
        have J:=FP [] (L++(r.take k).flatMap (Eb x0 y0 y1));rw[zq5,Mg,zq7]at J;simp only[List.length_nil]at J;omega
       obtain⟨K,hK⟩:=zG (AJ [] (L++(r.take k).flatMap (Eb x0 y0 y1)));rw[hK]at f ay az;have M:Bw wr (wr.alloc (.cells #[zi p.1,zi p.2] 56)):=zA _;have b8:=zH (aa.o.trans (M.mono (zs0 ao.o aa.o.size)));have ab:=zH (f.o.below M);have ac:Hid (B0<=(wr.alloc (.cells #[zi p.1,zi p.2] 56)).heap.size):=zH (zs0 (Nat.le_of_lt (Lq f.o B0 (.inl rfl)).2) M.size);have ae:=pY ab.o ac.o az p (p.1,y0) (p.1,y1) (x0,p.2);rw[show(wr.alloc (.cells #[zi p.1,zi p.2] 56)).heap.size=wr.heap.size+1 by simp]at ae;have U:=zH ae;clear ae;have bw:=zH ((av.o.on Aa M).on Aa (zA (.cells #[zi p.1,zi p.2,zi p.1,zi y0,zi p.1,zi y1,zi x0,zi p.2] 56)));have b9:=zH (ab.o.below (zA (.cells #[zi p.1,zi p.2,zi p.1,zi y0,zi p.1,zi y1,zi x0,zi p.2] 56)));have ba:=zH (b8.o.trans ((zA (.cells #[zi p.1,zi p.2,zi p.1,zi y0,zi p.1,zi y1,zi x0,zi p.2] 56)).mono ac.o));have af:b2<((wr.alloc (.cells #[zi p.1,zi p.2] 56)).alloc (.cells #[zi p.1,zi p.2,zi p.1,zi y0,zi p.1,zi y1,zi x0,zi p.2] 56)).heap.size:=by simp;omega
       have bx:=zH af;have i3:(0:Int)<=(k:Int):=zO;have i4:(k:Int)<(r.length:Int):=zO;clear ax M hK af;go_wp2_with(go_at_call 102;refine U.o.mono ?_;rintro e w6 ⟨rfl,mb6,v6,a0,b0,b3,I⟩;have ah:=zH a0;have bz:=zH (iQ ba.o I b9.o (zs0 ac.o zP));have c0:=zH (I.recs bw.o aw.o);have c2:Hid (∀b g,some (⟨b2,b7,none⟩:Addr)=some ⟨b,g,none⟩->¬Dq B0 (some mb6) v6 b):=zH (λb g e=>by have h0:=aw.o b g e;injection e with e;injection e with e1 _;subst e1;exact vH h0 bx.o b0 b3);clear a0 b0 b3 I)
       go_roundw
       case rel=>exact⟨k+1,mb6,v6,by omega,by go_num,by rw[ay.o];exact ah,c0,c2,bz⟩
       case measure=>exact zM
      obtain rfl:k=r.length:=zO;rw[zq4 (zs2 _),<-aq.o]at f
      go_wp2_with fail
      go_roundw
      case rel=>exact⟨j+1,done++[r],mb,v,by omega,by go_num,f,bp,br,aa⟩
      case measure=>exact zM
   obtain rfl:j=m:=zO;have HQ:=zH (ai.o done (by rw[HE.o,zr6 (by rw[HP.o.len];exact zs2 _),List.map_nil,zt3,GP]));obtain⟨R,hR⟩:=zG (AJ [] ([(x0,y0),(x0,y1)]++(done.flatMap id).flatMap (Eb x0 y0 y1)));rw[hR]at HQ f;have N:=f.o.row;obtain⟨A7,c7,rfl⟩:=AX N;have ag:=zH N;have c1:=f.o.box.c (i:=1) rfl;have cl:=f.o.box.lt;clear hR N
   go_wp2_with fail
   rw[HQ.o];refine⟨G.o,A7,c7,rfl,DX ag.o rfl,Lo ag.o,λb g e=>?_⟩;have J:=(ag.o.lt b (by rw[e];rfl)).1;exact zs0 bj.o J
section
open Go.Sort
theorem iU{b:lP}(h:Cs a b=.ok r):∀v∈r,inC v:=λv i=>by
 unfold Cs at h;split at h
 ·cases h
 rename_i rs e;injection h with h
 subst h;have f:=(List.mem_filter.1 i).1;rw[Hd]at f;obtain⟨x,j,g⟩:=List.mem_flatMap.1 f;exact(Mc e x j).1 v g
theorem iV(o:1<=b.width∧b.width<=1048576)(h:BO b a placed=.ok l):∀p∈l,inD p:=by
 cases hk:EK a with
 | error z=>rw[Me hk]at h;cases h
 | ok k=>
  cases hs:AE (placed.map λq=>Cs q a)with
  | error z=>rw[Mf hk hs]at h;cases h
  | ok ls=>
   rw[Qr hk hs]at h;injection h with h
   subst h;obtain⟨k1,k2,k3,k4,k5,k6,k7,k8⟩:=U1 hk;intro p e;rw[O9]at e;rcases e with e|e
   ·cases e
   rcases zr1.1 e with e|e
   ·simp only[zr3,List.not_mem_nil,or_false]at e;rcases e with rfl|rfl
    ·exact⟨by simp only;omega,by simp only;omega,by simp only;omega,by simp only;omega⟩
    exact⟨by simp only;omega,by simp only;omega,by simp only;omega,by simp only;omega⟩
   obtain⟨v,j,f⟩:=List.mem_flatMap.1 e;obtain⟨r,m,g⟩:=List.mem_flatMap.1 j;have i:Except.ok r∈ls.map (Except.ok (ε:=Int)):=zr2.2 ⟨r,m,rfl⟩;rw[<-CE hs]at i;obtain⟨q,_,n⟩:=zr2.1 i;obtain⟨v1,v2,v3,v4⟩:=iU n v g;simp only[Eb,zr3,List.not_mem_nil,or_false]at f;rcases f with rfl|rfl|rfl|rfl
   ·exact⟨by omega,by omega,by omega,by omega⟩
   ·exact⟨by simp only;omega,by simp only;omega,by simp only;omega,by simp only;omega⟩
   ·exact⟨by simp only;omega,by simp only;omega,by simp only;omega,by simp only;omega⟩
   exact⟨by simp only;omega,by simp only;omega,by simp only;omega,by simp only;omega⟩
theorem XU(e:placed.length<=1000)(h:BO b a placed=.ok l):l.length<=2000000002:=by
 cases hk:EK a with
 | error z=>rw[Me hk]at h;cases h
 | ok k=>
  cases hs:AE (placed.map λq=>Cs q a)with
  | error z=>rw[Mf hk hs]at h;cases h
  | ok ls=>
   rw[Qr hk hs]at h;injection h with h
   subst h;have f:=congrArg List.length (CE hs);rw[zq6,zq6]at f
   have g:∀t∈ls,t.length<=300000:=λr i=>by
    have e:Except.ok r∈ls.map (Except.ok (ε:=Int)):=zr2.2 ⟨r,i,rfl⟩;rw[<-CE hs]at e;obtain⟨q,_,j⟩:=zr2.1 e;exact So j
   have m:=U2 300000 f.symm g;have n:placed.length*300000<=1000*300000:=Nat.mul_le_mul_right _ e;refine zs0 (FP _ _) ?_;rw[zq5,Mg];simp only[zt5,List.length_nil];omega
theorem Mh(h:BO b a placed=.error z):Fx b s t a placed=.error z:=by unfold Fx;rw[h]
theorem N3(h:BO b a placed=.ok l):Fx b s t a placed=.ok (Dx (l.filterMap (Df (b.rx,b.ry) s t))):=by unfold Fx;rw[h]
theorem U4(h:BO b a placed=.error z):z≠0:=by
 cases hk:EK a with
 | error y=>
  rw[Me hk]at h;injection h with h
  rw[<-h];exact UZ hk
 | ok k=>
  cases hs:AE (placed.map λq=>Cs q a)with
  | error y=>
   rw[Mf hk hs]at h;injection h with h
   rw[<-h];obtain⟨q,_,e⟩:=zr2.1 (FQ hs);exact Qs e
  | ok ls=>rw[Qr hk hs]at h;cases h
theorem vI{f:Pt->Option Pt}{k:Nat}{p:Pt}(h:l[k]?=some p):(l.take (k+1)).filterMap f=(l.take k).filterMap f++(f p).toList:=by
 rw[J9 h,List.filterMap_append];congr 1
theorem vJ{a:Nat}{mo:Option Nat}(h:Dp w a p mo v L):∀i,Dq p mo v i->a<=i∧i<w.heap.size:=by
 cases mo with
 | none=>exact N0 h
 | some mb=>exact Lq h
theorem Z7{a:Nat}{mo:Option Nat}(h:Below a W1 w)(b:Off (Dq p mo v) w w')(e:Dp w a p mo v L)(f:a<=w.heap.size):Below a W1 w':=
 h.trans (b.below f λi hi=>(vJ e i hi).1)
theorem qB(b:AG)(s:Ae)(SA:oA)(sn sc:Nat)(t:Az)(A:oA)(n c:Nat)(a:lP)(P:oA)(m d:Nat)(placed:List PL)(w:World)(ht:Ab 2 Ad w A n a)(hc:n<=c)(hn:n<=1000000)(C:Ab 1 plG w P m placed)(hm:m<=1000)(a0:∀q∈placed,q.length<=1000000)(hb:1<=b.width∧b.width<=1048576)(hq:Q4 t) :
  CP 69 #[.agg #[zi b.length,zi b.width,zi b.rx,zi b.ry],.agg #[.slice SA sn sc,zi s.grain,.bool s.match_,zi s.anchor.1,zi s.anchor.2],.agg #[.bool t.flip,zi t.quarter],.slice A n c,.slice P m d] w (Fz (Fx b s t a placed) w):=by
 obtain⟨Q,hQ⟩:=zG (Fz (Fx b s t a placed) w);rw[hQ];obtain⟨W0,D⟩:=zG (((w.alloc (.cells #[zi b.length,zi b.width,zi b.rx,zi b.ry] 33)).alloc (.cells #[.slice SA sn sc,zi s.grain,.bool s.match_,zi s.anchor.1,zi s.anchor.2] 79)).alloc (.cells #[.bool t.flip,zi t.quarter] 55));have X1:Blk W0 w.heap.size 33 #[zi b.length,zi b.width,zi b.rx,zi b.ry]:=by rw[<-D];exact((Blk.new _ _ _).alloc _).alloc _
 have X2:Blk W0 (w.heap.size+1) 79 #[.slice SA sn sc,zi s.grain,.bool s.match_,zi s.anchor.1,zi s.anchor.2]:=by rw[<-D];exact(Blk.new' _ _ _ zP).alloc _
 have X3:Blk W0 (w.heap.size+1+1) 55 #[.bool t.flip,zi t.quarter]:=by rw[<-D];exact Blk.new' _ _ _ zP
 have S:Bw w W0:=by rw[<-D];exact Below.alo (Below.alo (zA _) _) _
 have HF:=zH (λW (h:Bw W0 W)=>zu2 (zu2 (Ez (X1.below h)) (X1.below h).lt) (zu2 (zu2 (Dm (X2.below h)) (X2.below h).lt) (zu2 (AR (X3.below h)) (X3.below h).lt)));have J:=zH (Z5 b A n c a P m d placed W0 (ht.on Aa S) hc hn (C.on JC S) hm a0 hb);have HB:=zH S;rw[<-D]at HF J HB;have a5:=C.len;clear D X1 X2 X3 S ht C a0
 cases hbp:BO b a placed with
 | error z=>
  have hz:=U4 hbp;have b4:(z != 0)=true:=by simpa using hz
  have HQ:Hid (Q=Fz (.error z) w):=zH (by rw[<-hQ,Mh hbp]);rw[hbp]at J;clear hQ hbp hz;go_enter func69,ntmps69;go_wp2_with(go_at_call 100;refine J.o.mono ?_;rintro e w1 ⟨E,j⟩;replace j:e=.returned (.tuple #[zn,zi z]):=j;subst j;have r:=zH (zT HB.o E);clear E)
  rw[HQ.o];exact⟨r.o,rfl⟩
 | ok l=>
  have a8:Hid (Q=Fz (.ok (Dx (l.filterMap (Df (b.rx,b.ry) s t)))) w):=zH (by rw[<-hQ,N3 hbp]);have al:=zH (iV hb hbp);have b5:=XU zO hbp;rw[hbp]at J;clear hQ hbp a5;obtain⟨f,hf⟩:=zG (Df (b.rx,b.ry) s t);have am:=zH (λp (C:inD p) W=>by have:=Z2 (b.rx,b.ry) s SA sn sc t p W hq C;rw[hf]at this;exact this);rw[hf]at a8;clear hf hq;go_enter func69,ntmps69;go_wp2_with(go_at_call 100;refine J.o.mono ?_;rintro e w1 ⟨E,j⟩;obtain⟨A1,c1,j,a9,b6,an⟩:=j;subst j;have r:=zH (zT HB.o E);have ao:=zH a9;have aa:=zH E;clear E a9 an)
  have a6:=zH (N2 w1);have ai:Hid (Bw w1 (w1.alloc (.cells #[.map none,zn] 197))):=zH (zA _)
  go_loopw[16,17,18,31,32,33,34,35,36,37,38,39,40,41,42,43,44,45,46,47,48] (λ_ _ _ i _ _ _ _ _ _ _ _ _ _ _ _ _ _ _ _ _ wr=>∃(k:Nat)(mo:Option Nat)(v:Value),k<=l.length∧i=zi (k:Int)∧Hid (Dp wr w1.heap.size w1.heap.size mo v (AJ [] ((l.take k).filterMap f)))∧Hid (Bw w1 wr)) (λ_ _ _ i _ _ _ _ _ _ _ _ _ _ _ _ _ _ _ _ _ _=>l.length-(intOf i).toNat)
  case atStart=>exact⟨0,none,zn,zs3 _,rfl,a6,ai⟩
  case round=>
   obtain⟨k,mo,v,hk,rfl,g,x⟩:=hrel;by_cases ap:k<l.length
   ·obtain⟨b1,T,p,rfl,ab,C,d0',d1'⟩:=Ap ao.o ap;have d0:=(x.o.cell (p:=ad b1 (T+k*2)) ab).trans d0';have d1:=(x.o.cell (p:=ad b1 (T+k*2+1)) ab).trans d1';have U:=zH (vI (f:=f) C);have V:=zH (am.o p (al.o p (zq2 C)));have X:Bw wr (wr.alloc (.cells #[zi p.1,zi p.2] 56)):=zA _;have aq:=zH (HF.o wr (zT aa.o x.o));obtain⟨⟨⟨z0,z1,z2,z3⟩,z4⟩,⟨⟨y0,y1,y2,y3,y4⟩,y5⟩,⟨x0,x1⟩,x2⟩:=aq.o;have F:=zH (g.o.below X);have G:=zH (zT x.o X)
    have L:(AJ [] ((l.take k).filterMap f)).length<=10000000000:=by
     have h1:=FP [] ((l.take k).filterMap f);have h2:=List.length_filterMap_le f (l.take k);rw[zq7]at h2;simp only[List.length_nil]at h1;omega
    obtain⟨K,H⟩:=zG (AJ [] ((l.take k).filterMap f));have a0:w1.heap.size<wr.heap.size:=g.o.box.lt;have i1:(0:Int)<=(k:Int):=zO;have i2:(k:Int)<(l.length:Int):=zO
    cases hfp:f p with
    | none=>
     rw[hfp]at V U;have a1:Hid (AJ [] ((l.take (k+1)).filterMap f)=K):=zH (by rw[U.o,<-H];simp);rw[H]at F;clear C d0' d1' X H hfp L g;go_wp2_with(go_at_call 101;refine(V.o _).mono ?_;rintro e w5 ⟨j,y⟩;replace j:e=.returned (.tuple #[.agg #[zi 0,zi 0],zF]):=j;subst j;have a2:=zH (zT G.o y);have I:=zH ((F.o.below y).below (zA (.cells #[zi 0,zi 0] 56)));have B:=zH (Below.alo a2.o (.cells #[zi 0,zi 0] 56));clear y)
     go_roundw
     case rel=>exact⟨k+1,mo,v,by omega,by go_num,by rw[a1.o];exact I,B⟩
     case measure=>exact zM
    | some q=>
     rw[hfp]at V U;have a1:Hid (AJ [] ((l.take (k+1)).filterMap f)=AJ K [q]):=zH (by rw[U.o,O8,H];rfl);rw[H]at F L;clear C d0' d1' X H hfp g
     go_wp2_with(first
      | (go_at_call 101;refine(V.o _).mono ?_;rintro e w5 ⟨j,y⟩;replace j:e=.returned (.tuple #[.agg #[zi q.1,zi q.2],zY]):=j;subst j;have a2:=zH (zT G.o y);have I:=zH ((F.o.below y).below (zA (.cells #[zi q.1,zi q.2] 56)));have B:=zH (Below.alo a2.o (.cells #[zi q.1,zi q.2] 56));have N:=qA I.o B.o.size L q;rw[show(w5.alloc (.cells #[zi q.1,zi q.2] 56)).heap.size=w5.heap.size+1 by simp]at N;have aj:=zH N;have ak:=zH (I.o.below (zA (.cells #[zi q.1,zi q.2] 56)));have ac:=zH (B.o.trans ((zA (.cells #[zi q.1,zi q.2] 56)).mono B.o.size));clear y N)
      | (go_at_call 102;refine aj.o.mono ?_;rintro e w8 ⟨rfl,mb8,v8,Y,ar,au,Z⟩;have a7:=zH Y;have av:=zH (Z7 ac.o Z ak.o ac.o.size);clear Y ar au Z))
     go_roundw
     case rel=>exact⟨k+1,some mb8,v8,by omega,by go_num,by rw[a1.o];exact a7,av⟩
     case measure=>exact zM
   obtain rfl:k=l.length:=zO;rw[zq4 (zs2 _)]at g;have HQ:Hid (Q=Fz (.ok (DR (AJ [] (l.filterMap f)))) w):=zH (by rw[a8.o,vD])
   have L:(AJ [] (l.filterMap f)).length<=10000000000:=by
    have h1:=FP [] (l.filterMap f);have h2:=List.length_filterMap_le f l;simp only[List.length_nil]at h1;omega
   obtain⟨K,H⟩:=zG (AJ [] (l.filterMap f));rw[H]at HQ g L;have O:=g.o.row;obtain⟨A7,c7,rfl⟩:=AX O;have M:=zH O;have y1:=g.o.box.c (i:=1) rfl;have yl:=g.o.box.lt;have HZ:=zH r.o.size;have aw:=zH (zT r.o x.o);clear H O;by_cases h0:K.length=0
   ·have ax:K=[]:=zt7 h0;subst ax;have ay:=zH (λW=>R5 A7 c7 (.func (.func 104) #[] #[]) W);have ae:DR []=[]:=by simp[DR]
    rw[ae]at HQ;clear h0 ae;go_wp2_with(go_at_call 103;refine(ay.o _).mono ?_;rintro e w6 ⟨rfl,rfl⟩)
    rw[HQ.o];refine⟨aw.o,A7,c7,rfl,Ab.nil _ _ _ _,zs3 _,λb T e=>?_⟩;have h1:=(M.o.lt b (by rw[e];rfl)).1;exact zs0 HZ.o h1
   obtain⟨g4,rfl,af,_⟩:=GN M.o zO;have az:=Lo M.o;have b0:=zH (OY 104 uO g4 0 c7 K wr (HSp.of_own M.o) zO);have ag:=zH (NT K);have b2:Hid (some w1.heap.size≠some g4):=zH (λe=>Fb M.o g.o.box zD e.symm);have ah:=zH af;clear h0 af;go_wp2_with(go_at_call 103;refine b0.o.mono ?_;rintro e w6 ⟨rfl,a3,R⟩;have b3:=zH a3;have a4:=g.o.box.grown R b2.o;have q1:=a4.c (i:=1) rfl;have ql:=a4.lt;have B:=zH (DC x.o R ah.o);clear a3 R a4)
   rw[HQ.o];refine⟨zT r.o B.o,_,c7,by rw[ag.o];rfl,b3.o.recs,by rw[ag.o];exact az,λb T e=>?_⟩;injection e with e
   injection e with e1 e2
   have h1:=ah.o;have h3:=HZ.o;omega
end
end Go.Proofs.YteafekbddckemaaGreatDoor
