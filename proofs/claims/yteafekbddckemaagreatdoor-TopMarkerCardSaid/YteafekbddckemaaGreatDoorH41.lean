/- Parts of the proof. -/
import Derived.Test.YteafekbddckemaaGreatDoorH38
import Derived.Test.YteafekbddckemaaGreatDoorH40
set_option maxRecDepth 100000
set_option maxHeartbeats 40000000
namespace Go.Proofs.YteafekbddckemaaGreatDoor
open Go.Proofs.Tryz Go.RowKit
open Go.Lib hiding intOf
variable{A:oA}{T t:TypeId}{X:List Ac}{a g i j k:Nat}{es l:List As}{m y z:Int}{p x:Aw}{r:lP}{s:Al}{v:Value}{w:World}{ws:List Int}
def Rm(x:Aw)(y:Int):Except Int (List Pt):=match BL x y with
 | .error z=>.error z
 | .ok es=>DK es x.widths
def EQ(es:List As):Pt:=((es.getD 0 ⟨ByteArray.empty,[]⟩).line).getD 0 (0,0)
theorem Rn(h:BL p m=.error z):z≠0:=by
 unfold BL at h;split at h
 ·injection h with h;omega
 split at h
 ·rename_i a;injection h with h;rw[<-h];exact a
 split at h
 ·rename_i a;injection h with h;rw[<-h];exact a
 cases h
theorem VF(h:BL p m=.ok es):es=CO p m∧Aq es=0:=by
 unfold BL at h;split at h
 ·cases h
 split at h
 ·cases h
 split at h
 ·cases h
 rename_i a;injection h with h
 subst h;exact⟨rfl,by simpa using a⟩
theorem Yf(h:DK l ws=.error z):z≠0:=by
 unfold DK at h;split at h
 ·rename_i a;injection h with h;rw[<-h];exact a
 split at h
 ·injection h with h;omega
 split at h
 ·injection h with h;omega
 simp only at h;split at h
 ·injection h with h;omega
 split at h
 ·rename_i a;injection h with h;rw[<-h];exact a
 split at h
 ·injection h with h;omega
 cases h
theorem kG(h:DK l ws=.ok r):An r=0:=by
 unfold DK at h;split at h
 ·cases h
 split at h
 ·cases h
 split at h
 ·cases h
 simp only at h;split at h
 ·cases h
 split at h
 ·cases h
 rename_i a;split at h
 ·cases h
 injection h with h
 subst h;simpa using a
theorem Xa{es:List Aw}(h:BD es p=0):AB p=0∧p.widths.length=p.edges.length:=by
 unfold BD at h;split at h
 ·cases h
 split at h
 ·cases h
 split at h
 ·cases h
 split at h
 ·rename_i a;exact absurd h a
 rename_i a;split at h
 ·rename_i b;exact absurd h b
 unfold Fn at h;split at h
 ·cases h
 rename_i e;exact⟨by simpa using a,by simpa using e⟩
theorem kH(h:AA s=0)(e:s.pieces[i]?=some x):AB x=0∧x.widths.length=x.edges.length∧x.edges.length<=16:=by
 unfold AA at h;split at h
 ·rename_i b;exact absurd h b
 split at h
 ·rename_i b;exact absurd h b
 rename_i b;have f:EI s=0:=by simpa using b
 unfold EI at f;have g:=KT f (BD (s.pieces.take i) x) (zr2.2 ⟨i,zt8.2 (zq1.1 e).1,by rw[e]⟩);obtain⟨a,l⟩:=Xa g;refine⟨a,l,?_⟩;unfold AB at a;split at a
 ·cases a
 split at a
 ·cases a
 exact(Ej a).1
section
variable{s:Al}{k j:Nat}{v:Dw}{x:Aw}{y:Int}
theorem Yg(g:AA s=0)(i:k<s.sizes.length)(a:s.uses[j]?=some v)(b:s.pieces[v.piece.toNat]?=some x)(f:s.multiples[k]?=some y):Kl s k j=match BL x y with
  | .error e=>.error e
  | .ok l=>.ok (l,x):=by
 have m:=(zq1.1 a).1;unfold Kl;rw[if_neg zO,if_neg zO];simp only[Int.toNat_natCast,zq3,a,Option.getD_some,b,f]
 cases BL x y <;> rfl
theorem yT(a:AA s=0)(b:k<s.sizes.length)(e:s.uses[j]?=some v)(f:s.pieces[v.piece.toNat]?=some x)(g:s.multiples[k]?=some y):nL s k j=Rm x y:=by
 unfold nL Rm;rw[Yg a b e f g]
 cases BL x y <;> rfl
theorem kI(a:AA s=0)(b:k<s.sizes.length)(e:s.uses[j]?=some v)(f:s.pieces[v.piece.toNat]?=some x)(g:s.multiples[k]?=some y)(i:BL x y=.ok es):QQ s k j=.ok (EQ es):=by
 unfold QQ;rw[Yg a b e f g,i];rfl
end
theorem wT(s:Al)(Z:oA)(z zc:Nat)(M:oA)(m mc:Nat)(P:oA)(p pc:Nat)(U:oA)(u uc:Nat)(E:oA)(e ec:Nat)(O:oA)(o oc:Nat)(w:World)(h:Co w s Z z zc M m mc P p pc U u uc E e ec O o oc)(T:Dj s)(N:AA s=0)(k j:Nat)(V:k<z)(X:j<u)(v:Dw)(Y:s.uses[j]?=some v)(x:Aw)(Q:s.pieces[v.piece.toNat]?=some x)(y:Int)(hy:s.multiples[k]?=some y) :
  CP 60 #[.agg #[.string s.name,.slice Z z zc,.slice M m mc,.slice P p pc,.slice U u uc,.slice E e ec,.slice O o oc],zi (k:Int),zi (j:Int)] w (tB (Rm x y) w):=by
 have S:Bw w (zw w #[.string s.name,.slice Z z zc,.slice M m mc,.slice P p pc,.slice U u uc,.slice E e ec,.slice O o oc] 29):=zA _;have n:=Vy s Z z zc M m mc P p pc U u uc E e ec O o oc (zw w #[.string s.name,.slice Z z zc,.slice M m mc,.slice P p pc,.slice U u uc,.slice E e ec,.slice O o oc] 29) (h.on S) T N k j V X v Y x Q y hy;obtain⟨g0,a0,a1⟩:=kH N Q;have g:=zH S;have a6:x.widths.length<=16:=zO;unfold Rm;clear h T N V X Y Q hy S g0 a0 a1
 cases hg:BL x y with
 | error zz=>
  rw[hg]at n;have n:=zH n;have hz:=Rn hg;have a7:(zz != 0)=true:=by simpa using hz
  simp only;clear hg hz;go_enter func60,ntmps60;go_wp2_with(go_at_call 97;go_must((refine n.o.mono ?_);rintro e1 w1 q;obtain⟨E1,n1,c1,N1,n2,c2,C1,n3,c3,D1,n4,c4,b,i,a⟩:=q;replace a:e1=.returned (.tuple #[zn,.agg #[.string x.name,.slice E1 n1 c1,zi x.grain,.slice N1 n2 c2,.slice C1 n3 c3,.slice D1 n4 c4,.bool x.match_],zi zz]):=a;subst a;have f:=zH ((zT g.o b).alloc (zT g.o b).size (.cells #[.string x.name,.slice E1 n1 c1,zi x.grain,.slice N1 n2 c2,.slice C1 n3 c3,.slice D1 n4 c4,.bool x.match_] 66));clear b i))
  refine bodyPost_ret (v:=.tuple #[zn,zi zz]) (by simp[results,results60,go_sem]) rfl ?_;exact⟨f.o,rfl⟩
 | ok es=>
  rw[hg]at n;have n:=zH n;obtain⟨H,a4⟩:=VF hg;simp only;have I:=zH (λ(A2:oA) a2 D1 n4 c4 (W:World) (h1:Ab 2 CQ W A2 es.length es) (h2:es.length<=a2) (h3:Sl W W.heap.size D1 n4 (Ar x.widths)) (h4:IT x.edges)=>kF A2 es.length a2 D1 n4 c4 es x.widths W h1 h2 (by rw[H];exact MB h4) h3 (zV h3.ilen));clear hg H a4;generalize DK es x.widths=R at *
  cases R with
  | error zz=>
   go_enter func60,ntmps60
   go_wp2_with(first
    | (go_at_call 97;go_must((refine n.o.mono ?_);rintro e1 w1 q;obtain⟨E1,n1,c1,N1,n2,c2,C1,n3,c3,D1,n4,c4,b,i,a⟩:=q;obtain⟨A2,a2,a,t,D⟩:=a;subst a;have l:=zH ((Below.refl w1.heap.size w1).alloc (zs2 _) (.cells #[.string x.name,.slice E1 n1 c1,zi x.grain,.slice N1 n2 c2,.slice C1 n3 c3,.slice D1 n4 c4,.bool x.match_] 66));have f:=zH ((zT g.o b).trans (l.o.mono (zT g.o b).size));have F:=zH (t _ ((Bk.refl _ _).below l.o));have B:=zH (i.on l.o);clear b i t))
    | (go_at_call 98;go_must((refine(I.o A2 a2 D1 n4 c4 _ F.o D B.o.wids B.o.edges).mono ?_);rintro e3 w3 q;obtain⟨C,a⟩:=q;replace a:e3=.returned (.tuple #[zn,zi zz]):=a;subst a;have G:=zH (zT f.o C);clear C)))
   refine bodyPost_ret (v:=.tuple #[zn,zi zz]) (by simp[results,results60,go_sem]) rfl ?_;exact⟨G.o,rfl⟩
  | ok r=>
   go_enter func60,ntmps60
   go_wp2_with(first
    | (go_at_call 97;go_must((refine n.o.mono ?_);rintro e1 w1 q;obtain⟨E1,n1,c1,N1,n2,c2,C1,n3,c3,D1,n4,c4,b,i,a⟩:=q;obtain⟨A2,a2,a,t,D⟩:=a;subst a;have l:=zH ((Below.refl w1.heap.size w1).alloc (zs2 _) (.cells #[.string x.name,.slice E1 n1 c1,zi x.grain,.slice N1 n2 c2,.slice C1 n3 c3,.slice D1 n4 c4,.bool x.match_] 66));have f:=zH ((zT g.o b).trans (l.o.mono (zT g.o b).size));have F:=zH (t _ ((Bk.refl _ _).below l.o));have B:=zH (i.on l.o);clear b i t))
    | (go_at_call 98;go_must((refine(I.o A2 a2 D1 n4 c4 _ F.o D B.o.wids B.o.edges).mono ?_);rintro e3 w3 q;obtain⟨C,a⟩:=q;obtain⟨g3,a3,a,J,K,a5⟩:=a;subst a;have G:=zH (zT f.o C);have L:=zH (zu2 (zs0 f.o.size J) K);clear C K J)))
   refine bodyPost_ret (v:=.tuple #[.slice (sa g3 0) r.length a3,zi 0]) (by simp[results,results60,go_sem]) rfl ?_;exact⟨G.o,g3,a3,rfl,L.o.1,L.o.2,a5⟩
theorem aO(s:Al)(Z:oA)(z zc:Nat)(M:oA)(m mc:Nat)(P:oA)(p pc:Nat)(U:oA)(u uc:Nat)(E:oA)(e ec:Nat)(O:oA)(o oc:Nat)(w:World)(h:Co w s Z z zc M m mc P p pc U u uc E e ec O o oc)(R:Dj s)(S:AA s=0)(k j:Nat)(T:k<z)(V:j<u)(v:Dw)(W:s.uses[j]?=some v)(x:Aw)(X:s.pieces[v.piece.toNat]?=some x)(y:Int)(Y:s.multiples[k]?=some y)(es:List As)(K:BL x y=.ok es) :
  CP 61 #[.agg #[.string s.name,.slice Z z zc,.slice M m mc,.slice P p pc,.slice U u uc,.slice E e ec,.slice O o oc],zi (k:Int),zi (j:Int)] w (zR (.tuple #[.agg #[zi (EQ es).1,zi (EQ es).2],zi 0]) w):=by
 have L:Bw w (zw (zw w #[.string s.name,.slice Z z zc,.slice M m mc,.slice P p pc,.slice U u uc,.slice E e ec,.slice O o oc] 29) #[zi 0,zi 0] 56):=(zA _).alloc zP _;have r:=Vy s Z z zc M m mc P p pc U u uc E e ec O o oc (zw (zw w #[.string s.name,.slice Z z zc,.slice M m mc,.slice P p pc,.slice U u uc,.slice E e ec,.slice O o oc] 29) #[zi 0,zi 0] 56) (h.on L) R S k j T V v W x X y Y;have X1:=Blk.new' (zw w #[.string s.name,.slice Z z zc,.slice M m mc,.slice P p pc,.slice U u uc,.slice E e ec,.slice O o oc] 29) 56 #[zi 0,zi 0] (g:=w.heap.size+1) zP;obtain⟨a0,C⟩:=VF K;obtain⟨_,h2,D⟩:=Ej C;obtain⟨f,t⟩:∃f,es[0]?=some f:=⟨_,zq0 zO⟩;have a6:=(CB (D 0 f t)).2.1;obtain⟨q,N⟩:∃q,f.line[0]?=some q:=⟨_,zq0 zO⟩
 have F:EQ es=q:=by
  unfold EQ;have h1:es.getD 0 ⟨ByteArray.empty,[]⟩=f:=by rw[zq3,t,Option.getD_some]
  rw[h1,zq3,N,Option.getD_some]
 rw[F];rw[K]at r;have r:=zH r;have B:=zH L;have a1:=zH X1;have HF:=zH (zu2 t N);clear h R S T V W X Y L a0 C D t N F K X1;go_enter func61,ntmps61
 go_wp2_with fail
 refine r.o.mono ?_;rintro e1 w1 hr;obtain⟨E1,n1,c1,N1,n2,c2,C1,n3,c3,D1,n4,c4,a,a3,Q⟩:=hr;obtain⟨A2,a2,Q,G,a7⟩:=Q;subst Q;have i:=(Below.refl w1.heap.size w1).alloc (zs2 _) (.cells #[.string x.name,.slice E1 n1 c1,zi x.grain,.slice N1 n2 c2,.slice C1 n3 c3,.slice D1 n4 c4,.bool x.match_] 66);have H:=(zT B.o a).trans (i.mono (zT B.o a).size);have l:=(a1.o.below a).below i;obtain⟨b,a8,f',B2,m2,d2,rfl,a9,I,e0,e1',n,aa⟩:=EO (G _ ((Bk.refl _ _).below i)) (j:=0) zO;obtain rfl:f'=f:=by have:=HF.o.1;rw[I]at this;exact zs6 this
 obtain⟨b3,a5,q',rfl,ab,J,k0,k1⟩:=Ap n (j:=0) (zV n.len);obtain rfl:q'=q:=by have:=HF.o.2;rw[J]at this;exact zs6 this
 have i1:(0:Int)<(es.length:Int):=zO;have i1':0<es.length:=zO;have i2:(0:Int)<(m2:Int):=by have:=n.len;omega
 have i2':0<m2:=by have:=n.len;omega
 obtain⟨y0,y1⟩:=AaV l;have z0:=l.frozen 0;have z1:=l.frozen 1;have ac:=l.lt;have a4:=zH H;simp only[Nat.zero_mul,Nat.add_zero]at e0 e1' k0 k1;clear a a3 G i l I J n H
 go_wp2_with fail
 refine bodyPost_ret (v:=.tuple #[.agg #[zi q'.1,zi q'.2],zi 0]) (by simp[results,results61,go_sem,y0,y1]) rfl ⟨rfl,?_⟩;exact(a4.o.setCell (p:=ad (w.heap.size+1) 0) (zt1 _) _).setCell (p:=ad (w.heap.size+1) 1) (zt1 _) _
def Fe(x:Dw)(i k:Nat):Ac:=⟨0,(i:Int),(k:Int),⟨x.pair&&decide (k%2=1),0⟩,(0,0)⟩
def Gg(s:Al)(k:Nat):List Ac:=(List.range k).flatMap λi=>(List.range (s.uses.getD i ⟨0,0,false⟩).count.toNat).map (Fe (s.uses.getD i ⟨0,0,false⟩) i)
theorem bI(s:Al):Gg s 0=[]:=rfl
theorem Mr{x:Dw}(a:s.uses[k]?=some x):Gg s (k+1)=Gg s k++(List.range x.count.toNat).map (Fe x k):=by
 unfold Gg;rw[List.range_succ,zr7];simp only[List.flatMap_cons,List.flatMap_nil,zt3,zq3,a,Option.getD_some]
theorem Ms(h:AA s=0):AP s=Gg s s.uses.length:=by
 unfold AP Gg;rw[if_neg zO];rfl
theorem Nz{s:Al}(h:∀x∈s.uses,x.count<=4):∀k,k<=s.uses.length->(Gg s k).length<=4*k
 | 0,_=>by simp[bI]
 | k+1,hk=>by
  have b:=Nz h k zO;have a:=zq0 (l:=s.uses) (i:=k) zO;have e:=h _ (zq2 a);rw[Mr a,zq5,zq6,zq8];omega
theorem NA{l:List Ac}{p:Ac}(h:w.ownsRow a T 7 v (l.length+1) (l.flatMap AN++AN p))(b:X=l++[p]):∃A c,v=.slice A X.length c∧w.ownsRow a T 7 (.slice A X.length c) X.length (X.flatMap AN):=by
 subst b;obtain⟨A,c,rfl⟩:=AX h;refine⟨A,c,by simp,?_⟩;rw[zr7,zq5];simpa using h
theorem Ox{n c:Nat}{l:List Ac}(h:w.ownsRow a T 7 (.slice A n c) n (l.flatMap AN))(f:l.length=n):Ab 7 Dy w A n l∧n<=c:=by
 obtain⟨A',c',b,e,i⟩:=CJ (G:=Dy) (g:=λx:Ac=>x) Mq h f (λt _=>rfl);rw[List.map_id']at e;injection b with b _ hC
 rw[b,hC];exact⟨e,i⟩
def tC(l:List Ac)(w:World)(e:Ending)(w':World):Prop:=∃A c,e=.returned (.slice A l.length c)∧Ab 7 Dy w' A l.length l∧l.length<=c∧Bw w w'
theorem QA(s:Al)(Z:oA)(z zc:Nat)(M:oA)(m mc:Nat)(P:oA)(p pc:Nat)(U:oA)(u uc:Nat)(E:oA)(e ec:Nat)(O:oA)(o oc:Nat)(w:World)(h:Co w s Z z zc M m mc P p pc U u uc E e ec O o oc)(hs:Dj s)(K:AA s=0) :
  CP 11 #[.agg #[.string s.name,.slice Z z zc,.slice M m mc,.slice P p pc,.slice U u uc,.slice E e ec,.slice O o oc]] w (tC (AP s) w):=by
 have hB:Bw w (zw w #[.string s.name,.slice Z z zc,.slice M m mc,.slice P p pc,.slice U u uc,.slice E e ec,.slice O o oc] 29):=zA _;have X0:=Blk.new w 29 #[.string s.name,.slice Z z zc,.slice M m mc,.slice P p pc,.slice U u uc,.slice E e ec,.slice O o oc];have HC:=M5 s Z z zc M m mc P p pc U u uc E e ec O o oc (zw w #[.string s.name,.slice Z z zc,.slice M m mc,.slice P p pc,.slice U u uc,.slice E e ec,.slice O o oc] 29) (h.on hB) hs;rw[K]at HC;have HB:=zH hB;have HX:=zH X0;have HC:=zH HC;have HU:=zH h.uses;have N:=h.uses.len;have a1:=zH N;have a4:=zH (Ms K);have a5:=zH (Du K);have a6:=zH (Nz (λx R=>(Du K x R).2.2.2));have a3:=(ID K).2;rw[N]at a3;clear hB X0 h hs K N;go_enter func11,ntmps11;go_wp2_with(go_at_call 32;go_must((refine HC.o.mono ?_);rintro e1 w1 ⟨rfl,S⟩;have I:=zH (zT HB.o S);have a7:=zH (HX.o.below S);obtain⟨x0,x1,x2,x3,x4,x5,x6⟩:=AS a7.o;clear S))
 go_loopw[3,4,5,6,7,14,15,16,17,18,19,20,21,22,23,24,25,26,27,28,29,30,31,32,33,34,35,36,37,38,39,40] (λv _ _ _ _ i _ _ _ _ _ _ _ _ _ _ _ _ _ _ _ _ _ _ _ _ _ _ _ _ _ _ wr=>∃(k:Nat)(A3:oA)(c3:Nat),k<=u∧i=zi (k:Int)∧v=.slice A3 (Gg s k).length c3∧Hid (wr.ownsRow w1.heap.size 58 7 (.slice A3 (Gg s k).length c3) (Gg s k).length ((Gg s k).flatMap AN))∧Hid (Bw w1 wr)) (λv _ _ _ _ i _ _ _ _ _ _ _ _ _ _ _ _ _ _ _ _ _ _ _ _ _ _ _ _ _ _ _=>u-(intOf i).toNat)
 case atStart=>exact⟨0,none,0,zs3 _,rfl,rfl,zH (by exact World.ownsRow_nil _ _ _ _),zH zJ⟩
 case round=>
  obtain⟨k,A3,c3,hk,rfl,rfl,HO,J⟩:=hrel;obtain⟨wo,rfl⟩:=zE wr;by_cases a8:k<u
  ·obtain⟨b,ac,x,rfl,ae,R,c0,c1,c2⟩:=Lg (HU.o.on JK (zT I.o J.o)) a8;obtain⟨_,_,q1,q2⟩:=a5.o x (zq2 R);obtain⟨n,hn⟩:∃n:Nat,x.count=(n:Int):=⟨x.count.toNat,by omega⟩;have D:=Mr R;have T:=a6.o (k+1) (by rw[a1.o];omega);rw[D,hn,Int.toNat_natCast]at T;rw[hn,Int.toNat_natCast]at D;rw[hn]at c1;obtain⟨f,hf⟩:=zG x.pair;rw[hf]at c2;have V:=zH hf;obtain⟨L,hL⟩:=zG (Gg s k);rw[hL]at HO D T⊢
   have a2:=zH D;have X:Bw wo (zw wo #[zi x.piece,zi (n:Int),.bool f] 60):=zA _;have X5:=Blk.new wo 60 #[zi x.piece,zi (n:Int),.bool f];have a9:=zH X5;have aa:=zH (Ah HO.o X);have ab:=zH (zT J.o X);obtain⟨y0,y1,y2⟩:=CT X5;obtain⟨i1,i2⟩:=zI (k:=k) (n:=u) (by omega);have af:n<=4:=zO;clear R hn D hf hL X X5 q1 q2;simp only[zq5,zq6,zq8]at T
   go_wp2_with fail
   go_loopw[3,6,7,21,22,23,24,25,26,27,28,29,30,31,32,33,34,35,36,37,38,39] (λv _ _ i _ _ _ _ _ _ _ _ _ _ _ _ _ _ _ _ _ _ wq=>∃(j:Nat)(A4:oA)(c4:Nat),j<=n∧i=zi (j:Int)∧v=.slice A4 (L++(List.range j).map (Fe x k)).length c4∧Hid (wq.ownsRow w1.heap.size 58 7 (.slice A4 (L++(List.range j).map (Fe x k)).length c4) (L++(List.range j).map (Fe x k)).length ((L++(List.range j).map (Fe x k)).flatMap AN))∧Hid ((Value.slice A4 (L++(List.range j).map (Fe x k)).length c4).ownBlock≠some wo.heap.size∧Blk wq wo.heap.size 60 #[zi x.piece,zi (n:Int),.bool f])∧Hid (Bw w1 wq)) (λv _ _ i _ _ _ _ _ _ _ _ _ _ _ _ _ _ _ _ _ _ _=>n-(intOf i).toNat)
   case atStart=>exact⟨0,A3,c3,zs3 _,rfl,by simp,zH (by simpa using aa.o),zH ⟨λe=>by have h1:=(HO.o.lt _ (by simpa using e)).2;omega,a9.o⟩,ab⟩
   case round=>
    clear y0 y1 y2;obtain⟨j,A4,c4,hj,rfl,rfl,q,a,r⟩:=hrel;obtain⟨y0,y1,y2⟩:=CT a.o.2;have yl:=a.o.2.lt;by_cases ag:j<n
    ·obtain⟨Q,C⟩:=zG (L++(List.range j).map (Fe x k));have Y:(L++(List.range j).map (Fe x k)).length<=100:=by simp only[zq5,zq6,zq8];omega
     obtain⟨i3,i4⟩:=zI (k:=j) (n:=n) (by omega);have ah:=r.o.size
     cases f with
     | false=>
      have HL:Hid (L++(List.range (j+1)).map (Fe x k)=Q++[(⟨0,(k:Int),(j:Int),⟨false,0⟩,(0,0)⟩:Ac)]):=by
       rw[Hid,List.range_succ,zr0,<-List.append_assoc,C];congr 1;simp only[List.map_cons,List.map_nil];unfold Fe;rw[V.o];simp
      have HN:Hid (∀W:World,∀(i:Nat)(u:Value),(AN ⟨0,(k:Int),(j:Int),⟨false,0⟩,(0,0)⟩)[i]?=some u->(zw W #[zi 0,zi (k:Int),zi (j:Int),zF,zi 0,zi 0,zi 0] 58).cell? ((⟨W.heap.size,0,none⟩:Addr).add i)=some u):=λW=>Hf W ⟨0,(k:Int),(j:Int),⟨false,0⟩,(0,0)⟩ 58
      rw[C]at q a Y⊢
      clear C;go_wp2_with(at_builtin;refine Bt (P:=prog) (by rfl) _ _ 38 (by rfl) w1.heap.size 58 (.agg #[zi 0,zi 0,zi 0,zF,zi 0,zi 0,zi 0]) 7 56 underlying38 Ge rfl zD (.slice A4 Q.length c4) Q.length (Q.flatMap AN) (by rfl) (Ah q.o (by exact zA _)) ⟨wr.heap.size,0,none⟩ 1 1 (AN ⟨0,(k:Int),(j:Int),⟨false,0⟩,(0,0)⟩) (by rfl) (by rfl) (HN.o _) (Gf _) zU zO zQ ?_;intro v7 w7 t l y;obtain⟨A7,c7,rfl,B⟩:=NA t HL.o;have F:=zH B;have G:=zH (NW a.o.2 a.o.1 (by exact zA _) l y zP);have H:=zH (Ax (r.o.trans ((show Bw wr _ from zA _).mono r.o.size)) l zQ (λg e=>(q.o.lt g e).1));clear t B l y)
      go_roundw
      case rel=>exact⟨j+1,A7,c7,by omega,by go_num,by simp,F,G,H⟩
      case measure=>exact zM
     | true=>
      by_cases a0:j%2=1
      ·have i5:(j:Int)%2=1:=zO
       have HL:Hid (L++(List.range (j+1)).map (Fe x k)=Q++[(⟨0,(k:Int),(j:Int),⟨true,0⟩,(0,0)⟩:Ac)]):=by
        rw[Hid,List.range_succ,zr0,<-List.append_assoc,C];congr 1;simp only[List.map_cons,List.map_nil];unfold Fe;rw[V.o];simp[a0]
       have HN:Hid (∀W:World,∀(i:Nat)(u:Value),(AN ⟨0,(k:Int),(j:Int),⟨true,0⟩,(0,0)⟩)[i]?=some u->(zw W #[zi 0,zi (k:Int),zi (j:Int),zY,zi 0,zi 0,zi 0] 58).cell? ((⟨W.heap.size,0,none⟩:Addr).add i)=some u):=λW=>Hf W ⟨0,(k:Int),(j:Int),⟨true,0⟩,(0,0)⟩ 58
       rw[C]at q a Y⊢
       clear C;go_wp2_with(at_builtin;refine Bt (P:=prog) (by rfl) _ _ 38 (by rfl) w1.heap.size 58 (.agg #[zi 0,zi 0,zi 0,zF,zi 0,zi 0,zi 0]) 7 56 underlying38 Ge rfl zD (.slice A4 Q.length c4) Q.length (Q.flatMap AN) (by rfl) (Ah q.o (by exact zA _)) ⟨wr.heap.size,0,none⟩ 1 1 (AN ⟨0,(k:Int),(j:Int),⟨true,0⟩,(0,0)⟩) (by rfl) (by rfl) (HN.o _) (Gf _) zU zO zQ ?_;intro v7 w7 t l y;obtain⟨A7,c7,rfl,B⟩:=NA t HL.o;have F:=zH B;have G:=zH (NW a.o.2 a.o.1 (by exact zA _) l y zP);have H:=zH (Ax (r.o.trans ((show Bw wr _ from zA _).mono r.o.size)) l zQ (λg e=>(q.o.lt g e).1));clear t B l y)
       go_roundw
       case rel=>exact⟨j+1,A7,c7,by omega,by go_num,by simp,F,G,H⟩
       case measure=>exact zM
      have i5:(j:Int)%2=0:=zO
      have HL:Hid (L++(List.range (j+1)).map (Fe x k)=Q++[(⟨0,(k:Int),(j:Int),⟨false,0⟩,(0,0)⟩:Ac)]):=by
       rw[Hid,List.range_succ,zr0,<-List.append_assoc,C];congr 1;simp only[List.map_cons,List.map_nil];unfold Fe;rw[V.o];simp[a0]
      have HN:Hid (∀W:World,∀(i:Nat)(u:Value),(AN ⟨0,(k:Int),(j:Int),⟨false,0⟩,(0,0)⟩)[i]?=some u->(zw W #[zi 0,zi (k:Int),zi (j:Int),zF,zi 0,zi 0,zi 0] 58).cell? ((⟨W.heap.size,0,none⟩:Addr).add i)=some u):=λW=>Hf W ⟨0,(k:Int),(j:Int),⟨false,0⟩,(0,0)⟩ 58
      rw[C]at q a Y⊢
      clear C;go_wp2_with(at_builtin;refine Bt (P:=prog) (by rfl) _ _ 38 (by rfl) w1.heap.size 58 (.agg #[zi 0,zi 0,zi 0,zF,zi 0,zi 0,zi 0]) 7 56 underlying38 Ge rfl zD (.slice A4 Q.length c4) Q.length (Q.flatMap AN) (by rfl) (Ah q.o (by exact zA _)) ⟨wr.heap.size,0,none⟩ 1 1 (AN ⟨0,(k:Int),(j:Int),⟨false,0⟩,(0,0)⟩) (by rfl) (by rfl) (HN.o _) (Gf _) zU zO zQ ?_;intro v7 w7 t l y;obtain⟨A7,c7,rfl,B⟩:=NA t HL.o;have F:=zH B;have G:=zH (NW a.o.2 a.o.1 (by exact zA _) l y zP);have H:=zH (Ax (r.o.trans ((show Bw wr _ from zA _).mono r.o.size)) l zQ (λg e=>(q.o.lt g e).1));clear t B l y)
      go_roundw
      case rel=>exact⟨j+1,A7,c7,by omega,by go_num,by simp,F,G,H⟩
      case measure=>exact zM
    obtain rfl:j=n:=zO
    go_wp2_with fail
    go_roundw
    case rel=>exact⟨k+1,A4,c4,by omega,by go_num,by rw[a2.o],zH (by rw[a2.o];exact q.o),r⟩
    case measure=>exact zM
  obtain rfl:k=u:=zO
  go_wp2_with fail
  go_ret;obtain⟨h1,h2⟩:=Ox HO.o rfl;rw[a4.o,a1.o];exact⟨A3,c3,rfl,h1,h2,zT I.o J.o⟩
def Eg(x:Aw)(fl:Bool)(poly:lP)(a:Pt):Ae:=if fl=true then⟨AU ⟨true,0⟩ poly,x.grain,x.match_,BU ⟨true,0⟩ a⟩else⟨poly,x.grain,x.match_,a⟩
def Gp(x:Aw)(y:Int)(fl:Bool):Except Int Ae:=match BL x y with
 | .error z=>.error z
 | .ok es=>match DK es x.widths with
  | .error z=>.error z
  | .ok poly=>.ok (Eg x fl poly (EQ es))
theorem VN{v:Dw}{p:Ac}(e:AA s=0)(f:k<s.sizes.length)(a:s.uses[j]?=some v)(b:s.pieces[v.piece.toNat]?=some x)(g:s.multiples[k]?=some y)(i:p.use=(j:Int)):CY s k p=Gp x y p.turn.flip:=by
 unfold CY Gp;rw[i,yT e f a b g];unfold Rm
 cases hg:BL x y with
 | error z=>rfl
 | ok es=>
  simp only
  cases DK es x.widths with
  | error z=>rfl
  | ok poly=>
   simp only;rw[kI e f a b g hg];simp only[Int.toNat_natCast,zq3,a,Option.getD_some,b];rfl
def AaD(r:Except Int Ae)(w:World)(e:Ending)(w':World):Prop:=Bw w w'∧match r with
 | .error z=>e=.returned (.tuple #[.agg #[zn,zi 0,zF,zi 0,zi 0],zi z])
 | .ok q=>∃g c,e=.returned (.tuple #[.agg #[.slice (sa g 0) q.poly.length c,zi q.grain,.bool q.match_,zi q.anchor.1,zi q.anchor.2],zi 0])∧w.heap.size<=g∧Ab 2 Ad w' (sa g 0) q.poly.length q.poly∧q.poly.length<=c
theorem Ff{a0 a1 a2 a3 a4:Value}(h:Blk w g t #[a0,a1,a2,a3,a4]):zL w g 0 a0∧zL w g 1 a1∧zL w g 2 a2∧zL w g 3 a3∧zL w g 4 a4:=⟨h.c rfl,h.c rfl,h.c rfl,h.c rfl,h.c rfl⟩
theorem Xb(s:Al)(Z:oA)(z zc:Nat)(M:oA)(m mc:Nat)(P:oA)(p pc:Nat)(U:oA)(u uc:Nat)(E:oA)(e ec:Nat)(O:oA)(o oc:Nat)(w:World)(h:Co w s Z z zc M m mc P p pc U u uc E e ec O o oc)(V:Dj s)(h0:AA s=0)(k j:Nat)(X:k<z)(hj:j<u)(v:Dw)(r:s.uses[j]?=some v)(x:Aw)(Y:s.pieces[v.piece.toNat]?=some x)(y:Int)(hy:s.multiples[k]?=some y)(pg pk:Int)(fl:Bool)(pq a1 a2:Int) :
  CP 37 #[.agg #[.string s.name,.slice Z z zc,.slice M m mc,.slice P p pc,.slice U u uc,.slice E e ec,.slice O o oc],zi (k:Int),.agg #[zi pg,zi (j:Int),zi pk,.bool fl,zi pq,zi a1,zi a2]] w (AaD (Gp x y fl) w):=by
 have hB:Bw w (((w.alloc (.cells #[.string s.name,.slice Z z zc,.slice M m mc,.slice P p pc,.slice U u uc,.slice E e ec,.slice O o oc] 29)).alloc (.cells #[zi pg,zi (j:Int),zi pk,.bool fl,zi pq,zi a1,zi a2] 58)).alloc (.cells #[zn,zi 0,zF,zi 0,zi 0] 79)):=yU _ _ _ _;have t:=wT s Z z zc M m mc P p pc U u uc E e ec O o oc (((w.alloc (.cells #[.string s.name,.slice Z z zc,.slice M m mc,.slice P p pc,.slice U u uc,.slice E e ec,.slice O o oc] 29)).alloc (.cells #[zi pg,zi (j:Int),zi pk,.bool fl,zi pq,zi a1,zi a2] 58)).alloc (.cells #[zn,zi 0,zF,zi 0,zi 0] 79)) (h.on hB) V h0 k j X hj v r x Y y hy;have N:=λW (B:Bw w W) es H=>aO s Z z zc M m mc P p pc U u uc E e ec O o oc W (h.on B) V h0 k j X hj v r x Y y hy es H
 have X0:=((Blk.new w 29 #[.string s.name,.slice Z z zc,.slice M m mc,.slice P p pc,.slice U u uc,.slice E e ec,.slice O o oc]).alloc (.cells #[zi pg,zi (j:Int),zi pk,.bool fl,zi pq,zi a1,zi a2] 58)).alloc (.cells #[zn,zi 0,zF,zi 0,zi 0] 79);have X1:=(Blk.new' (w.alloc (.cells #[.string s.name,.slice Z z zc,.slice M m mc,.slice P p pc,.slice U u uc,.slice E e ec,.slice O o oc] 29)) 58 #[zi pg,zi (j:Int),zi pk,.bool fl,zi pq,zi a1,zi a2] (g:=w.heap.size+1) zP).alloc (.cells #[zn,zi 0,zF,zi 0,zi 0] 79);have X2:=Blk.new' ((w.alloc (.cells #[.string s.name,.slice Z z zc,.slice M m mc,.slice P p pc,.slice U u uc,.slice E e ec,.slice O o oc] 29)).alloc (.cells #[zi pg,zi (j:Int),zi pk,.bool fl,zi pq,zi a1,zi a2] 58)) 79 #[zn,zi 0,zF,zi 0,zi 0] (g:=w.heap.size+1+1) zP;have HB:=zH hB;have ba:=zH X0;have bb:=zH X1;have a5:=zH X2;have l:w.heap.size<=w.heap.size+1+1:=zO;unfold Rm at t;unfold Gp
 cases H:BL x y with
 | error zz=>
  rw[H]at t;have hz:=Rn H;have bc:(zz != 0)=true:=by simpa using hz
  simp only at t⊢
  have t:=zH t;clear hB h V h0 X hj r Y hy X0 X1 X2 H hz N;go_enter func37,ntmps37;go_wp2_with(go_at_call 60;go_must((refine t.o.mono ?_);rintro e1 w1 C;obtain⟨n,I⟩:=C;replace I:e1=.returned (.tuple #[zn,zi zz]):=I;subst I;have J:=zH (zT HB.o n);have i:=a5.o.below n;obtain⟨y0,y1,y2,y3,y4⟩:=Ff i;have z0:=i.frozen 0;have z1:=i.frozen 1;have z2:=i.frozen 2;have z3:=i.frozen 3;have z4:=i.frozen 4;have ao:=i.lt;clear n i))
  refine bodyPost_ret (v:=.tuple #[.agg #[zn,zi 0,zF,zi 0,zi 0],zi zz]) (by simp[results,results37,go_sem,y0,y1,y2,y3,y4]) rfl ?_;exact⟨((((J.o.setCell (p:=ad (w.heap.size+1+1) 0) l _).setCell (p:=ad (w.heap.size+1+1) 1) l _).setCell (p:=ad (w.heap.size+1+1) 2) l _).setCell (p:=ad (w.heap.size+1+1) 3) l _).setCell (p:=ad (w.heap.size+1+1) 4) l _,rfl⟩
 | ok es=>
  rw[H]at t;simp only at t⊢
  cases C:DK es x.widths with
  | error zz=>
   rw[C]at t;have hz:=Yf C;have bc:(zz != 0)=true:=by simpa using hz
   have t:=zH t;simp only;clear hB h V h0 X hj r Y hy X0 X1 X2 H C hz N;go_enter func37,ntmps37;go_wp2_with(go_at_call 60;go_must((refine t.o.mono ?_);rintro e1 w1 C;obtain⟨n,I⟩:=C;replace I:e1=.returned (.tuple #[zn,zi zz]):=I;subst I;have J:=zH (zT HB.o n);have i:=a5.o.below n;obtain⟨y0,y1,y2,y3,y4⟩:=Ff i;have z0:=i.frozen 0;have z1:=i.frozen 1;have z2:=i.frozen 2;have z3:=i.frozen 3;have z4:=i.frozen 4;have ao:=i.lt;clear n i))
   refine bodyPost_ret (v:=.tuple #[.agg #[zn,zi 0,zF,zi 0,zi 0],zi zz]) (by simp[results,results37,go_sem,y0,y1,y2,y3,y4]) rfl ?_;exact⟨((((J.o.setCell (p:=ad (w.heap.size+1+1) 0) l _).setCell (p:=ad (w.heap.size+1+1) 1) l _).setCell (p:=ad (w.heap.size+1+1) 2) l _).setCell (p:=ad (w.heap.size+1+1) 3) l _).setCell (p:=ad (w.heap.size+1+1) 4) l _,rfl⟩
  | ok poly=>
   rw[C]at t;simp only;have t:=zH t;have a9:=λW B=>N W B es H
   obtain⟨bd,ap⟩:=VF H;obtain⟨_,h2,aq⟩:=Ej ap;obtain⟨f0,aa⟩:∃f,es[0]?=some f:=⟨_,zq0 zO⟩;obtain⟨_,be,ar,_⟩:=CB (aq 0 f0 aa)
   have ab:inG (EQ es):=by
    unfold EQ;have h1:es.getD 0 ⟨ByteArray.empty,[]⟩=f0:=by rw[zq3,aa,Option.getD_some]
    rw[h1,zq3,zq0 zO,Option.getD_some];exact ar _ (List.getElem_mem _)
   obtain⟨au,bw,_⟩:=Fs (kG C);have bf:=Du h0 v (zq2 r);obtain⟨q,D⟩:∃q:Nat,v.piece=(q:Int):=⟨v.piece.toNat,by omega⟩
   have bg:q<p:=by
    have h2:=h.pieces.len;omega
   obtain⟨b,a6,v',rfl,av,aw,d0,_,_⟩:=Lg h.uses hj;obtain rfl:v'=v:=by rw[aw]at r;exact zs6 r
   obtain⟨b3,a,x',E1,n1,c1,N1,n2,c2,C1,n3,c3,D1,n4,c4,rfl,F,ax,g0,g1,g2,g3,g4,g5,g6,_⟩:=Ex h.pieces bg;obtain rfl:x'=x:=by rw[D,Int.toNat_natCast,ax]at Y;exact zs6 Y
   rw[D]at d0;have l2:u<=9223372036854775807:=by rw[<-h.uses.len];exact V.us
   have l3:p<=9223372036854775807:=by rw[<-h.pieces.len];exact V.pcs
   have bh:=zH (λW (B:Bw w W)=>zu2 ((B.cell (p:=ad b (a6+j*3)) av).trans d0) (zu2 ((B.cell (p:=ad b3 (a+q*7)) F).trans g0) (zu2 ((B.cell (p:=ad b3 (a+q*7+1)) F).trans g1) (zu2 ((B.cell (p:=ad b3 (a+q*7+2)) F).trans g2) (zu2 ((B.cell (p:=ad b3 (a+q*7+3)) F).trans g3) (zu2 ((B.cell (p:=ad b3 (a+q*7+4)) F).trans g4) (zu2 ((B.cell (p:=ad b3 (a+q*7+5)) F).trans g5) ((B.cell (p:=ad b3 (a+q*7+6)) F).trans g6))))))));obtain⟨j1,j2⟩:=zI (k:=j) (n:=u) (by omega);obtain⟨j3,j4⟩:=zI (k:=q) (n:=p) (by omega);obtain⟨an1,a0⟩:=zG ((EQ es).1);obtain⟨an2,a4⟩:=zG ((EQ es).2);have ay:EQ es=(an1,an2):=by rw[<-a0,<-a4]
   rw[ay]at ab⊢
   have N:Hid (∀W:World,Bw w W->CP 61 #[.agg #[.string s.name,.slice Z z zc,.slice M m mc,.slice (sa b3 a) p pc,.slice (sa b a6) u uc,.slice E e ec,.slice O o oc],zi (k:Int),zi (j:Int)] W (zR (.tuple #[.agg #[zi an1,zi an2],zi 0]) W)):=λW B=>by
    have h1:=a9 W B;rw[a0,a4]at h1;exact h1
   have bi:Hid (∀(W:World)(A:oA)(c:Nat),Ab 2 Ad W A poly.length poly->CP 57 #[.agg #[zY,zi 0],.slice A poly.length c] W (IU (AU ⟨true,0⟩ poly) W)):=λW A c B=>RJ ⟨true,0⟩ A poly.length c poly W B (by unfold Q4;decide) zO au
   have bj:Hid (∀W:World,CP 62 #[.agg #[zY,zi 0],.agg #[zi an1,zi an2]] W (zR (.agg #[zi (BU ⟨true,0⟩ (an1,an2)).1,zi (BU ⟨true,0⟩ (an1,an2)).2]) W)):=λW=>Kn ⟨true,0⟩ (an1,an2) W (by unfold Q4;decide) ab
   clear hB V h0 X hj r Y hy X0 X1 X2 H C h a9 bd ap aq aa be ar ab au bf D aw d0 ax g0 g1 g2 g3 g4 g5 g6 a0 a4 ay h2;go_enter func37,ntmps37
   go_upto_if 39 with(first
    | (go_at_call 60;go_must((refine t.o.mono ?_);rintro e1 w1 C;obtain⟨n,I⟩:=C;obtain⟨gA,a3,I,ac,az,bk⟩:=I;subst I;have J:=zH (zT HB.o n);have bl:Hid (w.heap.size+1+1<gA):=zs1 a5.o.lt ac;have b0:=zH (zu2 (zs0 HB.o.size ac) az);have ae:=zH (ba.o.below n);have af:=zH (bb.o.below n);have ag:=zH (a5.o.below n);have bm:=ag.o.lt;obtain⟨x0,x1,x2,x3,x4,x5,x6⟩:=AS ae.o;obtain⟨p0,p1,p2,p3,p4,p5,p6⟩:=AS af.o;clear n ac az))
    | (go_at_call 61;go_must((refine(N.o _ J.o).mono ?_);rintro e2 w2 ⟨rfl,L⟩;have ah:=zH L;have a7:=zH (zT J.o L);have ai:Bw w2 (w2.alloc (.cells #[zi an1,zi an2] 56)):=zA _;have K:=zT L ai;have aj:=zH (zu2 b0.o.1 (b0.o.2.on Aa K));have bx:=zH (ae.o.below K);have bn:=zH (af.o.below K);have bz:=zH (ag.o.below K);have c0:=zH (zT a7.o ai);have b1:=zH (Blk.new w2 56 #[zi an1,zi an2]);have c5:w.heap.size+1+1<w2.heap.size:=zs1 bm L.size;clear ai K L x0 x1 x2 x3 x4 x5 x6 p0 p1 p2 p3 p4 p5 p6;obtain⟨p0,p1,p2,p3,p4,p5,p6⟩:=AS bn.o)))
   have c6:(w2.alloc (.cells #[zi an1,zi an2] 56)).heap.size=w2.heap.size+1:=by simp
   go_cut [8] (λs8 wx=>∃(g cc:Nat),s8=.slice (sa g 0) (Eg x' fl poly (an1,an2)).poly.length cc∧w.heap.size<=g∧w.heap.size+1+1<g∧Ab 2 Ad wx (sa g 0) (Eg x' fl poly (an1,an2)).poly.length (Eg x' fl poly (an1,an2)).poly∧(Eg x' fl poly (an1,an2)).poly.length<=cc∧Blk wx w2.heap.size 56 #[zi (Eg x' fl poly (an1,an2)).anchor.1,zi (Eg x' fl poly (an1,an2)).anchor.2]∧Bw w2 wx)
   case first=>
    cases fl with
    | false=>
     go_wp2_with fail
     go_meet;exact⟨gA,a3,rfl,aj.o.1,bl.o,aj.o.2,bk,b1.o,zA _⟩
    | true=>
     go_wp2_with fail
     have a8:=zH (Blk.new' (w2.alloc (.cells #[zi an1,zi an2] 56)) 55 #[zY,zi 0] (g:=w2.heap.size+1) zP);have ak:=zH (b1.o.alloc (.cells #[zY,zi 0] 55));have bo:=zH (aj.o.2.on Aa (zA (.cells #[zY,zi 0] 55)));have b2:=zH (I8 w2 (.cells #[zi an1,zi an2] 56) (.cells #[zY,zi 0] 55));generalize(w2.alloc (.cells #[zi an1,zi an2] 56)).alloc (.cells #[zY,zi 0] 55)=W4 at *
     obtain⟨m0,m1⟩:=AaV a8.o;obtain⟨n0,n1⟩:=AaV ak.o;have l1:=a8.o.lt;have D:=Below.refl W4.heap.size W4;clear p0 p1 p2 p3 p4 p5 p6
     go_region_with (first
      | (go_at_call 57;go_must((refine(bi.o _ _ _ (bo.o.on Aa zB)).mono ?_);rintro e3 u1 ⟨gT,rfl,b4,b5,r⟩;have al:=zs0 D.size b4;replace D:=Ag D r;have am:=zH b5;have bp:=zH al;obtain⟨m2,m3⟩:=AaV (a8.o.below D);obtain⟨n2,n3⟩:=AaV (ak.o.below D);clear r b4 al b5))
      | (go_at_call 62;go_must((refine(bj.o _).mono ?_);rintro e4 u2 ⟨rfl,r⟩;have am:=zH (am.o.on Aa (show Bw u1 u2 from(zX r)));replace D:=Ag D r;have Q:=zH (ak.o.below D);obtain⟨n4,n5⟩:=AaV Q.o;have fz0:=Q.o.frozen 0;have fz1:=Q.o.frozen 1;have l6:=Q.o.lt;clear r)))
     all_goals
      go_wp2_with fail
      go_meet;have h1:=bp.o;have h2:=a8.o.lt;exact⟨gT,_,rfl,by omega,by omega,Bk.recs (((Bk.refl (w2.heap.size+1) u2).set_ (zs7 _) 0 _).set_ (zs7 _) 1 _) am.o zO (λ_ _ _ h=>h),zs2 _,(Q.o.set_ 0 _).set_ 1 _,((zT b2.o D).setCell (p:=ad w2.heap.size 0) (zs2 _) _).setCell (p:=ad w2.heap.size 1) (zs2 _) _⟩
   case rest=>
    obtain⟨g,cc,rfl,H,bq,C,hc,hQ,R⟩:=hcut;clear p0 p1 p2 p3 p4 p5 p6;have an:=zT a7.o R;have S:=zH an;have b9:Bw w2 (w2.alloc (.cells #[zi an1,zi an2] 56)):=zA _;have br:=zH ((ae.o.below (ah.o)).below R);have bt:=zH ((af.o.below (ah.o)).below R);have b6:=zH ((ag.o.below (ah.o)).below R);have HQ:=zH hQ;have HR:=zH C
    have b7:Hid ((Eg x' fl poly (an1,an2)).grain=x'.grain∧(Eg x' fl poly (an1,an2)).match_=x'.match_):=by
     rw[Hid];unfold Eg;split <;> exact⟨rfl,rfl⟩
    generalize Eg x' fl poly (an1,an2)=M at *
    clear C hQ an b9 R;obtain⟨x0,x1,x2,x3,x4,x5,x6⟩:=AS br.o;obtain⟨p0,p1,p2,p3,p4,p5,p6⟩:=AS bt.o;obtain⟨r0,r1,r2,r3,r4,r5,r6,r7⟩:=bh.o wc S.o;obtain⟨q0,q1⟩:=AaV HQ.o;have vl:=b6.o.lt;have bl1:=zs1 av S.o.size;have bl2:=zs1 F S.o.size
    go_upto_region 10 with fail
    go_cut [12] (λs12 wy=>∃gp:Nat,s12=.pointer (sa gp 0)∧Blk wy gp 66 #[.string x'.name,.slice E1 n1 c1,zi x'.grain,.slice N1 n2 c2,.slice C1 n3 c3,.slice D1 n4 c4,.bool x'.match_]∧Bw wc wy)
    case first=>
     go_region_held3(λw'=>w'.cell? (ad w.heap.size 3)=some (.slice (sa b3 a) p pc)∧w'.cell? (ad w.heap.size 4)=some (.slice (sa b a6) u uc)∧w'.cell? (ad (w.heap.size+1) 1)=some (zi (j:Int))∧w'.cell? (ad b (a6+j*3))=some (zi (q:Int))∧w'.cell? (ad b3 (a+q*7))=some (.string x'.name)∧w'.cell? (ad b3 (a+q*7+1))=some (.slice E1 n1 c1)∧w'.cell? (ad b3 (a+q*7+2))=some (zi x'.grain)∧w'.cell? (ad b3 (a+q*7+3))=some (.slice N1 n2 c2)∧w'.cell? (ad b3 (a+q*7+4))=some (.slice C1 n3 c3)∧w'.cell? (ad b3 (a+q*7+5))=some (.slice D1 n4 c4)∧w'.cell? (ad b3 (a+q*7+6))=some (.bool x'.match_))
      (go_keep)
      (fail)
     all_goals
      go_wp2_with fail
      go_meet;exact⟨_,rfl,Blk.new _ _ _,(zA _).drew⟩
    case rest=>
     obtain⟨gp,rfl,hG,T⟩:=hcut;have b8:=HQ.o.below T;have G:=b6.o.below T;have bu:=zH (HR.o.on Aa T);have bv:=zH (zT S.o T);clear x0 x1 x2 x3 x4 x5 x6 p0 p1 p2 p3 p4 p5 p6 r0 r1 r2 r3 r4 r5 r6 r7 q0 q1;obtain⟨g0,g1,g2,g3,g4,g5,g6⟩:=AS hG;obtain⟨q0,q1⟩:=AaV b8;obtain⟨y0,y1,y2,y3,y4⟩:=Ff G;have z0:=G.frozen 0;have z1:=G.frozen 1;have z2:=G.frozen 2;have z3:=G.frozen 3;have z4:=G.frozen 4;have ao:=G.lt;clear hG b8 G T
     go_wp2_with fail
     refine bodyPost_ret (v:=.tuple #[.agg #[.slice (sa g 0) M.poly.length cc,zi x'.grain,.bool x'.match_,zi M.anchor.1,zi M.anchor.2],zi 0]) (by simp[results,results37,go_sem,y0,y1,y2,y3,y4]) rfl ?_;have X:=((((((Bk.refl (w.heap.size+1+1+1) wc).set_ (zs7 _) 0 (.slice (sa g 0) M.poly.length cc)).set_ (zs7 _) 1 (zi x'.grain)).set_ (zs7 _) 2 (.bool x'.match_)).set_ (zs7 _) 3 (zi M.anchor.1)).set_ (zs7 _) 4 (zi M.anchor.2));exact⟨((((bv.o.setCell (p:=ad (w.heap.size+1+1) 0) l _).setCell (p:=ad (w.heap.size+1+1) 1) l _).setCell (p:=ad (w.heap.size+1+1) 2) l _).setCell (p:=ad (w.heap.size+1+1) 3) l _).setCell (p:=ad (w.heap.size+1+1) 4) l _,g,cc,by rw[b7.o.1,b7.o.2],H,X.recs bu.o bq (λ_ _ _ h=>h),hc⟩
end Go.Proofs.YteafekbddckemaaGreatDoor
