/- Parts of the proof. -/
import Derived.Deep.DeepCutAuto
import Derived.Test.YteafekbddckemaaGreatDoorH06
set_option maxRecDepth 100000
set_option maxHeartbeats 40000000
namespace Go.Proofs.YteafekbddckemaaGreatDoor
open Tryz Go.RowKit
open Go.Lib hiding intOf
variable{L P R S U V X Y l r:List Nat}{M N c d g h i k n off q s u v x y z:Nat}{T:Int}{a w w1 wr:World}{p:Addr}
theorem nA(n m:Nat)(a:n<=1000000)(b:m<=1000000)(W:World):(Instr.makeSlice 213 (zi ((n:Int)+(m:Int))) (zi ((n:Int)+(m:Int)))).run prog W=.ok (.slice (sa W.heap.size 0) (n+m) (n+m)) (zw W (madeCells #[Value.int .u32 0] (n+m)) 261):=by
 have h:=GY (n+m) zO W;rw[Int.natCast_add]at h;exact h
def xN(N:Nat)(X Y:List Nat)(w:World)(i:Value)(wr:World):Prop:=
 ∃(k:Nat)(L:List Nat),k<=N∧i=zi (k:Int)∧Bd wr w.heap.size L∧Hid (Lb X Y L k)∧Bw w wr
def Xp(i M:Nat)(X Y:List Nat)(w:World)(cr j:Value)(wr:World):Prop:=
 ∃(k cy:Nat)(L:List Nat),k<=M∧cy<4294967296∧j=zi (k:Int)∧cr=.int .u64 (cy:Int)∧Bd wr w.heap.size L∧Hid (NI X Y L i k cy)∧Bw w wr
theorem OL(a:u<4294967296)(b:v<4294967296):∃p:Nat,u*v=p∧(u:Int)*(v:Int)=(p:Int)∧p<=18446744065119617025:=by
 refine⟨u*v,rfl,(Int.natCast_mul u v).symm,?_⟩;have:=Nat.mul_le_mul (by omega:u<=4294967295) (by omega:v<=4294967295);omega
theorem TP{cy p:Nat}(g:okL X)(j:okL Y)(o:Y.length=M)(q:k<M)(a:Bd wr w.heap.size L)(b:NI X Y L i k cy)(e:Bw w wr)
  (f:L[i+k]?=some z) (l:X.getD i 0*Y.getD k 0=p)  (m:T=((cy+p+z:Nat):Int)) :
  Xp i M X Y w (.int .u64 (T/4294967296)) (zi ((k:Int)+1)) (wr.setCell (ad w.heap.size (i+k)) (.int .u32 (T%4294967296))):=by
 subst m;have h:=Yy g j b zO f (t:=cy+p+z) (by rw[l]);have n:=h.2.2.1;exact⟨k+1,(cy+p+z)/4294967296,_,by omega,n,by go_num,rfl,a.set (zq1.1 f).1 ((cy+p+z)%4294967296),h,e.setCell (p:=ad w.heap.size (i+k)) (zs2 _) _⟩
theorem JA(A B:oA)(n m c d x y:Nat)(w:World)(J:At w A n c x)(K:At w B m d y)(hn:n<=1000000)(hm:m<=1000000) :
  CP 259 #[.slice A n c,.slice B m d] w (OH (x*y) w):=by
 obtain⟨t1,t2⟩:=J.trimmed;obtain⟨s1,s2⟩:=K.trimmed;have M:=nA (nl x) (nl y) zO zO;go_enter func259,ntmps259;go_wp2_with(go_at_call 281;(with_reducible refine(Cg _ _ _ _ _ (by assumption) zO).mono ?_);rintro e w' ⟨rfl,rfl⟩)
 clear M J K
 go_loopw[23] (λi wr=>xN (nl x) (Aj x) (Aj y) w i wr) (λi _=>nl x-(intOf i).toNat)
 case atStart=>exact⟨0,_,zs3 _,rfl,Bd.made w (nl x+nl y),V9 (Aj x) (Aj y),zA _⟩
 case round=>
  obtain⟨i,L,hi,rfl,a,l,f⟩:=hrel;by_cases t:i<nl x
  ·obtain⟨b,a0,u,rfl,a1,G,N⟩:=(t2.below f).limb_ t;have C:=BS (AH x) G;rw[AZ]at C;have T:=zH (getD_some G);clear G;have U:=zH (Yx (AH x) (AH y) l.out hi);obtain⟨wo,rfl⟩:∃wo:World,wo=wr:=⟨_,rfl⟩;have H:=zH (zu2 a f);clear a f;go_wp2;clear N
   go_loopw[8,30] (λcr j wr=>Xp i (nl y) (Aj x) (Aj y) w cr j wr) (λ_ j _=>nl y-(intOf j).toNat)
   case atStart=>exact⟨0,0,L,zs3 _,by omega,rfl,rfl,H.o.1,U,H.o.2⟩
   case round=>
    clear H;obtain⟨k,cy,R,hk,a2,rfl,rfl,a,g,f⟩:=hrel;by_cases D:k<nl y
    ·obtain⟨b',off',v,rfl,V,q,a3⟩:=(s2.below f).limb_ D;have E:=BS (AH y) q;rw[AZ]at E;have W:=zH (getD_some q);have s:R.length=nl x+nl y:=g.out.1;obtain⟨z,r⟩:∃z,R[i+k]?=some z:=⟨_,zq0 zO⟩;have O:=BS g.out.2.1 r;rw[AZ]at O;have P:=a.cell r;have Q:=a.frozen (i+k);obtain⟨p,F,a4,a5⟩:=OL C E;have X:=zH (zu2 r F);have I:=zH a;clear a r q s t2 s2 F;go_wp2;go_roundw
     case rel=>exact TP (AH _) (AH _) rfl D I.o g.out f X.o.1 (by rw[T.o,W.o]) zO
     case measure=>exact zM
    obtain rfl:k=nl y:=zO;have s:R.length=nl x+nl y:=g.out.1;obtain⟨z,r⟩:∃z,R[i+nl y]?=some z:=⟨_,zq0 zO⟩;have P:=a.cell r;have Q:=a.frozen (i+nl y);have Y:Hid (Lb (Aj x) (Aj y) (R.set (i+nl y) cy) (i+1)):=dD g.out t;have I:=zH (a.set (i:=i+nl y) zO cy);clear a r s t2 s2;go_wp2;go_roundw
    case rel=>exact⟨i+1,_,by omega,by go_num,I.o,Y,f.setCell (p:=ad w.heap.size (i+nl y)) (zs2 _) _⟩
    case measure=>exact zM
  obtain rfl:i=nl x:=zO;clear t2 s2;obtain⟨S,q⟩:=Yz l.out;rw[Bc,Bc]at q;have Z:At wr (sa w.heap.size 0) (nl x+nl y) (nl x+nl y) (x*y):=⟨L,a.sl l.out.1,S,q,zs2 _⟩;clear a q S;go_wp2_with(go_at_call 281;(with_reducible refine(Cg _ _ _ _ _ (by assumption) zO).mono ?_);rintro e w' ⟨rfl,rfl⟩)
  go_ret;obtain⟨f1,f2⟩:=Z.trimmed;exact⟨_,_,_,rfl,f2,f1,f⟩
def YD(B:Nat)(A:oA):Prop:=∀a,A=some a->B<=a.block
def Aag(v r:Nat)(w:World)(e:Ending)(w':World):Prop:=
 ∃A n c,e=.returned (.tuple #[.slice A n c,.int .u32 (r:Int)])∧Sl w' w'.heap.size A n (AC (Aj v))∧n<=c∧Bw w w'∧YD w.heap.size A
theorem QN(r u:Nat)(a:r<4294967296)(b:u<4294967296):bits BinOp.or IntKind.u64 ((r:Int)*4294967296) (u:Int)=((r*4294967296+u:Nat):Int):=by
 have h:=u64_or_nat (r*4294967296) u zO zO;rw[nat_join 32 (r*4294967296) u zO zO]at h;rw[<-h];congr 1
theorem AaM{T:Nat}(a:T/d<4294967296):IntKind.u64.wrap ((T:Int)/(d:Int))%4294967296=((T/d:Nat):Int):=by
 rw[IntKind.wrap_u64,show((T:Int)/(d:Int))=((T/d:Nat):Int)from rfl];generalize T/d=q at *
 omega
def nB(l:List Nat)(d:Nat)(w:World)(rr i:Value)(wr:World):Prop:=
 ∃(k r:Nat)(L:List Nat),k<=l.length∧r<d∧i=zi ((k:Int)-1)∧rr=.int .u64 (r:Int)∧Bd wr w.heap.size L∧Hid (MN l L d k r)∧Bw w wr
theorem dM(A:oA)(n c x d:Nat)(w:World)(I:At w A n c x)(X:n<=1000000)(hd:0<d)(O:d<4294967296) :
  CP 305 #[.slice A n c,.int .u32 (d:Int)] w (Aag (x/d) (x%d) w):=by
 obtain⟨l,s,C,rfl,Y⟩:=I;have D:=s.ulen;have J:=zH C;clear C;have E:=GY n zO;have Z:=zH D;obtain rfl:=D;go_enter func305,ntmps305;go_wp2;clear E
 go_loopw[7,8] (λrr i wr=>nB l d w rr i wr) (λ_ i _=>(intOf i+1).toNat)
 case atStart=>exact⟨l.length,0,_,zs2 _,hd,rfl,rfl,Bd.made w l.length,TG hd zP (IJ _),zA _⟩
 case round=>
  obtain⟨k,r,L,hk,hr,hi,rfl,f,g,j⟩:=hrel;by_cases v:k=0
  ·subst v;obtain rfl:u8=zi (-1):=hi;obtain⟨f1,f2⟩:=YA g.out;have K:At wr (sa w.heap.size 0) l.length l.length (val l/d):=⟨L,f.sl g.out.1,g.out.2.1,f1,zs2 _⟩;have M:=zH f2;have P:r<4294967296:=zO;clear f1 f2 f s;go_wp2_with(go_at_call 281;(with_reducible refine(Cg _ _ _ _ _ (by assumption) zO).mono ?_);rintro e w' ⟨rfl,rfl⟩)
   go_ret2
   obtain⟨f1,f2⟩:=K.trimmed;rw[<-M.o];exact⟨_,_,_,rfl,f2,f1,j,λa e=>by injection e with e;subst e;exact zs2 _⟩
  obtain⟨q,rfl⟩:∃q,k=q+1:=⟨k-1,by omega⟩;have F:u8=zi (q:Int):=by rw[hi];congr 1;omega
  clear hi v;subst F;obtain⟨b,Q,u,rfl,R,t,S⟩:=(s.below j).limb_ (k:=q) zO;have m:=BS J.o t;rw[AZ]at m;have G:L.length=l.length:=g.out.1;obtain⟨z,y⟩:∃z,L[q]?=some z:=⟨_,zq0 zO⟩;have U:=f.cell y;have V:=f.frozen q;have HU:=zH t;have N:=zH f;have W:=QN r u zO m;obtain⟨g1,g2⟩:=Wa g.out t (by rw[AZ];exact m) rfl;rw[AZ]at g1 g2;have B:=zH (zu2 g1 (zu2 g2 (zq1.1 y).1));generalize H:r*4294967296+u=T at *
  have HT:=zH H;clear t y f s G H g1 g2;go_wp2;go_roundw
  case rel=>
   rw[AaM B.o.2.1];exact⟨q,T%d,_,by omega,Nat.mod_lt _ hd,rfl,rfl,N.o.set B.o.2.2 (T/d),B.o.1,j.setCell (p:=ad w.heap.size q) (zs2 _) _⟩
  case measure=>simp[intOf]
def xO(P:List Nat->Prop)(w:World)(e:Ending)(w':World):Prop:=
 ∃g L,e=.returned (.slice (sa g 0) L.length L.length)∧w.heap.size<=g∧Bd w' g L∧okL L∧P L∧Bw w w'
theorem dN(n:Nat)(a:n<=1000000)(W:World):(Instr.makeSlice 213 (zi ((n:Int)+1)) (zi ((n:Int)+1))).run prog W=.ok (.slice (sa W.heap.size 0) (n+1) (n+1)) (zw W (madeCells #[Value.int .u32 0] (n+1)) 261):=by
 have h:=GY (n+1) zO W;rw[Int.natCast_add]at h;exact h
def Xq(l:List Nat)(s:Nat)(w:World)(i:Value)(wr:World):Prop:=
 ∃(k:Nat)(L:List Nat),k<=l.length∧i=zi (k:Int)∧Bd wr w.heap.size L∧Hid (Jy l L s k)∧Bw w wr
theorem nC(u s:Nat)(f:u<4294967296)(a:s<=31):IntKind.u64.wrap ((u:Int)*2^s)=((u*2^s:Nat):Int)∧u*2^s<9223372036854775808:=by
 have b:2^s<=2^31:=Nat.pow_le_pow_right zO a;have g:u*2^s<=4294967295*2^31:=Nat.mul_le_mul zO b;have e:((u:Int)*2^s)=((u*2^s:Nat):Int):=by rw[Int.natCast_mul,Int.natCast_pow];rfl
 rw[e,IntKind.wrap_u64];generalize u*2^s=t at *
 omega
theorem TQ(j:s<=31)(o:k<l.length)(n:l[k]?=some u)(b:u<4294967296)(m:L[k]?=some z)(f:Bd wr w.heap.size L)(a:Jy l L s k)(g:Bw w wr) :
  Xq l s w (Value.int IntKind.i64 ((k:Int)+1))
  ((wr.setCell (ad w.heap.size k) (Value.int IntKind.u32 (bits BinOp.or IntKind.u32 (z:Int) (IntKind.u64.wrap ((u:Int)*2^s)%4294967296)))).setCell (ad w.heap.size (k+1))
   (Value.int IntKind.u32 (IntKind.u64.wrap ((u:Int)*2^s)/4294967296%4294967296))):=by
 obtain⟨e1,e2⟩:=nC u s b j;obtain⟨g1,g2,g3,g4⟩:=TJ j a n (by rw[AZ];exact b) m;rw[AZ]at g1 g2 g3 g4;have e:=BS a.2.1 m;rw[AZ]at e;rw[e1];generalize u*2^s=t at *
 have f1:bits BinOp.or IntKind.u32 (z:Int) ((t:Int)%4294967296)=((z+t%4294967296:Nat):Int):=by
  have h:=u32_or_nat z (t%4294967296) e zO;rw[g4]at h;exact h
 have f2:(t:Int)/4294967296%4294967296=((t/4294967296:Nat):Int):=zO;rw[f1,f2];have q:=a.1;exact⟨k+1,_,by omega,by go_num,(f.set (i:=k) zO (z+t%4294967296)).set (i:=k+1) (by rw[List.length_set];omega) (t/4294967296),g1,(g.setCell (p:=ad w.heap.size k) (zs2 _) _).setCell (p:=ad w.heap.size (k+1)) (zs2 _) _⟩
theorem TR(A:oA)(n c s:Nat)(l:List Nat)(w:World)(m:Sl w w.heap.size A n (AC l))(x:okL l)(N:n<=1000000)(C:s<=31) :
  CP 307 #[.slice A n c,zi (s:Int)] w (xO (λL=>L.length=l.length+1∧val L=val l*2^s∧L.getD l.length 0<2^s) w):=by
 have D:=m.ulen;have E:=zH x;clear x;have y:=dN n zO;obtain rfl:=D;go_enter func307,ntmps307;go_wp2;clear y
 go_loopw[15] (λi wr=>Xq l s w i wr) (λi _=>l.length-(intOf i).toNat)
 case atStart=>exact⟨0,_,zs3 _,rfl,Bd.made w (l.length+1),TI _ _,zA _⟩
 case round=>
  obtain⟨k,L,O,rfl,a,e,f⟩:=hrel;by_cases p:k<l.length
  ·obtain⟨b,H,u,rfl,I,t,J⟩:=(m.below f).limb_ p;have q:=BS E.o t;have g:=q;rw[AZ]at g;have B:L.length=l.length+1:=e.out.1;obtain⟨z,v⟩:∃z,L[k]?=some z:=⟨_,zq0 zO⟩;obtain⟨z1,r⟩:∃z1,L[k+1]?=some z1:=⟨_,zq0 zO⟩;have K:=a.cell v;have M:=a.frozen k;have F:=a.cell r;have G:=a.frozen (k+1);have j:=zH (zu2 a (zu2 t v));clear a v r B t q m;go_wp2;go_roundw
   case rel=>exact TQ C p j.o.2.1 g j.o.2.2 j.o.1 e.out f
   case measure=>exact zM
  obtain rfl:k=l.length:=zO;have j:=zH a;clear m a;go_wp2;go_ret;obtain⟨f1,f2,f3⟩:=Wb e.out;exact⟨w.heap.size,L,by rw[e.out.1];rfl,zs2 _,j.o,f1,⟨e.out.1,f2,f3⟩,f⟩
def TS(l:List Nat)(s:Nat)(w:World)(i:Value)(wr:World):Prop:=
 ∃(k:Nat)(L:List Nat),k<=l.length∧i=zi (k:Int)∧Bd wr w.heap.size L∧Hid (If l L s k)∧Bw w wr
theorem nD(u v:Nat)(a:u<4294967296)(b:v<4294967296):bits BinOp.or IntKind.u64 (u:Int) ((v:Int)*4294967296)=((u+4294967296*v:Nat):Int):=by
 have h:=u64_or_nat u (v*4294967296) zO zO;rw[Nat.or_comm,nat_join 32 (v*4294967296) u zO zO,Nat.add_comm,Nat.mul_comm v]at h;rw[<-h];congr 1;rw[Int.natCast_mul,Int.mul_comm];rfl
theorem nE(t s:Nat):(t:Int)/2^s%4294967296=((t/2^s%4294967296:Nat):Int):=by
 rw[Int.natCast_emod,Int.natCast_ediv,Int.natCast_pow];rfl
theorem Mw(f:s<=31)(j:okL l)(m:k<l.length)(b:Bd wr w.heap.size L)(a:If l L s k)(e:Bw w wr)(n:T=((l.getD k 0+4294967296*l.getD (k+1) 0:Nat):Int)) :
  TS l s w (Value.int IntKind.i64 ((k:Int)+1)) (wr.setCell (ad w.heap.size k) (Value.int IntKind.u32 (T/2^s%4294967296))):=by
 subst n;have g:=S0 f j a m;rw[AZ]at g;rw[nE];have o:=a.1;exact⟨k+1,_,by omega,by go_num,b.set (i:=k) zO _,g,e.setCell (p:=ad w.heap.size k) (zs2 _) _⟩
theorem dO(A:oA)(n c s x:Nat)(w:World)(M:At w A n c x)(W:n<=1000000)(G:s<=31) :
  CP 309 #[.slice A n c,zi (s:Int)] w (OH (x/2^s) w):=by
 obtain⟨l,j,H,rfl,X⟩:=M;have N:=j.ulen;have p:=zH H;clear H;have I:=GY n zO;obtain rfl:=N;go_enter func309,ntmps309;go_wp2;clear I
 go_loopw[14] (λi wr=>TS l s w i wr) (λi _=>l.length-(intOf i).toNat)
 case atStart=>exact⟨0,_,zs3 _,rfl,Bd.made w l.length,SZ zP (IJ _),zA _⟩
 case round=>
  obtain⟨k,L,Y,rfl,a,f,g⟩:=hrel;by_cases m:k<l.length
  ·obtain⟨b,J,u,q,R,r,S⟩:=(j.below g).limb_ m;subst q;have y:=BS p.o r;rw[AZ]at y;have B:L.length=l.length:=f.out.1;obtain⟨z,D⟩:∃z,L[k]?=some z:=⟨_,zq0 zO⟩;have T:=a.cell D;have U:=a.frozen k;have t:=zH (zu2 a r);by_cases K:k+1<l.length
   ·obtain⟨b2,E,v,q,O,F,V⟩:=(j.below g).limb_ K;obtain⟨rfl,rfl⟩:b=b2∧J=E:=by simpa using q
    have C:=BS p.o F;rw[AZ]at C;have P:=zH F;clear a D B r j q F;go_wp2;go_roundw
    case rel=>exact Mw G p.o m t.o.1 f.out g (by rw[nD u v y C,getD_some t.o.2,getD_some P.o])
    case measure=>exact zM
   clear a D B r j;go_wp2;go_roundw
   case rel=>exact Mw G p.o m t.o.1 f.out g (by rw[getD_some t.o.2,IN (by omega:l.length<=k+1)];rfl)
   case measure=>exact zM
  obtain rfl:k=l.length:=zO;obtain⟨f1,f2⟩:=TK f.out;have Q:At wr (sa w.heap.size 0) l.length l.length (val l/2^s):=⟨L,a.sl f.out.1,f1,f2,zs2 _⟩;clear f1 f2 a j;go_wp2_with(go_at_call 281;(with_reducible refine(Cg _ _ _ _ _ (by assumption) zO).mono ?_);rintro e w' ⟨rfl,rfl⟩)
  go_ret;obtain⟨f1,f2⟩:=Q.trimmed;exact⟨_,_,_,rfl,f2,f1,g⟩
def Win(w:World)(g off:Nat)(P S r:List Nat):Prop:=P.length=off∧Bd w g (P++r++S)
def Ig(w:World)(h:Nat)(V:List Nat):Prop:=∀(k x:Nat),V[k]?=some x->w.cell? (ad h k)=some (.int .u32 (x:Int))
section
variable{w w':World}{g h off:Nat}{P S r V:List Nat}
theorem Win.cell(a:Win w g off P S r)(b:r[k]?=some x):w.cell? (ad g (off+k))=some (.int .u32 (x:Int)):=by
 have e:=(zq1.1 b).1;refine a.2.cell ?_;rw[List.append_assoc,List.getElem?_append_right (by rw[a.1];omega),a.1,Nat.add_sub_cancel_left,zr4 e];exact b
theorem Win.frozen(a:Win w g off P S r)(k:Nat):w.frozen? (ad g k)=false:=a.2.frozen k
theorem Win.set(a:Win w g off P S r)(f:k<r.length)(x:Nat):Win (w.setCell (ad g (off+k)) (.int .u32 (x:Int))) g off P S (r.set k x):=by
 refine⟨a.1,?_⟩;have b:=a.2.set (i:=off+k) (by simp[a.1];omega) x
 have e:(P++r++S).set (off+k) x=P++r.set k x++S:=by
  rw[List.append_assoc,List.set_append_right _ _ (by rw[a.1];omega),a.1,Nat.add_sub_cancel_left,List.set_append_left _ _ f,<-List.append_assoc]
 rw[e]at b;exact b
theorem Win.drewN(a:Win w g off P S r)(k:Nat):Win (w.drewN k) g off P S r:=a
theorem Ig.drewN(a:Ig w h V)(k:Nat):Ig (w.drewN k) h V:=a
theorem Ig.far(a:Ig w h V)(b:h≠p.block)(x:Value):Ig (w.setCell p x) h V:=λk y f=>
 (World.cell?_setCell_other w p ⟨h,k,none⟩ x (λe=>b (by rw[e]))).trans (a k y f)
end
theorem YE{row:Option Nat}(h:a.grownBy w row)(n:Nat):a.grownBy (w.drewN n) row:=⟨h.os,h.tape,h.output,h.size,h.block⟩
theorem FG(h:a.grownBy w (some g))(e:p.block=g)(u:Value):a.grownBy (w.setCell p u) (some g):=
 ⟨h.os,h.tape,h.output,by simpa[World.setCell]using h.size,λi hi b=>(Below.heap_setCell w p u i (by
  rintro rfl;exact b (by rw[e]))).trans (h.block i hi b)⟩
def xP(Q:Nat)(w:World)(s8:Value)(wx:World):Prop:=∃q:Nat,s8=.int .u64 (q:Int)∧q<4294967296∧Hid (Q<=q∧q<=Q+1)∧Hid (∃j,wx=w.drewN j)
def Xr(Q top a:Nat)(w:World)(s8 s9:Value)(wr:World):Prop:=
 ∃q r:Nat,s8=.int .u64 (q:Int)∧s9=.int .u64 (r:Int)∧q<=8589934592∧r<=8589934592∧Hid (q*a+r=top)∧Hid (Q<=q)∧Hid (∃j,wr=w.drewN j)
theorem LI(h:∃j,wr=w.drewN j)(k:Nat):∃j,wr.drewN k=w.drewN j:=by
 obtain⟨j,rfl⟩:=h;exact⟨j+k,by rw[World.drewN_drewN]⟩
theorem dP(x0 x1 y1:Nat)(e:x0<4294967296)(f:x1<4294967296)(a:2147483648<=y1)(b:y1<4294967296):(x0*4294967296+x1)/y1<=8589934592∧(x0*4294967296+x1)%y1<=8589934592∧(x0*4294967296+x1)/y1*y1+(x0*4294967296+x1)%y1=x0*4294967296+x1:=by
 refine⟨?_,?_,Nat.div_add_mod' _ _⟩
 ·have h:(x0*4294967296+x1)/y1<8589934592:=by
   rw[Nat.div_lt_iff_lt_mul zO];have:8589934592*2147483648<=8589934592*y1:=zs4 _ a;omega
  omega
 have:=Nat.mod_lt (x0*4294967296+x1) (by omega:0<y1);omega
theorem Rz{Q top a r:Nat}(l:q<=8589934592)(m:r<=8589934592)(b:q*a+r=top)(f:Q<q)(e:∃j,wr=w.drewN j)(k:Nat)(n:1<=q)(i:r<4294967296)(o:a<4294967296) :
  Xr Q top a w (.int .u64 ((q:Int)-1)) (.int .u64 ((r:Int)+(a:Int))) (wr.drewN k):=by
 refine⟨q-1,r+a,by congr 1;omega,by congr 1,by omega,by omega,?_,(by show Q<=q-1;omega),LI e k⟩;show(q-1)*a+(r+a)=top;rw[<-b];obtain⟨p,rfl⟩:∃p,q=p+1:=⟨q-1,by omega⟩;rw[Nat.add_sub_cancel,Nat.add_mul,Nat.one_mul];omega
def Xs(g h off N q:Nat)(P S U V:List Nat)(w:World)(s10 s11 i:Value)(wr:World):Prop:=
 ∃(k c b:Nat)(r:List Nat),k<=N∧c<4294967296∧b<=1∧i=zi (k:Int)∧s10=.int .u64 (c:Int)∧s11=.int .u64 (b:Int)∧Win wr g off P S r∧Ig wr h V∧Hid (JN U V r q k c b)∧w.grownBy wr (some g)
theorem dQ(u v b:Nat)(a:u<4294967296)(f:v<4294967296)(i:b<=1) :
  ∃e c':Nat,e<4294967296∧c'<=1∧e+v+b=u+4294967296*c'∧IntKind.u64.wrap (IntKind.u64.wrap ((u:Int)-v)-b)%4294967296=(e:Int)∧IntKind.u64.wrap (IntKind.u64.wrap ((u:Int)-v)-b)/9223372036854775808=(c':Int):=by
 simp only[IntKind.wrap_u64];by_cases h:v+b<=u
 ·exact⟨u-v-b,0,by omega,by omega,by omega,by omega,by omega⟩
 exact⟨4294967296+u-v-b,1,by omega,by omega,by omega,by omega,by omega⟩
theorem dR{b p:Nat}(hi:i<N)(H:U.length=N+1)(k:h≠g)(B:q<4294967296)(l:x<4294967296)(m:y<4294967296)(C:b<=1)(D:U[i]?=some x)(E:V[i]?=some y)(F:q*y=p)
  (j:Win wr g off P S r) (n:Ig wr h V) (a:JN U V r q i c b) (o:w.grownBy wr (some g)) :
  Xs g h off N q P S U V w (Value.int IntKind.u64 (((c:Int)+p)/4294967296)) (Value.int IntKind.u64 (IntKind.u64.wrap (IntKind.u64.wrap ((x:Int)-((c:Int)+p)%4294967296)-b)/9223372036854775808)) (Value.int IntKind.i64 ((i:Int)+1))
   (wr.setCell (ad g (off+i)) (Value.int IntKind.u32 (IntKind.u64.wrap (IntKind.u64.wrap ((x:Int)-((c:Int)+p)%4294967296)-b)%4294967296))):=by
 obtain⟨e,c',G,f,s,q1,q2⟩:=dQ x ((c+p)%4294967296) b l zO C;have ee:((c:Int)+p)%4294967296=(((c+p)%4294967296:Nat):Int):=zO;rw[ee,q1,q2];have v:=Wd a D E (by rw[AZ];exact B) (by rw[AZ];exact m) (t:=c+p) (by rw[F]) (e:=e) (b':=c') (by rw[AZ];exact G) f (by rw[AZ];exact s);have z:=v.2.2.1;rw[AZ]at z;have I:=a.1;exact⟨i+1,(c+p)/4294967296,c',_,by omega,z,f,by go_num,rfl,rfl,j.set zO e,n.far (p:=ad g (off+i)) k _,v,FG o rfl _⟩
theorem dS(x c b:Nat)(a:x<4294967296)(f:c<4294967296)(i:b<=1)(h:¬c+b<=x) :
  ∃D1 D e:Nat,IntKind.u64.wrap ((x:Int)-c)=(D1:Int)∧IntKind.u64.wrap ((D1:Int)-b)=(D:Int)∧(D:Int)/9223372036854775808=1∧(D:Int)%4294967296=(e:Int)∧e+(c+b)=x+4294967296∧e<4294967296:=by
 simp only[IntKind.wrap_u64];by_cases j:c<=x
 ·exact⟨x-c,18446744073709551616+x-c-b,4294967296+x-c-b,by omega,by omega,by omega,by omega,by omega,by omega⟩
 exact⟨18446744073709551616+x-c,18446744073709551616+x-c-b,4294967296+x-c-b,by omega,by omega,by omega,by omega,by omega,by omega⟩
def Xt(g h off N:Nat)(P S R V:List Nat)(w:World)(s10 i:Value)(wr:World):Prop:=
 ∃(k c:Nat)(r:List Nat),k<=N∧c<=1∧i=zi (k:Int)∧s10=.int .u64 (c:Int)∧Win wr g off P S r∧Ig wr h V∧Hid (Jz R V r k c)∧w.grownBy wr (some g)
theorem dU(hi:i<N)(v:R.length=N+1)(e:h≠g)(f:x<4294967296)(j:y<4294967296)(n:R[i]?=some x)(o:V[i]?=some y)
  (b:Win wr g off P S r) (k:Ig wr h V) (a:Jz R V r i c) (l:w.grownBy wr (some g))  (q:T=((c+x+y:Nat):Int)) :
  Xt g h off N P S R V w (Value.int IntKind.u64 (T/4294967296)) (Value.int IntKind.i64 ((i:Int)+1)) (wr.setCell (ad g (off+i)) (Value.int IntKind.u32 (T%4294967296))):=by
 subst q;have m:=TM a n o (by rw[AZ];exact f) (by rw[AZ];exact j) (t:=c+x+y) rfl;have s:=m.2.2.1;have z:=a.1;exact⟨i+1,(c+x+y)/4294967296,_,by omega,s,by go_num,rfl,b.set zO _,k.far (p:=ad g (off+i)) e _,m,FG l rfl _⟩
def xQ(g h off q r:Nat)(P S V:List Nat)(w:World)(e:Ending)(w':World):Prop:=
 e=.returned (.int .u32 (q:Int))∧∃R,R.length=V.length+1∧okL R∧val R=r∧Win w' g off P S R∧Ig w' h V∧w.grownBy w' (some g)
theorem dV(g h off n cu cv:Nat)(P S U V:List Nat)(w:World)(hw:Win w g off P S U)(hv:Ig w h V)(N:h≠g)(hU:U.length=n+3)(hV:V.length=n+2)(F:okL U)(O:okL V)(hn:n<=1000000)
  (a9:∀y,V[n+1]?=some y->2147483648<=y) (am:val U<val V*bs) :
  CP 308 #[.slice (sa g off) (n+3) cu,.slice (sa h 0) (n+2) cv] w (xQ g h off (val U/val V) (val U%val V) P S V w):=by
 obtain⟨x0,Z⟩:∃x,U[n+2]?=some x:=⟨_,zq0 zO⟩;obtain⟨x1,a0⟩:∃x,U[n+1]?=some x:=⟨_,zq0 zO⟩;obtain⟨x2,a1⟩:∃x,U[n]?=some x:=⟨_,zq0 zO⟩;obtain⟨y1,Q⟩:∃x,V[n+1]?=some x:=⟨_,zq0 zO⟩;obtain⟨y2,a2⟩:∃x,V[n]?=some x:=⟨_,zq0 zO⟩;have c0:=hw.cell Z;have c1:=hw.cell a0;have c2:=hw.cell a1;have d1:=hv _ _ Q;have d2:=hv _ _ a2;have b0:=BS F Z;have b1:=BS F a0;have b2:=BS F a1;have e1:=BS O Q;have e2:=BS O a2;have al:=a9 _ Q;rw[AZ]at b0 b1 b2 e1 e2;obtain⟨p1,p2,p3,p4⟩:=dF F O hV hU Z a0 a1 Q a2;have E:=zH (zu2 p1 (zu2 p2 (zu2 p3 p4)));have f:=zH (zu2 hw (zu2 hv (zu2 F (zu2 O (zu2 hU (zu2 hV am))))));clear hw hv F O hU hV am p1 p2 p3 p4 Z a0 a1 Q a2 a9;have a3:=QN x0 x1 b0 b1;go_enter func308,ntmps308;go_wp2;go_quiet (fail)
 go_wp2;go_quiet (fail)
 go_upto_block 0 with fail
 go_cut [8] (λs8 wx=>xP (val U/val V) w s8 wx)
 case first=>
  go_wp2_with fail
  obtain⟨i1,i2,i3⟩:=dP x0 x1 y1 b0 b1 al e1;have HI:=zH (zu2 i1 (zu2 i2 i3));have HC:=zH (zu2 c2 d2);clear i1 i2 i3 c0 c1 d1 c2 d2 a3
  go_loopw[8,9] (λs8 s9 wr=>Xr (val U/val V) (x0*4294967296+x1) y1 w s8 s9 wr) (λs8 _ _=>(intOf s8).toNat)
  case atStart=>
   refine⟨(x0*4294967296+x1)/y1,(x0*4294967296+x1)%y1,rfl,rfl,HI.o.1,HI.o.2.1,HI.o.2.2,?_,⟨_,by rw[World.drewN_drewN]⟩⟩;exact mV (B:=bs) (P:=bs^n) E.o.1 E.o.2.1 E.o.2.2.1 (by rw[AZ];exact b2) zO
  case round=>
   obtain⟨q,r,rfl,rfl,hq,hr,G,an,H⟩:=hrel
   have c2':wr.cell? (ad g (off+n))=some (.int .u32 (x2:Int)):=by
    obtain⟨j,rfl⟩:=H.o;exact HC.o.1
   have d2':wr.cell? (ad h n)=some (.int .u32 (y2:Int)):=by
    obtain⟨j,rfl⟩:=H.o;exact HC.o.2
   by_cases aa:r<4294967296
   ·have k1:decide ((r:Int)<4294967296)=true:=by simp;omega
    by_cases a4:4294967296<=q
    ·have k2:decide ((4294967296:Int)<=(q:Int))=true:=by simp;omega
     have K:=zH (Xm (q:=q) (r:=r) E.o.1 E.o.2.1 E.o.2.2.1 f.o.2.2.2.2.2.2 G.out (.inl a4));go_wp2;go_quiet (fail)
     go_wp2;go_roundw
     case rel=>exact Rz hq hr G.out K.o H.o _ zO aa e1
     case measure=>exact zM
    have k2:decide ((4294967296:Int)<=(q:Int))=false:=by simp;omega
    obtain⟨p,R,av,aw⟩:=OL (u:=q) (v:=y2) zO e2;have ao:=zH R;have a3:=QN r x2 aa b2;clear R;obtain⟨T,hT⟩:=zG (r*4294967296+x2);rw[hT]at a3;have HT:=zH hT;clear hT;by_cases hc:T<p
    ·have K:=zH (Xm (B:=bs) (q:=q) (r:=r) E.o.1 E.o.2.1 E.o.2.2.1 f.o.2.2.2.2.2.2 G.out (.inr (by rw[AZ,ao.o,HT.o];exact hc)))
     have ap:1<=q:=by
      exact zt2 (zs3 _) K.o
     have k3:decide (T<p)=true:=by simpa using hc
     go_wp2;go_quiet (fail)
     go_wp2;go_roundw
     case rel=>exact Rz hq hr G.out K.o H.o _ ap aa e1
     case measure=>exact zM
    have K:=zH (Xn (B:=bs) (q:=q) (r:=r) E.o.1 E.o.2.1 E.o.2.2.2 (by rw[AZ];exact e2) zO f.o.2.2.2.2.2.2 G.out (.inr (by rw[AZ,ao.o,HT.o];omega)));have k3:decide (T<p)=false:=by simpa using hc
    go_wp2;go_quiet (fail)
    go_wp2;go_meet;exact⟨q,rfl,by omega,⟨an.out,K.o.2⟩,LI H.o _⟩
   have k1:decide ((r:Int)<4294967296)=false:=by simp;omega
   have K:=zH (Xn (B:=bs) (q:=q) (r:=r) E.o.1 E.o.2.1 E.o.2.2.2 (by rw[AZ];exact e2) zO f.o.2.2.2.2.2.2 G.out (.inl (by rw[AZ];omega)));go_wp2;go_quiet (fail)
   go_wp2;go_meet;exact⟨q,rfl,by have:=K.o.1;rw[AZ]at this;omega,⟨an.out,K.o.2⟩,LI H.o _⟩
 case rest=>
  obtain⟨q,rfl,a4,hQ,aq⟩:=hcut;obtain⟨j0,rfl⟩:=aq.out;clear aq c0 c1 c2 d1 d2 a3;go_wp2
  go_loopw[10,11,78] (λs10 s11 i wr=>Xs g h off (n+2) q P S U V w s10 s11 i wr) (λ_ _ i _=>n+2-(intOf i).toNat)
  case atStart=>exact⟨0,0,0,U,zs3 _,by omega,by omega,rfl,rfl,rfl,f.o.1.drewN _,f.o.2.1.drewN _,Wc _ _ f.o.2.2.1,YE (World.grownBy.refl _ _) _⟩
  case round=>
   obtain⟨i,c,b,r,hi,hc,hb,rfl,rfl,rfl,a,s,l,ab⟩:=hrel;by_cases ac:i<n+2
   ·obtain⟨x,L⟩:∃x,U[i]?=some x:=⟨_,zq0 (by rw[f.o.2.2.2.2.1];omega)⟩;obtain⟨y,M⟩:∃y,V[i]?=some y:=⟨_,zq0 (by rw[f.o.2.2.2.2.2.1];omega)⟩;have W:=BS f.o.2.2.1 L;have I:=BS f.o.2.2.2.1 M;rw[AZ]at W I;have t:r[i]?=some x:=by rw[Jc l.out.2.2.2.2.1];exact L
    have a5:=a.cell t;have a6:=a.frozen (off+i);have ax:=s _ _ M;obtain⟨p,R,av,aw⟩:=OL (u:=q) (v:=y) a4 I;have m:=zH (zu2 a (zu2 s (zu2 L (zu2 M R))));clear a s L M t R;go_wp2;go_roundw
    case rel=>exact dR ac f.o.2.2.2.2.1 N a4 W I hb m.o.2.2.1 m.o.2.2.2.1 m.o.2.2.2.2 m.o.1 m.o.2.1 l.out ab
    case measure=>exact zM
   obtain rfl:i=n+2:=zO;have X:r.length=n+3:=by rw[l.out.1];exact f.o.2.2.2.2.1
   obtain⟨x,L⟩:∃x,U[n+2]?=some x:=⟨_,zq0 (by rw[f.o.2.2.2.2.1];omega)⟩;have W:=BS f.o.2.2.1 L;rw[AZ]at W;have t:r[n+2]?=some x:=by rw[Jc l.out.2.2.2.2.1];exact L
   have a5:=a.cell t;have a6:=a.frozen (off+(n+2));have m:=zH (zu2 a (zu2 s (zu2 L X)));clear a s L t X;by_cases Y:c+b<=x
   ·have hD:((x:Int)-(c:Int)-(b:Int))/9223372036854775808=0:=zO;go_wp2;go_ret
    have ae:0<val V:=Nat.pos_of_ne_zero λe0=>by
     have:=f.o.2.2.2.2.2.2;rw[e0,Nat.zero_mul]at this;omega
    have hf:=YB l.out f.o.2.2.2.2.2.1 f.o.2.2.2.2.1 m.o.2.2.1 Y;obtain⟨f1,f2⟩:=YC hf hQ.out.2 hQ.out.1 ae;refine⟨by rw[<-f1];rfl,r.set (n+2) (x-(c+b)),by rw[List.length_set,m.o.2.2.2,f.o.2.2.2.2.2.1],DY l.out.2.1 _ (by rw[AZ];omega),f2,?_,m.o.2.1.far (p:=ad g (off+(n+2))) N _,FG ab rfl _⟩;have z:=m.o.1.set (k:=n+2) (by rw[m.o.2.2.2];omega) (x-(c+b));rw[show((x-(c+b):Nat):Int)=(x:Int)-(c:Int)-(b:Int)by omega]at z;exact z
   obtain⟨D1,D,e,w1,w2,w3,w4,w5,w6⟩:=dS x c b W hc hb Y;have HE:=zH w5
   have ap:1<=q:=by
    rcases Nat.eq_zero_or_pos q with h0|h0
    ·exfalso;have af:val (r.set (n+2) e)+q*val V=val U+bs^(n+3):=Ob l.out f.o.2.2.2.2.2.1 f.o.2.2.2.2.1 m.o.2.2.1 (by rw[AZ];exact w5);have a7:=Eh (DY l.out.2.1 (n+2) (v:=e) (by rw[AZ];exact w6));rw[List.length_set,m.o.2.2.2]at a7;rw[h0,Nat.zero_mul]at af;omega
    exact h0
   clear w5 Y;have z:=m.o.1.set (k:=n+2) (by rw[m.o.2.2.2];omega) e;have ag:=m.o.2.1.far (p:=ad g (off+(n+2))) N (.int .u32 (e:Int));have ah:=FG ab (p:=ad g (off+(n+2))) rfl (.int .u32 (e:Int));have HS:=zH (zu2 z (zu2 ag ah));have HO:=zH (DY l.out.2.1 (n+2) (v:=e) (by rw[AZ];exact w6));have HL:Hid ((r.set (n+2) e).length=n+3):=by rw[Hid,List.length_set];exact m.o.2.2.2
   clear z ag ah;go_wp2;clear a5 a6 w1 w2 w3 w4
   go_loopw[10,131] (λs10 i wr=>Xt g h off (n+2) P S (r.set (n+2) e) V w s10 i wr) (λ_ i _=>n+2-(intOf i).toNat)
   case atStart=>exact⟨0,0,r.set (n+2) e,zs3 _,by omega,rfl,rfl,HS.o.1,HS.o.2.1,TL _ HO.o,HS.o.2.2⟩
   case round=>
    obtain⟨i,cc,rr,hi,az,rfl,rfl,a,s,J,ai⟩:=hrel;by_cases ac:i<n+2
    ·obtain⟨x',a8⟩:∃x',(r.set (n+2) e)[i]?=some x':=⟨_,zq0 (by rw[HL.o];omega)⟩;obtain⟨y,M⟩:∃y,V[i]?=some y:=⟨_,zq0 (by rw[f.o.2.2.2.2.2.1];omega)⟩;have aj:=BS HO.o a8;have I:=BS f.o.2.2.2.1 M;rw[AZ]at aj I;have t:rr[i]?=some x':=by rw[Jc J.out.2.2.2.1];exact a8
     have a5:=a.cell t;have a6:=a.frozen (off+i);have ax:=s _ _ M;have C:=zH (zu2 a (zu2 s (zu2 a8 M)));clear a s a8 M t;go_wp2;go_roundw
     case rel=>exact dU ac HL.o N aj I C.o.2.2.1 C.o.2.2.2 C.o.1 C.o.2.1 J.out ai zO
     case measure=>exact zM
    obtain rfl:i=n+2:=zO;have ak:(r.set (n+2) e)[n+2]?=some e:=List.getElem?_set_self (by rw[m.o.2.2.2];omega);have t:rr[n+2]?=some e:=by rw[Jc J.out.2.2.2.1];exact ak
    have X:rr.length=n+3:=by rw[J.out.1];exact HL.o
    have a5:=a.cell t;have a6:=a.frozen (off+(n+2));have C:=zH (zu2 a (zu2 s (zu2 ak X)));clear a s t ak X;go_wp2;go_ret
    have ae:0<val V:=Nat.pos_of_ne_zero λe0=>by
     have:=f.o.2.2.2.2.2.2;rw[e0,Nat.zero_mul]at this;omega
    have af:val (r.set (n+2) e)+q*val V=val U+bs^(n+3):=Ob l.out f.o.2.2.2.2.2.1 f.o.2.2.2.2.1 m.o.2.2.1 (by rw[AZ];exact HE.o);have a7:=Eh HO.o;rw[HL.o]at a7;obtain⟨k,hk⟩:=We J.out f.o.2.2.2.2.2.1 HL.o C.o.2.2.1;have ay:=Eh f.o.2.2.2.1;rw[f.o.2.2.2.2.2.1]at ay;have b3:bs^(n+2)<=bs^(n+3):=Nat.pow_le_pow_right Ca zO;have ar:=DY J.out.2.1 (n+2) (v:=(e+cc)%bs) (Nat.mod_lt _ Ca);have au:=Eh ar;rw[List.length_set,C.o.2.2.2]at au;obtain⟨f1,f2⟩:=Wf (P:=bs^(n+3)) (k:=k) af a7 hQ.out.2 hQ.out.1 ae zO hk au;refine⟨?_,rr.set (n+2) ((e+cc)%bs),by rw[List.length_set,C.o.2.2.2,f.o.2.2.2.2.2.1],ar,f2,?_,C.o.2.1.far (p:=ad g (off+(n+2))) N _,FG ai rfl _⟩
    ·show Ending.returned (.int .u32 ((q:Int)-1))=_;congr 2;omega
    have z:=C.o.1.set (k:=n+2) (by rw[C.o.2.2.2];omega) ((e+cc)%bs);rw[AZ]at z⊢
    exact z
def Ti(q r:Nat)(w:World)(e:Ending)(w':World):Prop:=
 ∃A n c B m d,e=.returned (.tuple #[.slice A n c,.slice B m d,zY])∧Sl w' w'.heap.size A n (AC (Aj q))∧n<=c∧Sl w' w'.heap.size B m (AC (Aj r))∧m<=d∧Bw w w'
theorem clz(z:Nat)(a:z≠0)(b:z<4294967296):∃s:Nat,s<=31∧2^31<=z*2^s∧z*2^s<bs∧(32-(Lib.bitLen z:Int))=(s:Int):=by
 obtain⟨b1,b2,b3⟩:=Lib.bitLenAux_bounds 64 z zO a;have b4:Lib.bitLen z<=32:=Lib.bitLen_le z 32 zO zO;have e:Lib.bitLenAux 64 z=Lib.bitLen z:=rfl;rw[e]at b1 b2 b3;generalize Lib.bitLen z=bl at *
 refine⟨32-bl,by omega,?_,?_,by omega⟩
 ·have:=Nat.mul_le_mul_right (2^(32-bl)) b2;rw[<-Nat.pow_add,show bl-1+(32-bl)=31 by omega]at this;exact this
 have:=Nat.mul_lt_mul_of_pos_right b3 (Nat.pow_pos (by omega:0<2):0<2^(32-bl));rw[<-Nat.pow_add,show bl+(32-bl)=32 by omega]at this;exact this
theorem xR(z s:Nat)(w:World)(g:z<4294967296)(a:(32-(Lib.bitLen z:Int))=(s:Int)) :
  CP 306 #[.int .u32 (z:Int)] w λe w'=>e=.returned (zi (s:Int))∧w=w':=by
 refine(Tryz.bits_LeadingZeros32 (z:Int) w zO zO).mono λe w' ⟨b,f⟩=>⟨?_,f.symm⟩
 rw[b,Int.toNat_natCast,a]
theorem GE(h:Bw (w.drewN n) w1):Bw w w1:=(BR w w.heap.size n).trans h
theorem dW(a:y≠0)(h:y<bs):Aj y=[y]:=by rw[FC a,Nat.mod_eq_of_lt h,Nat.div_eq_of_lt h,Ds]
theorem xS(h:nl y=1):y≠0∧y<bs:=by
 have a:=NJ y;rw[h]at a;refine⟨λe=>?_,by simpa using a⟩;rw[e,Ld]at h;omega
theorem dX(A B:oA)(n m c d x y:Nat)(w:World)(a:At w A n c x)(f:At w B m d y)(t:n<=1000000)(z:m<=1000000)(i:x<y) :
  CP 285 #[.slice A n c,.slice B m d] w (Ti 0 x w):=by
 have C:=Le (v:=y) zO;have q:((nl y:Int) == 0)=false:=by simp;omega
 have t1:=a.trimmed;have s1:=f.trimmed.1;have r:=a.cut;have s:=f.cut;have l:=zH (FU i);have p:=zH t1.2;have t1:=t1.1;go_enter func285,ntmps285;go_wp2_with(first|(go_at_call 281;(with_reducible refine(Cg _ _ _ _ _ (by assumption) zO).mono ?_);rintro e w' ⟨rfl,rfl⟩)|(go_at_call 257;(with_reducible refine(GX _ _ _ _ _ _ _ _ _ (by assumption) (by assumption) zO zO).mono ?_);rintro e w' ⟨rfl,nq,rfl⟩;rw[l.o]))
 have D:=a.cap;refine(TD _ _ _ (Aj x) _ (p.o.drewN nq) (AH x) zO zO).mono ?_;rintro e w1 ⟨g,k,rfl,E,j,b⟩;go_wp2;go_ret3
 rw[Bc]at j;exact⟨none,0,0,_,_,_,rfl,by rw[Ds];exact Sl.none_,zs2 _,j,zs2 _,GE b⟩
theorem YF(A B:oA)(n m c d x y:Nat)(w:World)(t:At w A n c x)(l:At w B m d y)(Q:n<=1000000)(R:m<=1000000)(K:y<=x)(f:nl y=1) :
  CP 285 #[.slice A n c,.slice B m d] w (Ti (x/y) (x%y) w):=by
 obtain⟨y0,yb⟩:=xS f;have v:=l.trimmed.2;rw[f,dW y0 yb]at v;obtain⟨b,L,u,rfl,M,C,p⟩:=v.limb_ (k:=0) zO;obtain rfl:y=u:=by simpa using C
 rw[AZ]at yb;rw[Nat.add_zero]at p;have t1:=t.trimmed.1;have q:=t.cut;have s:=l.cut
 have N:0<=CS x y:=by
  unfold CS;rw[if_neg zO];split <;> omega
 generalize D:CS x y=z at *
 have G:=zH D;rw[f]at s;have H:=zH f;have O:1<=m:=by rw[<-f];exact l.trimmed.1
 clear D v C f;go_enter func285,ntmps285;go_wp2_with(first|(go_at_call 281;(with_reducible refine(Cg _ _ _ _ _ (by assumption) zO).mono ?_);rintro e w' ⟨rfl,rfl⟩;(try rw[H.o]))|(go_at_call 257;(with_reducible refine(GX _ _ _ _ _ _ _ _ _ (by assumption) (by assumption) zO zO).mono ?_);rintro e w' ⟨rfl,nq,rfl⟩;rw[G.o]))
 have g:=dM _ _ _ _ _ _ (q.drewN nq) zO (by omega:0<y) yb;obtain⟨r,i⟩:=zG (x%y)
 have P:r<4294967296:=by
  have:=Nat.mod_lt x (by omega:0<y);omega
 rw[i]at g;have I:=zH i;clear i;refine g.mono ?_;clear g;rintro e w1 ⟨A1,n1,c1,rfl,J,E,j,_⟩;clear t l q s p
 go_wp2_with fail
 refine(Pk r _ zO).mono ?_;rintro e w2 ⟨A2,n2,c2,rfl,i,F,a⟩;go_wp2;go_ret3
 rw[I.o];exact⟨_,_,_,_,_,_,rfl,J.on a,E,i,F,(GE j).trans (a.mono (GE j).size)⟩
end Go.Proofs.YteafekbddckemaaGreatDoor
