/- Parts of the proof. -/
import Derived.Test.YteafekbddckemaaGreatDoorH16
set_option maxRecDepth 100000
set_option maxHeartbeats 40000000
namespace Go.Proofs.YteafekbddckemaaGreatDoor
open Tryz Go.RowKit
open Go.Lib hiding intOf
variable{T U V t:TypeId}{W W0 w w':World}{a a0 a1 b c d e e0 e1 f:Value}{g h k m n:Nat}{l:lP}{p:Pt}
section
open Ieee
theorem oV(n:Nat):Toward.even.cut false n 0=n:=by
 simp[Toward.cut,Nat.mod_one]
theorem yD(n d:Nat):Toward.even.cut false n d<=n/2^min d (n.log2+2)+1:=by
 unfold Toward.cut;simp only[Nat.shiftLeft_eq,Nat.one_mul];exact Nat.add_le_add_left (Bool.toNat_le _) _
theorem yE(n d:Nat):n/2^min d (n.log2+2)<=Toward.even.cut false n d:=by
 unfold Toward.cut;simp only[Nat.shiftLeft_eq,Nat.one_mul];omega
theorem M7{e:Nat}(g:4503599627370496<=k)(i:k<9007199254740992)(j:e<2000):double.read (e*4503599627370496+k)=.number false k (-1074+e):=by
 have a:double.signWeight=9223372036854775808:=by decide
 have b:double.binade=4503599627370496:=by decide
 have hi:double.infRung=9218868437227405312:=by decide
 have f:double.leastPlace = -1074:=by decide
 unfold Format.read;rw[a,b,hi,f];have a1:(e*4503599627370496+k)/9223372036854775808=0:=zO;have a2:(e*4503599627370496+k)%9223372036854775808=e*4503599627370496+k:=zO;have a3:(e*4503599627370496+k)%4503599627370496=k-4503599627370496:=zO;have a4:(e*4503599627370496+k)/4503599627370496=e+1:=zO;rw[a1,a2];simp only;rw[if_neg zO,if_pos zO,a3,a4,show 4503599627370496+(k-4503599627370496)=k by omega,show e+1-1=e by omega];rfl
theorem Uj{e:Nat}(a:e<2000)(b:k<=9007199254740992):min (e*4503599627370496+k) 9218868437227405312=e*4503599627370496+k:=zt0 zO
theorem Zo(e:Nat):e*4503599627370496+9007199254740992=(e+1)*4503599627370496+4503599627370496:=zO
theorem p52:(2:Nat)^52=4503599627370496:=by decide
theorem p53:(2:Nat)^53=9007199254740992:=by decide
theorem PQ{p:Int}(E:1<=m)(F:m.log2<=60)(G : -500<=p)(D:p<=100) :
  ∃(k:Nat)(q:Int),double.read (double.nearest false m p)=.number false k q∧4503599627370496<=k∧k<9007199254740992∧(q=p+m.log2-52∨q=p+m.log2-51)∧(m.log2<=52->k=m*2^(52-m.log2)∧q=p+m.log2-52):=by
 have o:double.binade=4503599627370496:=by decide
 have hi:double.infRung=9218868437227405312:=by decide
 have g:double.leastPlace = -1074:=by decide
 have s:double.fractionBits=52:=by decide
 have t:∀r,double.word false r=r:=λr=>rfl
 have i:m≠0:=zO;have v:2^m.log2<=m:=Nat.log2_self_le i;have w:m<2^(m.log2+1):=Nat.lt_log2_self;unfold Format.nearest;rw[if_neg i,o,hi,g,s];simp only[t];clear o hi g s t;have l:max (p+(m.log2:Int)-((52:Nat):Int)) (-1074)=p+(m.log2:Int)-52:=zO;rw[l];generalize z:m.log2=L at *
 obtain⟨e,B⟩:∃e:Nat,(p+(L:Int)-52 - -1074).toNat=e:=⟨_,rfl⟩;rw[B];have b:e<2000:=zO;have x:e+1<2000:=zO;have f : -1074+(e:Int)=p+(L:Int)-52:=zO;have y : -1074+((e+1:Nat):Int)=p+(L:Int)-51:=zO;by_cases j:L<=52
 ·have e1:(p-(p+(L:Int)-52)).toNat=52-L:=zO;have e2:(p+(L:Int)-52-p).toNat=0:=zO;rw[e1,e2,oV,Nat.shiftLeft_eq]
  have k1:4503599627370496<=m*2^(52-L):=by
   have:=Nat.mul_le_mul_right (2^(52-L)) v;rw[<-Nat.pow_add,show L+(52-L)=52 by omega,p52]at this;exact this
  have k2:m*2^(52-L)<9007199254740992:=by
   have:=Nat.mul_lt_mul_of_pos_right w (Nat.two_pow_pos (52-L));rw[<-Nat.pow_add,show L+1+(52-L)=53 by omega,p53]at this;exact this
  generalize m*2^(52-L)=k at *
  have a:=Uj (e:=e) (k:=k) b zO;simp only[a];exact⟨k,-1074+(e:Int),M7 k1 k2 b,k1,k2,.inl f,λ_=>⟨rfl,f⟩⟩
 have e1:(p-(p+(L:Int)-52)).toNat=0:=zO;obtain⟨d,hd⟩:=zG (L-52);have e2:(p+(L:Int)-52-p).toNat=d:=zO;rw[e1,e2,Nat.shiftLeft_zero];have c1:=yD m d;have c2:=yE m d;rw[z,show min d (L+2)=d by omega]at c1 c2
 have k1:4503599627370496<=m/2^d:=by
  rw[Nat.le_div_iff_mul_le (Nat.two_pow_pos d)]
  have:4503599627370496*2^d=2^L:=by
   rw[<-p52,<-Nat.pow_add,show 52+d=L by omega]
  omega
 have k2:m/2^d<9007199254740992:=by
  rw[Nat.div_lt_iff_lt_mul (Nat.two_pow_pos d)]
  have:9007199254740992*2^d=2^(L+1):=by
   rw[<-p53,<-Nat.pow_add,show 53+d=L+1 by omega]
  omega
 generalize Toward.even.cut false m d=k at *
 have kge:4503599627370496<=k:=zs0 k1 c2;have kle:k<=9007199254740992:=zs0 c1 k2;clear c1 c2 k1 k2;have a:=Uj (e:=e) (k:=k) b kle;simp only[a];by_cases n:k<9007199254740992
 ·exact⟨k,-1074+(e:Int),M7 kge n b,kge,n,.inl f,λh=>absurd h j⟩
 have C:k=9007199254740992:=Nat.le_antisymm kle (Nat.le_of_not_lt n);rw[C,Zo e];exact⟨4503599627370496,-1074+((e+1:Nat):Int),M7 (zs2 _) zD x,zs2 _,by decide,.inr y,λh=>absurd h j⟩
theorem Q0(n:Nat):∀(t r:Nat),Datum.rootFrom n t r<r+2^t
 | 0,r=>by simp[Datum.rootFrom]
 | t+1,r=>by
  rw[Datum.rootFrom];simp only[Nat.shiftLeft_eq,Nat.one_mul];have h:=Nat.pow_succ 2 t;split
  ·have:=Q0 n t (r+2^t);omega
  have:=Q0 n t r;have:=Nat.two_pow_pos t;omega
theorem Ij(h:m<2^(k+1)):m.log2<=k:=by
 by_cases a:m=0
 ·subst a;simp
 have:=(Nat.log2_lt a).2 h;omega
theorem Zp(g:1<=n)(a:n<1125899906842624):∃(m:Nat)(p:Int),double.sqrt (double.nearest false n 0)=some (double.nearest false m p)∧m<72057594037927936∧-60<=p∧p<=-31:=by
 obtain⟨k,q,i,k1,k2,_,k4⟩:=PQ (m:=n) (p:=0) g (zs0 (Ij (k:=49) a) zO) zO zO;have t:n.log2<=49:=Ij (k:=49) a;obtain⟨_,v⟩:=k4 zO
 have j:k.log2=52:=by
  have:k.log2<=52:=Ij (k:=52) k2
  have w:¬k.log2<52:=λh=>by
   have:=(Nat.log2_lt (by omega:k≠0)).1 h;omega
  omega
 unfold Format.sqrt;rw[i];unfold Datum.root;have l:double.fractionBits=52:=by decide
 simp only;rw[if_neg zO,l,j];simp only[Bool.false_eq_true,if_false,zt6];obtain⟨b,o⟩:=zG (((q-((2*(52+2)-52:Nat):Int))%2).toNat);rw[o];have r:b<=1:=zO;obtain⟨x,e⟩:∃x,k <<< (2*(52+2)-52+b)=x:=⟨_,rfl⟩;rw[e]
 have s:x.log2<=109:=by
  refine Ij ?_;rw[<-e,Nat.shiftLeft_eq];have f:2^(2*(52+2)-52+b)<=2^57:=Nat.pow_le_pow_right zO zO
  calc k*2^(2*(52+2)-52+b)<=k*2^57:=zs4 k f
   _<2^53*2^57:=Nat.mul_lt_mul_of_pos_right k2 zD
   _=2^(109+1):=by decide
 have z:Datum.rootFrom x (x.log2/2+1) 0<2^55:=by
  have:=Q0 x (x.log2/2+1) 0;have f:2^(x.log2/2+1)<=2^55:=Nat.pow_le_pow_right zO zO;omega
 generalize Datum.rootFrom x (x.log2/2+1) 0=y at *
 refine⟨_,_,rfl,?_,?_,?_⟩
 ·have:(y*y != x).toNat<=1:=by cases(y*y != x) <;> simp
  omega
 ·omega
 omega
theorem oW(i:n<1125899906842624):∃r z:Nat,FloatKind.f64.format.sqrt (floatOfInt .f64 (n:Int))=some r∧floatToIntVal .f64 r .i64=some (z:Int)∧z<=67108864:=by
 have j:floatOfInt .f64 (n:Int)=double.nearest false n 0:=by
  unfold floatOfInt FloatKind.nearest;have:decide ((n:Int)<0)=false:=by simp
  rw[Int.natAbs_natCast,this];rfl
 rw[j];by_cases l:n=0
 ·subst l;exact⟨0,0,by decide,by decide,by omega⟩
 obtain⟨m,p,a,o,p1,p2⟩:=Zp (n:=n) zO i;refine⟨double.nearest false m p,?_⟩;by_cases b:m=0
 ·subst b;refine⟨0,a,?_,by omega⟩;have:double.nearest false 0 p=0:=rfl;rw[this];decide
 have x:m.log2<=55:=Ij (k:=55) o;obtain⟨k,q,s,k1,k2,y,_⟩:=PQ (m:=m) (p:=p) zO zO zO zO
 have t:k.log2=52:=by
  have:k.log2<=52:=Ij (k:=52) k2
  have B:¬k.log2<52:=λh=>by
   have:=(Nat.log2_lt (by omega:k≠0)).1 h;omega
  omega
 refine⟨Toward.zero.cut false k (-q).toNat,a,?_,?_⟩
 ·have w:Toward.zero.cut false k (-q).toNat<=k:=by
   simp only[Toward.cut,Bool.toNat_false,Nat.add_zero];exact Nat.div_le_self _ _
  unfold floatToIntVal;have hd:FloatKind.decode .f64 (double.nearest false m p)=.number false k q:=s;rw[hd];have e:q.toNat=0:=zO;simp only[Datum.toInt,Datum.integral,e,Nat.shiftLeft_zero,Ieee.signed,Bool.false_eq_true,if_false];generalize Toward.zero.cut false k (-q).toNat=z at *
  have f:IntKind.i64.min = -9223372036854775808:=by decide
  have g:IntKind.i64.max=9223372036854775807:=by decide
  rw[f,g,if_pos zO]
 simp only[Toward.cut,Bool.toNat_false,Nat.add_zero,Nat.shiftLeft_eq,Nat.one_mul,t];have v:2^27<=2^min (-q).toNat (52+2):=Nat.pow_le_pow_right zO zO
 calc k/2^min (-q).toNat (52+2)<=k/2^27:=Nat.div_le_div_left v zD
  _<=67108864:=zO
end
end Go.Proofs.YteafekbddckemaaGreatDoor

namespace Go.Proofs.YteafekbddckemaaGreatDoor
open Tryz Go.RowKit
open Go.Lib hiding intOf
variable{T U V t:TypeId}{W W0 w w':World}{a a0 a1 b c d e e0 e1 f:Value}{g h k m n:Nat}{l:lP}{p:Pt}
theorem Ul(l:lP)(d:Pt):(DA l d).length=l.length:=by simp[DA]
theorem uJ(d:Pt)(h:l[k]?=some p):(DA l d)[k]?=some (p.1+d.1,p.2+d.2):=by
 unfold DA;rw[zr5,h];rfl
theorem Zq(A:oA)(n c:Nat)(l:lP)(d:Pt)(w:World)(g:Ab 2 Ad w A n l)(S:n<=1000)(x:∀p∈l,inG p)(hd:inG d) :
  CP 88 #[.slice A n c,.agg #[zi d.1,zi d.2]] w (IU (DA l d) w):=by
 have I:=zH g;have T:=zH g.len;have J:=zH x;have y:=λW=>E7 n zO W
 have r:=zH (λk p (h:l[k]?=some p)=>uJ d h);unfold IU;rw[Ul,g.len];have m:(DA l d).length=n:=by rw[Ul,g.len]
 obtain⟨R,z⟩:=zG (DA l d);rw[z]at r m⊢
 have B:=zH m;have s:Bw w (zw (zw w #[zi d.1,zi d.2] 56) (madeCells #[zi 0,zi 0] (n*2)) 56):=(zA _).alloc zP _;have C:=zH ((Blk.new w 56 #[zi d.1,zi d.2]).alloc (.cells (madeCells #[zi 0,zi 0] (n*2)) 56));have a:=LR (zw w #[zi d.1,zi d.2] 56) n R;rw[show(zw w #[zi d.1,zi d.2] 56).heap.size=w.heap.size+1 by simp]at a;have D:=zH a;have E:=zH s;obtain⟨d1,d2⟩:=d;obtain⟨g1,g2,g3,g4⟩:=hd;simp only at *
 clear g x a s z m;go_enter func88,ntmps88
 go_wp2_with fail
 clear y
 go_loopw[6,7,13,15,16,17,18,19,20,21,22,23,24,25,26,27,28,29,30,31] (λ_ _ i _ _ _ _ _ _ _ _ _ _ _ _ _ _ _ _ _ wr=>∃k:Nat,k<=n∧i=zi (k:Int)∧Ea wr (w.heap.size+1) n R (λj=>j<k)∧Blk wr w.heap.size 56 #[zi d1,zi d2]∧Bw w wr) (λ_ _ i _ _ _ _ _ _ _ _ _ _ _ _ _ _ _ _ _ _=>n-(intOf i).toNat)
 case atStart=>exact⟨0,zs3 _,rfl,D.o.weak (λj t=>by omega),C.o,E.o⟩
 case round=>
  obtain⟨k,U,rfl,a,f,e⟩:=hrel;have F:=zH e;have G:=zH a;have K:=zH f;by_cases q:k<n
  ·obtain⟨b,M,p,rfl,N,v,c0,c1⟩:=Ap (I.o.on Aa e) q;obtain⟨q1,q2,q3,q4⟩:=J.o p (zq2 v);have H:=zH (r.o k p v);have x0:=f.c (i:=0) rfl;have x1:=f.c (i:=1) rfl;have O:=f.lt;have P:Hid (Bw wr (zw wr #[zi p.1,zi p.2] 56)):=zA _;obtain⟨z0,z1,e0,e1,e2,e3,Q⟩:=a.cells q;obtain⟨i1,i2⟩:=zI (k:=k) (n:=n) (by omega);have i3:IntKind.i64.wrap (p.1+d1)=p.1+d1:=zs5 _ zO;have i4:IntKind.i64.wrap (p.2+d2)=p.2+d2:=zs5 _ zO;clear v a f e q1 q2 q3 q4
   go_wp2_with fail
   go_roundw
   case rel=>
    refine⟨k+1,by omega,by go_num,((G.o.step H.o q).below (zA _)).weak (λj t=>by omega),((K.o.far zP _).far zP _).alloc _,?_⟩;exact(((F.o.setCell zP _).setCell zP _).alloc zQ _)
   case measure=>exact zM
  obtain rfl:k=n:=zO;have L:=zH (a.done B.o (λj t=>t));clear a f e
  go_wp2_with fail
  go_ret;exact⟨w.heap.size+1,rfl,by omega,L.o,F.o⟩
theorem Zr(A:oA)(n c:Nat)(l:lP)(d:Pt)(w:World)(j:Ab 2 Ad w A n l)(r:n<=1000)(s:∀p∈l,inG p)(hd:inG d) :
  CP 56 #[.slice A n c,.agg #[zi d.1,zi d.2]] w (IU (DA l d) w):=by
 have f:Bw w (zw w #[zi d.1,zi d.2] 56):=zA _;have i:=zH f;have t:=zH (Zq A n c l d _ (j.on Aa f) r s hd);clear j f;go_enter func56,ntmps56;go_wp2_with(go_at_call 88;refine t.o.mono ?_;rintro e w1 ⟨g,rfl,a,k,b⟩;have m:=zH a;have v:=zH k;have q:=zH (zT i.o b);clear a k b)
 go_ret;exact⟨g,rfl,zs0 i.o.size m.o,v.o,q.o⟩
def Tk(p:lP)(i:Nat):Int:=(vtx p i).1*(vtx p (i+1)).2-(vtx p i).2*(vtx p (i+1)).1
def Jm(p:lP)(k:Nat):Int:=((List.range k).map (Tk p)).foldl (· + ·) 0
theorem Um(p:lP):Kk p=Jm p p.length:=rfl
theorem RS(p:lP)(k:Nat):Jm p (k+1)=Jm p k+Tk p k:=by
 unfold Jm;rw[List.range_succ,zr0,List.foldl_append];rfl
theorem RT{p:lP}(e:∀s∈p,inG s)(f:0<p.length)(i:Nat):(-1099511627776<=(vtx p i).1*(vtx p (i+1)).2∧(vtx p i).1*(vtx p (i+1)).2<=1099511627776)∧(-1099511627776<=(vtx p i).2*(vtx p (i+1)).1∧(vtx p i).2*(vtx p (i+1)).1<=1099511627776):=by
 obtain⟨a1,a2,a3,a4⟩:=e _ (EL f i);obtain⟨b1,b2,b3,b4⟩:=e _ (EL f (i+1));have g:=FE (a:=1048576) (b:=1048576) (x:=(vtx p i).1) (y:=(vtx p (i+1)).2) ⟨a1,a2⟩ ⟨b3,b4⟩;have j:=FE (a:=1048576) (b:=1048576) (x:=(vtx p i).2) (y:=(vtx p (i+1)).1) ⟨a3,a4⟩ ⟨b1,b2⟩;omega
theorem Q2{p:lP}(a:∀s∈p,inG s)(b:0<p.length):∀k:Nat,-(2199023255552*(k:Int))<=Jm p k∧Jm p k<=2199023255552*(k:Int)
 | 0=>by simp[Jm]
 | k+1=>by
  have ih:=Q2 a b k;have e:=RT a b k;rw[RS];unfold Tk;omega
theorem Un(A:oA)(n c:Nat)(l:lP)(w:World)(f:Ab 2 Ad w A n l)(E:0<n)(Q:n<=1000)(z:∀p∈l,inG p) :
  CP 65 #[.slice A n c] w (zR (zi (Kk l)) w):=by
 have F:=zH f;have B:=zH f.len;have r:0<l.length:=by rw[f.len];exact E
 have M:=zH (λk=>RT z r k);have G:=zH (λk=>Q2 z r k);rw[Um,f.len];clear f z;go_enter func65,ntmps65
 go_wp2_with fail
 go_loopw[3,4,5,6,9,11,12,13,14,15,16,17,18,19,20,21,22,23,24,25,26,27,28,29,30,31,32,33,34] (λs _ _ _ i _ _ _ _ _ _ _ _ _ _ _ _ _ _ _ _ _ _ _ _ _ _ _ _ wr=>∃k:Nat,k<=n∧i=zi (k:Int)∧s=zi (Jm l k)∧Bw w wr) (λ_ _ _ _ i _ _ _ _ _ _ _ _ _ _ _ _ _ _ _ _ _ _ _ _ _ _ _ _ _=>n-(intOf i).toNat)
 case atStart=>exact⟨0,zs3 _,rfl,rfl,zJ⟩
 case round=>
  obtain⟨k,R,rfl,rfl,a⟩:=hrel;have C:=zH a;by_cases t:k<n
  ·obtain⟨m,j⟩:=zG ((k+1)%n);have lm:m<n:=by rw[<-j];exact Nat.mod_lt _ E
   obtain⟨b,O,p,rfl,P,H,c0,c1⟩:=Ap (F.o.on Aa a) t;obtain⟨b2,N,q,g,_,I,c2,c3⟩:=Ap (F.o.on Aa a) lm;injection g with g
   injection g with e1 e2
   subst e1;subst e2
   have v:vtx l k=p:=by
    have:=Ew (p:=l) (i:=k) (by rw[B.o];exact t);rw[H]at this;exact(zs6 this).symm
   have y:vtx l (k+1)=q:=by
    have:=Ew (p:=l) (i:=m) (by rw[B.o];exact lm);rw[I]at this;rw[<-EZ (p:=l) (k+1),B.o,j];exact(zs6 this).symm
   have J:=M.o k;have K:=G.o k;have D:=zH (RS l k);unfold Tk at D;rw[v,y]at J D;generalize Jm l k=x at *
   have L:Hid (Bw wr (zw (zw wr #[zi p.1,zi p.2] 56) #[zi q.1,zi q.2] 56)):=(zA _).alloc zP _;obtain⟨i1,i2⟩:=zI (k:=k) (n:=n) (by omega);have i3:IntKind.i64.wrap ((k:Int)+1)=(k:Int)+1:=zs5 _ zO;have i4:((k:Int)+1).tmod (n:Int)=(m:Int):=by rw[<-j];rfl
   have i5:¬(n:Int)=0:=zO;obtain⟨i6,i7⟩:=zI (k:=m) (n:=n) (by omega);have i8:IntKind.i64.wrap (p.1*q.2)=p.1*q.2:=zs5 _ zO;have i9:IntKind.i64.wrap (p.2*q.1)=p.2*q.1:=zs5 _ zO;have i10:IntKind.i64.wrap (p.1*q.2-p.2*q.1)=p.1*q.2-p.2*q.1:=zs5 _ zO;have i11:IntKind.i64.wrap (x+(p.1*q.2-p.2*q.1))=x+(p.1*q.2-p.2*q.1):=zs5 _ zO;clear H I v y j a J K
   go_wp2_with fail
   go_roundw
   case rel=>exact⟨k+1,by omega,by go_num,by rw[D.o],zT C.o L.o⟩
   case measure=>exact zM
  obtain rfl:k=n:=zO;clear a
  go_wp2_with fail
  go_ret;exact⟨rfl,C.o⟩
theorem fY{n k:Int}(a:0<k):(Int.tmod n k+k).tmod k=n%k:=by
 have j:0<=n%k:=Int.emod_nonneg _ zO;have l:n%k<k:=Int.emod_lt_of_pos _ a;by_cases b:0<=n
 ·rw[Int.tmod_eq_emod_of_nonneg b,Int.tmod_eq_emod_of_nonneg zO,Int.add_emod_right,Int.emod_emod]
 have i:=Int.lt_tmod_of_pos n a;have e:0<=Int.tmod n k+k:=zO;rw[Int.tmod_eq_emod_of_nonneg e,Int.add_emod_right];have f:n=k*n.tdiv k+n.tmod k:=(Int.mul_tdiv_add_tmod n k).symm
 have g:n.tmod k%k=n%k:=by
  conv=>rhs;rw[f]
  rw[Int.add_comm,Int.add_mul_emod_self_left]
 exact g
theorem Ha(n:Int) : -1048576<=BC n∧BC n<=1048576:=by
 unfold BC;omega
theorem Ga(n:Int):0<=AV n∧AV n<=1048576:=by
 unfold AV;split <;> omega
theorem Q3{n k:Int}(b:0<=k)(a:k<=1048576):0<=D4 n k∧D4 n k<=1048576:=by
 unfold D4;split
 ·omega
 have e:0<=n%k:=Int.emod_nonneg _ zO;have f:n%k<k:=Int.emod_lt_of_pos _ zO;omega
theorem PT(n:Int)(w:World):CP 236 #[zi n] w λe w'=>e=.returned (zi (AV n))∧w=w':=by
 by_cases b:n<1
 ·have a:Hid (AV n=0):=zH (by unfold AV;rw[if_pos (.inl b)]);go_enter func236,ntmps236;go_wp2;go_ret;exact⟨by rw[a.o];rfl,rfl⟩
 by_cases f:1048576<n
 ·have a:Hid (AV n=0):=zH (by unfold AV;rw[if_pos (.inr f)]);go_enter func236,ntmps236;go_wp2;go_ret;exact⟨by rw[a.o];rfl,rfl⟩
 have a:Hid (AV n=n):=zH (by unfold AV;rw[if_neg zO]);go_enter func236,ntmps236;go_wp2;go_ret;exact⟨by rw[a.o];rfl,rfl⟩
theorem Fr(n:Int)(w:World):CP 188 #[zi n] w λe w'=>e=.returned (zi (BC n))∧w=w':=by
 obtain⟨D,a⟩:=zG (max n (-1048576));obtain⟨E,b⟩:=zG (min D 1048576);have f:Hid (BC n=E):=zH (by unfold BC;rw[a,b]);go_enter func188,ntmps188;go_wp2;go_ret;exact⟨by rw[f.o];rfl,rfl⟩
theorem LZ(n k:Int)(w:World)(p:0<=k∧k<=1048576):CP 237 #[zi n,zi k] w λe w'=>e=.returned (zi (D4 n k))∧w=w':=by
 by_cases f:k=0
 ·subst f;have b:Hid (D4 n 0=0):=zH rfl;go_enter func237,ntmps237;go_wp2;go_ret;exact⟨by rw[b.o];rfl,rfl⟩
 have a:0<k:=zO;have b:Hid (D4 n k=(Int.tmod n k+k)%k):=zH (by unfold D4;rw[if_neg f,<-fY a,Int.tmod_eq_emod_of_nonneg (zV (Int.lt_tmod_of_pos n a))]);have g:=Int.lt_tmod_of_pos n a;have i:=Int.tmod_lt_of_pos n a;obtain⟨u,j⟩:=zG (Int.tmod n k);rw[j]at b g i;have l:=Int.lt_tmod_of_pos (u+k) a;have m:=Int.tmod_lt_of_pos (u+k) a;have w1:IntKind.i64.wrap u=u:=zs5 _ zO;have w2:IntKind.i64.wrap (u+k)=u+k:=zs5 _ zO;have w3:IntKind.i64.wrap ((u+k).tmod k)=(u+k).tmod k:=zs5 _ zO;go_enter func237,ntmps237;go_wp2;go_ret;exact⟨by rw[b.o];rfl,rfl⟩
theorem Lj(h:Blk w g T #[a0,a1])(a:Bw w w'):zL w' g 0 a0∧zL w' g 1 a1:=⟨(h.below a).c rfl,(h.below a).c rfl⟩
theorem Blk.putS2(h:Blk w g t #[e0,e1])(u0 u1:Value):Blk ((w.setCell (ad g 0) u0).setCell (ad g 1) u1) g t #[u0,u1]:=(h.set_ 0 u0).set_ 1 u1
theorem Og(r:Bw W0 W)(x1:Blk W0 g T #[a,b])(x2:Blk W0 h U #[c,d])(x3:Blk W0 k V #[e,f])(p q:Int)(j:g≠h:=by omega)(l:g<k:=by omega)(o:h<k:=by omega):(zL W g 0 a∧zL W g 1 b∧W.frozen? (ad g 0)=false∧W.frozen? (ad g 1)=false)∧(zL W k 0 e∧zL W k 1 f∧W.frozen? (ad k 0)=false∧W.frozen? (ad k 1)=false∧k<W.heap.size)∧(∀m n:Int,zL (((W.setCell (ad g 0) (zi p)).setCell (ad g 1) (zi q)).setCell (ad k 0) (zi m)) k 0 (zi m)∧zL ((((W.setCell (ad g 0) (zi p)).setCell (ad g 1) (zi q)).setCell (ad k 0) (zi m)).setCell (ad k 1) (zi n)) k 1 (zi n))∧∀w',Below k ((W.setCell (ad g 0) (zi p)).setCell (ad g 1) (zi q)) w'->(zL w' g 0 (zi p)∧zL w' g 1 (zi q))∧(zL w' h 0 c∧zL w' h 1 d):=by
 have y1:=x1.below r;have y2:=x2.below r;have y3:=x3.below r;refine⟨⟨y1.c rfl,y1.c rfl,y1.frozen 0,y1.frozen 1⟩,⟨y3.c rfl,y3.c rfl,y3.frozen 0,y3.frozen 1,y3.lt⟩,λm n=>?_,λw' i=>?_⟩
 ·have z3:=((y3.far (p:=ad g 0) (by show k≠g;omega) (zi p)).far (p:=ad g 1) (by show k≠g;omega) (zi q)).set_ 0 (zi m);exact⟨z3.c zP,(z3.set_ 1 (zi n)).c zP⟩
 have z1:=y1.putS2 (zi p) (zi q);have z2:=((y2.far (p:=ad g 0) (λe=>j e.symm) (zi p)).far (p:=ad g 1) (λe=>j e.symm) (zi q));exact⟨⟨(i.cell (p:=ad g 0) l).trans (z1.c rfl),(i.cell (p:=ad g 1) l).trans (z1.c rfl)⟩,(i.cell (p:=ad h 0) o).trans (z2.c rfl),(i.cell (p:=ad h 1) o).trans (z2.c rfl)⟩
theorem RU(r:Pt)(w:World):CP 186 #[.agg #[zi r.1,zi r.2]] w (zR (.agg #[zi (AV r.1),zi (AV r.2)]) w):=by
 have b:=zH (λW=>PT r.1 W);have f:=zH (λW=>PT r.2 W);obtain⟨x,y⟩:=r;simp only at *
 generalize AV x=p at *
 generalize AV y=q at *
 have a:=Blk.new w 31 #[zi x,zi y];have g:=λw'=>zH (λ(i:Bw (zw w #[zi x,zi y] 31) w')=>Lj a i)
 clear a;go_enter func186,ntmps186
 go_wp2_with fail
 go_region_held3(λw'=>w'.cell? (ad w.heap.size 0)=some (zi x)∧w'.cell? (ad w.heap.size 1)=some (zi y))
  ((refine(g _).out ?_;repeat(first|(with_reducible exact zJ)|(with_reducible refine Below.drew ?_)|(with_reducible refine Below.alo ?_ _)|(with_reducible refine Below.setCell ?_ zP _))))
  ((go_at_call 236;go_must((first|(with_reducible refine(b.o _).mono ?_)|(with_reducible refine(f.o _).mono ?_));rintro e w1 ⟨rfl,rfl⟩)))
 all_goals
  go_wp2_with fail
  refine bodyPost_ret (v:=.agg #[zi p,zi q]) (by simp[results,results186,go_sem]) rfl ⟨rfl,?_⟩
  repeat(first|(with_reducible exact zJ)|(with_reducible refine Ai ?_ _)|(with_reducible refine Below.drew ?_)|(with_reducible refine Below.alo ?_ _)|(with_reducible refine Below.setCell ?_ zP _))
theorem RV(r a:Pt)(w:World):CP 199 #[.agg #[zi r.1,zi r.2],.agg #[zi a.1,zi a.2]] w (zR (.agg #[zi (DJ r a).1,zi (DJ r a).2]) w):=by
 have H:=zH (λW=>RU r W);have s:=zH (λW=>Fr a.1 W);have t:=zH (λW=>Fr a.2 W);have l1:=Ha a.1;have l2:=Ha a.2;have z:=zH (λW=>LZ (BC a.1) (AV r.1) W (Ga r.1));have B:=zH (λW=>LZ (BC a.2) (AV r.2) W (Ga r.2));have C:Hid (DJ r a=(D4 (BC a.1) (AV r.1),D4 (BC a.2) (AV r.2))):=rfl;obtain⟨R,D⟩:=zG (DJ r a);rw[D]at C⊢
 clear D l1 l2;obtain⟨r1,r2⟩:=r;obtain⟨a1,a2⟩:=a;simp only at *
 generalize D4 (BC a1) (AV r1)=m at *
 generalize D4 (BC a2) (AV r2)=n at *
 generalize AV r1=p at *
 generalize AV r2=q at *
 generalize BC a1=x at *
 generalize BC a2=y at *
 obtain⟨W0,b⟩:=zG (((w.alloc (.cells #[zi r1,zi r2] 31)).alloc (.cells #[zi a1,zi a2] 56)).alloc (.cells #[zi 0,zi 0] 56));have E:W0.heap.size=w.heap.size+1+1+1:=by rw[<-b];simp
 have X1:Blk W0 w.heap.size 31 #[zi r1,zi r2]:=by rw[<-b];exact((Blk.new _ _ _).alloc _).alloc _
 have X2:Blk W0 (w.heap.size+1) 56 #[zi a1,zi a2]:=by rw[<-b];exact(Blk.new' _ _ _ zP).alloc _
 have X3:Blk W0 (w.heap.size+1+1) 56 #[zi 0,zi 0]:=by rw[<-b];exact Blk.new' _ _ _ zP
 have g:Bw w W0:=by rw[<-b];exact Below.alo (Below.alo (zA _) _) _
 have i:=zH (λW (I:Bw W0 W)=>Og I X1 X2 X3 p q);have l:=zH g;have F:=zH E;rw[<-b]at i l F;clear E b X1 X2 X3 g;go_enter func199,ntmps199;go_wp2_with(go_at_call 186;refine(H.o _).mono ?_;rintro e w1 ⟨rfl,f⟩;obtain⟨⟨k0,k1,f0,f1⟩,⟨e0,e1,e2,e3,e4⟩,j,k⟩:=i.o _ f;obtain⟨u0,u1⟩:=j m n;clear j;have J:=zH k;have G:=zH (zT l.o f);have K:=f.size;rw[F.o]at K;clear f k)
 go_region_held3(λw'=>(w'.cell? (ad w.heap.size 0)=some (zi p)∧w'.cell? (ad w.heap.size 1)=some (zi q))∧(w'.cell? (ad (w.heap.size+1) 0)=some (zi a1)∧w'.cell? (ad (w.heap.size+1) 1)=some (zi a2)))
  ((refine J.o _ ?_;repeat(first|(with_reducible exact zJ)|(with_reducible refine Below.drew ?_)|(with_reducible refine Below.setCell ?_ zP _))))
  ((first
   | (go_at_call 188;go_must((first|(with_reducible refine(s.o _).mono ?_)|(with_reducible refine(t.o _).mono ?_));rintro e w1 ⟨rfl,rfl⟩))
   | (go_at_call 237;go_must((first|(with_reducible refine(z.o _).mono ?_)|(with_reducible refine(B.o _).mono ?_));rintro e w1 ⟨rfl,rfl⟩))))
 all_goals
  go_wp2_with fail
  refine bodyPost_ret (v:=.agg #[zi m,zi n]) (by simp[results,results199,go_sem,u0,u1]) rfl ⟨by rw[C.o],?_⟩
  repeat(first|(with_reducible exact G.o)|(with_reducible exact zJ)|(with_reducible refine Ai ?_ _)|(with_reducible refine Below.drew ?_)|(with_reducible refine Below.alo ?_ _)|(with_reducible refine Below.setCell ?_ (by dsimp only;omega) _))
theorem Zs{j:Nat}{X:TypeId}{i l:Value}(t:Bw W0 W)(x1:Blk W0 g T #[a,b])(x2:Blk W0 h U #[c,d])(x4:Blk W0 j X #[i,l])(x3:Blk W0 k V #[e,f])(p q:Int)(v:g≠h:=by omega)(r:g≠j:=by omega)(w:g<k:=by omega)(x:h<k:=by omega)(s:j<k:=by omega):(zL W g 0 a∧zL W g 1 b∧W.frozen? (ad g 0)=false∧W.frozen? (ad g 1)=false)∧(zL W k 0 e∧zL W k 1 f∧W.frozen? (ad k 0)=false∧W.frozen? (ad k 1)=false∧k<W.heap.size)∧(∀m n:Int,zL (((W.setCell (ad g 0) (zi p)).setCell (ad g 1) (zi q)).setCell (ad k 0) (zi m)) k 0 (zi m)∧zL ((((W.setCell (ad g 0) (zi p)).setCell (ad g 1) (zi q)).setCell (ad k 0) (zi m)).setCell (ad k 1) (zi n)) k 1 (zi n))∧∀w',Below k ((W.setCell (ad g 0) (zi p)).setCell (ad g 1) (zi q)) w'->(zL w' g 0 (zi p)∧zL w' g 1 (zi q))∧(zL w' h 0 c∧zL w' h 1 d)∧(zL w' j 0 i∧zL w' j 1 l):=by
 obtain⟨k1,k2,k4,k3⟩:=Og t x1 x2 x3 p q;refine⟨k1,k2,k4,λw' o=>⟨(k3 w' o).1,(k3 w' o).2,?_⟩⟩;have y4:=x4.below t;have z4:=(y4.far (p:=ad g 0) (λe=>r e.symm) (zi p)).far (p:=ad g 1) (λe=>r e.symm) (zi q);exact⟨(o.cell (p:=ad j 0) s).trans (z4.c rfl),(o.cell (p:=ad j 1) s).trans (z4.c rfl)⟩
theorem Uo(k a b:Int)(w:World)(f:0<=k∧k<=1048576)(g : -1048576<=a∧a<=1048576)(i : -1048576<=b∧b<=1048576):CP 187 #[zi k,zi a,zi b] w λe w'=>e=.returned (zi (a+D4 (b-a) k))∧w=w':=by
 have j:=zH (λW=>LZ (b-a) k W f);have l:=Q3 (n:=b-a) f.1 f.2;have i1:IntKind.i64.wrap (b-a)=b-a:=zs5 _ zO;have i2:IntKind.i64.wrap (a+D4 (b-a) k)=a+D4 (b-a) k:=zs5 _ zO;generalize D4 (b-a) k=m at *
 clear l g i f;go_enter func187,ntmps187;go_wp2_with(go_at_call 237;refine(j.o _).mono ?_;rintro e w1 ⟨rfl,rfl⟩)
 go_ret;exact⟨rfl,rfl⟩
theorem fZ(r a b:Pt)(w:World):CP 143 #[.agg #[zi r.1,zi r.2],.agg #[zi a.1,zi a.2],.agg #[zi b.1,zi b.2]] w (zR (.agg #[zi (EY r a b).1,zi (EY r a b).2]) w):=by
 have K:=zH (λW=>RU r W);have t:=zH (λW=>Fr a.1 W);have z:=zH (λW=>Fr a.2 W);have B:=zH (λW=>Fr b.1 W);have C:=zH (λW=>Fr b.2 W);have D:=zH (λW=>Uo (AV r.1) (BC a.1) (BC b.1) W (Ga r.1) (Ha a.1) (Ha b.1));have E:=zH (λW=>Uo (AV r.2) (BC a.2) (BC b.2) W (Ga r.2) (Ha a.2) (Ha b.2));have F:Hid (EY r a b=(BC a.1+D4 (BC b.1-BC a.1) (AV r.1),BC a.2+D4 (BC b.2-BC a.2) (AV r.2))):=rfl;obtain⟨R,G⟩:=zG (EY r a b);rw[G]at F⊢
 clear G;obtain⟨r1,r2⟩:=r;obtain⟨a1,a2⟩:=a;obtain⟨b1,b2⟩:=b;simp only at *
 generalize BC a1+D4 (BC b1-BC a1) (AV r1)=m at *
 generalize BC a2+D4 (BC b2-BC a2) (AV r2)=n at *
 generalize AV r1=p at *
 generalize AV r2=q at *
 generalize BC a1=x at *
 generalize BC a2=y at *
 generalize BC b1=u at *
 generalize BC b2=v at *
 obtain⟨W0,f⟩:=zG ((((w.alloc (.cells #[zi r1,zi r2] 31)).alloc (.cells #[zi a1,zi a2] 56)).alloc (.cells #[zi b1,zi b2] 56)).alloc (.cells #[zi 0,zi 0] 56));have H:W0.heap.size=w.heap.size+1+1+1+1:=by rw[<-f];simp
 have X1:Blk W0 w.heap.size 31 #[zi r1,zi r2]:=by rw[<-f];exact(((Blk.new _ _ _).alloc _).alloc _).alloc _
 have X2:Blk W0 (w.heap.size+1) 56 #[zi a1,zi a2]:=by rw[<-f];exact((Blk.new' _ _ _ zP).alloc _).alloc _
 have X4:Blk W0 (w.heap.size+1+1) 56 #[zi b1,zi b2]:=by rw[<-f];exact(Blk.new' _ _ _ zP).alloc _
 have X3:Blk W0 (w.heap.size+1+1+1) 56 #[zi 0,zi 0]:=by rw[<-f];exact Blk.new' _ _ _ zP
 have i:Bw w W0:=by rw[<-f];exact Below.alo (Below.alo (Below.alo (zA _) _) _) _
 have j:=zH (λW (L:Bw W0 W)=>Zs L X1 X2 X4 X3 p q);have s:=zH i;have I:=zH H;rw[<-f]at j s I;clear H f X1 X2 X3 X4 i;go_enter func143,ntmps143;go_wp2_with(go_at_call 186;refine(K.o _).mono ?_;rintro e w1 ⟨rfl,g⟩;obtain⟨⟨k0,k1,f0,f1⟩,⟨e0,e1,e2,e3,e4⟩,k,l⟩:=j.o _ g;obtain⟨u0,u1⟩:=k m n;clear k;have M:=zH l;have J:=zH (zT s.o g);have N:=g.size;rw[I.o]at N;clear g l)
 go_region_held3(λw'=>(w'.cell? (ad w.heap.size 0)=some (zi p)∧w'.cell? (ad w.heap.size 1)=some (zi q))∧(w'.cell? (ad (w.heap.size+1) 0)=some (zi a1)∧w'.cell? (ad (w.heap.size+1) 1)=some (zi a2))∧(w'.cell? (ad (w.heap.size+1+1) 0)=some (zi b1)∧w'.cell? (ad (w.heap.size+1+1) 1)=some (zi b2)))
  ((refine M.o _ ?_;repeat(first|(with_reducible exact zJ)|(with_reducible refine Below.drew ?_)|(with_reducible refine Below.setCell ?_ zP _))))
  ((first
   | (go_at_call 188;go_must((first|(with_reducible refine(t.o _).mono ?_)|(with_reducible refine(z.o _).mono ?_)|(with_reducible refine(B.o _).mono ?_)|(with_reducible refine(C.o _).mono ?_));rintro e w1 ⟨rfl,rfl⟩))
   | (go_at_call 187;go_must((first|(with_reducible refine(D.o _).mono ?_)|(with_reducible refine(E.o _).mono ?_));rintro e w1 ⟨rfl,rfl⟩))))
 all_goals
  go_wp2_with fail
  refine bodyPost_ret (v:=.agg #[zi m,zi n]) (by simp[results,results143,go_sem,u0,u1]) rfl ⟨by rw[F.o],?_⟩
  repeat(first|(with_reducible exact J.o)|(with_reducible exact zJ)|(with_reducible refine Ai ?_ _)|(with_reducible refine Below.drew ?_)|(with_reducible refine Below.alo ?_ _)|(with_reducible refine Below.setCell ?_ (by dsimp only;omega) _))
theorem yF(x1:Blk w g T #[a,b])(x2:Blk w h U #[c,d])(x3:Blk w k V #[e,f])(i:Bw w w'):(zL w' g 0 a∧zL w' g 1 b)∧(zL w' h 0 c∧zL w' h 1 d)∧(zL w' k 0 e∧zL w' k 1 f):=⟨Lj x1 i,Lj x2 i,Lj x3 i⟩
theorem oY(r a b:Pt)(w:World):CP 146 #[.agg #[zi r.1,zi r.2],.agg #[zi a.1,zi a.2],.agg #[zi b.1,zi b.2]] w (zR (.bool (decide (DJ r a=DJ r b))) w):=by
 have i:=zH (λW=>RV r a W);have j:=zH (λW=>RV r b W);obtain⟨x,m⟩:=zG (DJ r a);obtain⟨y,n⟩:=zG (DJ r b);rw[m]at i⊢
 rw[n]at j⊢
 clear m n;have v:=λW=>CL x y W
 generalize decide (x=y)=o at *
 obtain⟨W0,f⟩:=zG (((w.alloc (.cells #[zi r.1,zi r.2] 31)).alloc (.cells #[zi a.1,zi a.2] 56)).alloc (.cells #[zi b.1,zi b.2] 56));have X1:Blk W0 w.heap.size 31 #[zi r.1,zi r.2]:=by rw[<-f];exact((Blk.new _ _ _).alloc _).alloc _
 have X2:Blk W0 (w.heap.size+1) 56 #[zi a.1,zi a.2]:=by rw[<-f];exact(Blk.new' _ _ _ zP).alloc _
 have X3:Blk W0 (w.heap.size+1+1) 56 #[zi b.1,zi b.2]:=by rw[<-f];exact Blk.new' _ _ _ zP
 have k:Bw w W0:=by rw[<-f];exact Below.alo (Below.alo (zA _) _) _
 have p:=zH (λW (t:Bw W0 W)=>yF X1 X2 X3 t);have g:=Below.refl W0.heap.size W0;have l:=zH k;rw[<-f]at p l g;clear f X1 X2 X3 k;go_enter func146,ntmps146
 go_wp2_with fail
 go_region_held3(λw'=>(w'.cell? (ad w.heap.size 0)=some (zi r.1)∧w'.cell? (ad w.heap.size 1)=some (zi r.2))∧(w'.cell? (ad (w.heap.size+1) 0)=some (zi a.1)∧w'.cell? (ad (w.heap.size+1) 1)=some (zi a.2))∧(w'.cell? (ad (w.heap.size+1+1) 0)=some (zi b.1)∧w'.cell? (ad (w.heap.size+1+1) 1)=some (zi b.2)))
  ((refine p.o _ ?_;repeat(first|(with_reducible exact zJ)|(with_reducible exact g)|(with_reducible refine Below.drew ?_))))
  ((go_at_call 199;go_must((first|(with_reducible refine(i.o _).mono ?_)|(with_reducible refine(j.o _).mono ?_));rintro e w1 ⟨rfl,q⟩;replace g:=Ag g q;clear q)))
 all_goals
  have s:=zH (zT l.o g);clear g
  go_wp2_with fail
  go_ret;exact⟨rfl,by repeat(first|(with_reducible exact s.o)|(with_reducible exact zJ)|(with_reducible refine Ai ?_ _)|(with_reducible refine Below.drew ?_)|(with_reducible refine Below.alo ?_ _)|(with_reducible refine Below.setCell ?_ (by dsimp only;omega) _))⟩
theorem RW(A:oA)(n c:Nat)(l:lP)(w:World)(f:Ab 2 Ad w A n l)(s:n<=c)(t:n<=1000000) :
  CP 39 #[.slice A n c] w (zR (zi (AQ l)) w):=by
 have B:=zH f;have k:=zH (FJ A n c l w f s t);obtain⟨E,g⟩:=zG (An l);rw[g]at k;by_cases i:E=0
 ·subst i;obtain⟨k1,k2,k3,k4⟩:=DN g;rw[f.len]at k1 k2;have q:∀p∈l,inG p:=λp v=>DZ.1 (by rw[List.any_eq_false]at k3;simpa using k3 p v)
  have x:=zH (λW (y:Bw w W)=>Un A n c l W (f.on Aa y) zO zO q);have m:Hid (AQ l=Kk l):=by rw[Hid,AQ,g];simp
  clear f g k1 k2 k3 k4 q;go_enter func39,ntmps39
  go_wp2_with(first
   | (go_at_call 55;refine k.o.mono ?_;rintro e w1 ⟨rfl,a⟩;have b:=zH a;clear a)
   | (go_at_call 65;refine(x.o _ b.o).mono ?_;rintro e w2 ⟨rfl,j⟩;have r:=zH (Ag b.o j);clear j))
  go_ret;exact⟨by rw[m.o];rfl,r.o⟩
 have z:(E != 0)=true:=by simpa using i
 have m:Hid (AQ l=0):=by rw[Hid,AQ,g,if_pos i]
 clear f g i;go_enter func39,ntmps39;go_wp2_with(go_at_call 55;refine k.o.mono ?_;rintro e w1 ⟨rfl,a⟩;have b:=zH a;clear a)
 go_ret;exact⟨by rw[m.o];rfl,b.o⟩
theorem RX{o1 o2 o3:Nat}{b0 b1 d0 d1:Value}(a:g<w.heap.size)(h:(zL w g o1 a0∧zL w g (o1+1) a1)∧(zL w g o2 b0∧zL w g (o2+1) b1)∧(zL w g o3 d0∧zL w g (o3+1) d1))(b:Bw w w') :
  (zL w' g o1 a0∧zL w' g (o1+1) a1)∧(zL w' g o2 b0∧zL w' g (o2+1) b1)∧(zL w' g o3 d0∧zL w' g (o3+1) d1):=
 ⟨⟨(b.cell (p:=ad g o1) a).trans h.1.1,(b.cell (p:=ad g (o1+1)) a).trans h.1.2⟩,⟨(b.cell (p:=ad g o2) a).trans h.2.1.1,(b.cell (p:=ad g (o2+1)) a).trans h.2.1.2⟩,(b.cell (p:=ad g o3) a).trans h.2.2.1,(b.cell (p:=ad g (o3+1)) a).trans h.2.2.2⟩
theorem Dl(e:l.length=n)(f:k%n=m)(a:l[m]?=some p):vtx l k=p:=by
 have b:m<l.length:=(zq1.1 a).1;have:=Ew (p:=l) (i:=m) b;rw[a]at this;rw[<-EZ (p:=l) k,e,f];exact(zs6 this).symm
theorem oZ(A:oA)(n c i:Nat)(l:lP)(w:World)(g:Ab 2 Ad w A n l)(hi:i<n)(J:n<=1000)(t:∀p∈l,inG p) :
  CP 129 #[.slice A n c,zi (i:Int)] w (zR (zi (Jh l i)) w):=by
 obtain⟨m1,j⟩:=zG ((i+n-1)%n);obtain⟨m2,k⟩:=zG ((i+1)%n);have l1:m1<n:=by rw[<-j];exact Nat.mod_lt _ zO
 have l2:m2<n:=by rw[<-k];exact Nat.mod_lt _ zO
 obtain⟨b,f,p,rfl,E,v,c0,c1⟩:=Ap g l1;obtain⟨b2,B,q,a,_,C,c2,c3⟩:=Ap g hi;injection a with a
 injection a with e1 e2
 subst e1;subst e2;obtain⟨b2,B,r,a,_,D,c4,c5⟩:=Ap g l2;injection a with a
 injection a with e1 e2
 subst e1;subst e2;have G:=λw'=>zH (RX (w':=w') E ⟨⟨c0,c1⟩,⟨c2,c3⟩,c4,c5⟩)
 have H:=zH (λW=>IP p q r W (t p (zq2 v)) (t q (zq2 C)) (t r (zq2 D)))
 have I:Hid (Jh l i=Ao p q r):=by
  rw[Hid,Jh,Dl g.len (by rw[g.len];exact j) v,Dl g.len (Nat.mod_eq_of_lt hi) C,Dl g.len k D]
 have s:=Below.refl w.heap.size w;obtain⟨i1,i2⟩:=zI (k:=i) (n:=n) (by omega);have i3:IntKind.i64.wrap ((i:Int)+(n:Int))=((i+n:Nat):Int):=by rw[zs5 _ zO];omega
 have i4:IntKind.i64.wrap (((i+n:Nat):Int)-1)=((i+n-1:Nat):Int):=by rw[zs5 _ zO];omega
 have i5:IntKind.i64.wrap ((i:Int)+1)=((i+1:Nat):Int):=by rw[zs5 _ zO];omega
 have i6:(((i+n-1:Nat):Int)).tmod (n:Int)=(m1:Int):=by rw[<-j];rfl
 have i7:(((i+1:Nat):Int)).tmod (n:Int)=(m2:Int):=by rw[<-k];rfl
 have i8:¬(n:Int)=0:=zO;have i8b:¬n=0:=zO;obtain⟨i9,i10⟩:=zI (k:=m1) (n:=n) (by omega);obtain⟨i11,i12⟩:=zI (k:=m2) (n:=n) (by omega);clear j k g v C D c0 c1 c2 c3 c4 c5;generalize(i+n:Nat)=x at *
 generalize(x-1:Nat)=y at *
 generalize(i+1:Nat)=z at *
 go_enter func129,ntmps129
 go_wp2_with fail
 go_region_held3(λw'=>(w'.cell? (ad b (f+m1*2))=some (zi p.1)∧w'.cell? (ad b (f+m1*2+1))=some (zi p.2))∧(w'.cell? (ad b (f+i*2))=some (zi q.1)∧w'.cell? (ad b (f+i*2+1))=some (zi q.2))∧(w'.cell? (ad b (f+m2*2))=some (zi r.1)∧w'.cell? (ad b (f+m2*2+1))=some (zi r.2)))
  ((refine(G _).out ?_;repeat(first|(with_reducible exact zJ)|(with_reducible exact s)|(with_reducible refine Below.drew ?_))))
  ((go_at_call 173;go_must((with_reducible refine(H.o _).mono ?_);rintro e w1 ⟨rfl,F⟩;replace s:=Ag s F;clear F)))
 all_goals
  go_wp2_with fail
  go_ret;exact⟨by rw[I.o];rfl,s⟩
end Go.Proofs.YteafekbddckemaaGreatDoor
