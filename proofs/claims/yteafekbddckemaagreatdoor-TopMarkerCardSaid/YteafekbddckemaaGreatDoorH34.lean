/- Parts of the proof. -/
import Derived.Test.YteafekbddckemaaGreatDoorH33
set_option maxRecDepth 100000
set_option maxHeartbeats 40000000
namespace Go.Proofs.YteafekbddckemaaGreatDoor
open Tryz Go.RowKit
open Go.Lib hiding intOf
variable{A:oA}{W:World}{a c i j k n r x:Nat}{e:TypeId}{l:List As}{p:Pt}{zs:List Int}
section
variable{p:lP}
theorem yN(j:Nat):vtx p (j%p.length)=vtx p j:=by rw[vtx,vtx,Nat.mod_mod]
theorem Vo(a:i<j)(b:j<p.length)(h:vtx p i=vtx p j):BZ p=false:=by
 refine JL (TC b) ?_;rw[<-h];refine zq2 (i:=i) ?_;rw[zr8,if_pos a];exact TC zO
theorem wH(hi:i<p.length)(a:2<=p.length):(i+1)%p.length≠i:=by
 by_cases h:i+1<p.length
 ·rw[Nat.mod_eq_of_lt h];omega
 rw[show i+1=p.length by omega,Nat.mod_self];omega
theorem Vp(hi:i<p.length)(f:3<=p.length)(h:vtx p i=vtx p (i+1)):BZ p=false:=by
 rw[<-yN (i+1)]at h;have b:=wH hi zO;have e:(i+1)%p.length<p.length:=Nat.mod_lt _ zO;rcases Nat.lt_or_gt_of_ne b with a|a
 ·exact Vo a hi h.symm
 exact Vo a e h
end
theorem jN{b:Nat}(g:a*a<=n)(e:n<(a+1)*(a+1))(i:b*b<=n)(f:n<(b+1)*(b+1)):a=b:=by
 rcases Nat.lt_trichotomy a b with h|h|h
 ·have:=Nat.mul_self_le_mul_self (show a+1<=b by omega);omega
 ·exact h
 have:=Nat.mul_self_le_mul_self (show b+1<=a by omega);omega
theorem Vq(a:1<=x):n<((x+n/x)/2+1)*((x+n/x)/2+1):=by
 have b:n<x*(n/x+1):=Nat.lt_mul_div_succ n a;obtain⟨q,e⟩:=zG (n/x);rw[e]at b⊢
 obtain⟨y,f⟩:=zG ((x+q)/2+1);rw[f];have g:x+(q+1)<=2*y:=zO;have k:(x+(q+1))*(x+(q+1))<=(2*y)*(2*y):=Nat.mul_self_le_mul_self g
 have l:4*(x*(q+1))<=(x+(q+1))*(x+(q+1)):=by
  obtain⟨r,i⟩:=zG (q+1);rw[i];rcases Nat.le_total x r with h|h
  ·obtain⟨d,rfl⟩:∃d,r=x+d:=⟨r-x,by omega⟩;simp only[Nat.mul_add,Nat.add_mul];have:=Nat.mul_comm x d;have j:=zs3 (d*d);omega
  obtain⟨d,rfl⟩:∃d,x=r+d:=⟨x-r,by omega⟩;simp only[Nat.mul_add,Nat.add_mul];have:=Nat.mul_comm r d;have j:=zs3 (d*d);omega
 have m:(2*y)*(2*y)=4*(y*y):=by
  rw[Nat.mul_mul_mul_comm]
 omega
theorem aE(e:2<=n)(x:Nat):1<=x->n<(x+1)*(x+1)->Ei n x*Ei n x<=n∧n<(Ei n x+1)*(Ei n x+1):=by
 induction x using Nat.strongRecOn with
 | _ x ih=>
  intro a h;rw[Ei];split
  ·rename_i b;exact ih _ b (Py e a) (Vq a)
  rename_i g;refine⟨?_,h⟩;have f:x<=n/x:=zO;have i:x*(n/x)<=n:=Nat.mul_div_le n x;have j:x*x<=x*(n/x):=zs4 x f;omega
theorem Vr:∀n:Nat,n<2^Bn n
 | 0=>by rw[Bn];decide
 | n+1=>by
  rw[Bn,Nat.pow_succ];have:=Vr ((n+1)/2);omega
decreasing_by omega
theorem Mk(n:Nat):CU n*CU n<=n∧n<(CU n+1)*(CU n+1):=by
 unfold CU;split
 ·rename_i h;have:n=0∨n=1:=zO;rcases this with rfl|rfl <;> decide
 rename_i h;refine aE zO _ Nat.one_le_two_pow ?_;have e:=Vr n;obtain⟨r,a⟩:=zG ((Bn n+1)/2);rw[a];have b:2^Bn n<=2^(r+r):=Nat.pow_le_pow_right zO zO;rw[Nat.pow_add]at b;have f:=Nat.mul_self_le_mul_self (show 2^r<=2^r+1 by omega);omega
theorem qU(b:a*a<=n)(e:n<(a+1)*(a+1)):CU n=a:=jN (Mk n).1 (Mk n).2 b e
theorem Sx(a b:Int)(w:World)(k:0<=a)(i:a<=1000000000000000000)(l:1<=b)(j:b<=1000000000000000000) :
  CP 178 #[zi a,zi b] w λe w'=>e=.returned (zi (Bg a b))∧w'=w:=by
 have f:Bg a b=(2*a+b)/(2*b):=by unfold Bg;rw[if_neg zO]
 have g:=zH f;have i1:¬a<0:=zO;have i2:(0:Int)<=2*a+b:=zO;clear f;go_enter func178,ntmps178;go_wp2;go_ret;exact⟨by show Ending.returned (zi ((2*a+b)/(2*b)))=_;rw[g.o],rfl⟩
theorem Qv(a b:Int)(w:World)(p : -1000000000000000000<=a)(g:a<=1000000000000000000)(i:1<=b)(f:b<=1000000000000000000) :
  CP 178 #[zi a,zi b] w λe w'=>e=.returned (zi (Bg a b))∧w'=w:=by
 by_cases h:0<=a
 ·exact Sx a b w h g i f
 have j:=zH (Sx (-a) b w zO zO i f);have k : -Bg (-a) b=Bg a b:=by unfold Bg;rw[if_neg zO,if_pos zO]
 have l:0<=Bg (-a) b∧Bg (-a) b<=4000000000000000000:=by
  unfold Bg;rw[if_neg zO];refine⟨Int.ediv_nonneg zO zO,Int.le_trans (Int.ediv_le_self _ zO) zO⟩
 have m:=zH k;obtain⟨z,n⟩:=zG (Bg (-a) b);rw[n]at m j l;have i1:a<0:=zO;clear k h n;go_enter func178,ntmps178;go_wp2_with(go_at_call 178;go_must((refine j.o.mono ?_);rintro e w1 ⟨rfl,rfl⟩))
 go_ret;exact⟨by show Ending.returned (zi (-z))=_;rw[m.o],rfl⟩
theorem jO(h:FloatKind.f64.format.sqrt x=some r)(w:World):(callFunc 262 #[.float .f64 x]).run prog w=.ok (.value (.float .f64 r)) w:=by
 rw[run_callFunc_extern func262 zk zk zk (e:=Extern.MathSqrt.sqrt) zk]
 change ((match FloatKind.f64.format.sqrt x with
  | some r=>(pure (.float .f64 r):Sem Value)
  | none=>do pure (.float .f64 (<-choose (.nanBits .f64 x x)))).run prog w).andThen _=_
 rw[h];rfl
theorem jP(h:FloatKind.f64.format.sqrt x=some r)(w:World) :
  CP 220 #[.float .f64 x] w λe w'=>e=.returned (.float .f64 r)∧w'=w:=by
 have hd:=jO h w;go_enter func220,ntmps220;go_wp2;go_ret;exact⟨rfl,rfl⟩
theorem jQ(n:Nat)(w:World)(x:n<1125899906842624) :
  CP 177 #[zi (n:Int)] w λe w'=>e=.returned (zi (CU n:Int))∧w'=w:=by
 obtain⟨r,z,g,i,y⟩:=oW x;have j:=zH (λW=>jP g W);clear g;have B:=run_convert_float_int (P:=prog) (w:=w) 318 3 .f64 .i64 r (z:Int) (by rw[underlying318];rfl) underlying3 i;obtain⟨R,f⟩:=zG (CU n);have C:=zH f;rw[f];clear f;go_enter func177,ntmps177;go_wp2_with(go_at_call 220;go_must((refine(j.o _).mono ?_);rintro e w1 ⟨rfl,l⟩;subst l))
 clear B i j
 go_loopw[3,8,9,10,11,12,13,14] (λs _ _ _ _ _ _ _ wr=>∃k:Nat,k<=67108864∧s=zi (k:Int)∧wr=w1) (λs _ _ _ _ _ _ _ _=>(intOf s).toNat)
 case atStart=>exact⟨z,y,rfl,rfl⟩
 case round=>
  obtain⟨k,m,rfl,rfl⟩:=hrel;have I:(k:Int)*(k:Int)<=4503599761588224:=by have h:=Nat.mul_le_mul m m;have e:=Int.natCast_mul k k;omega
  have D:0<=(k:Int)*(k:Int):=by have e:=Int.natCast_mul k k;omega
  have J:IntKind.i64.wrap ((k:Int)*(k:Int))=(k:Int)*(k:Int):=zs5 _ zO;by_cases b:n<k*k
  ·have i1:(n:Int)<(k:Int)*(k:Int):=by exact_mod_cast b
   have K:1<=k:=by
    rcases Nat.eq_zero_or_pos k with h|h
    ·subst h;simp at b
    exact h
   go_wp2_with fail
   go_roundw
   case rel=>exact⟨k-1,by omega,by go_num,trivial⟩
   case measure=>exact zM
  have i1:¬(n:Int)<(k:Int)*(k:Int):=by exact_mod_cast b
  have p:k<=33554432:=by
   rcases Nat.lt_or_ge 33554432 k with h|h
   ·have:=Nat.mul_le_mul h h;omega
   exact h
  have E:=zH b;clear b
  go_wp2_with fail
  go_loopw[3,15,16,17,18,19,20,21,22,23] (λs _ _ _ _ _ _ _ _ _ wq=>∃k:Nat,k<=33554432∧Hid (¬n<k*k)∧s=zi (k:Int)∧wq=wr) (λs _ _ _ _ _ _ _ _ _ _=>40000000-(intOf s).toNat)
  case atStart=>exact⟨k,p,E,rfl,rfl⟩
  case round=>
   obtain⟨k,L,q,rfl,rfl⟩:=hrel;have M:((k:Int)+1)*((k:Int)+1)<=1125899973951489:=Int.le_trans (Int.mul_le_mul (show(k:Int)+1<=33554433 by omega) (show(k:Int)+1<=33554433 by omega) zO zO) zD;have F:0<=((k:Int)+1)*((k:Int)+1):=Int.mul_nonneg zO zO;have N:IntKind.i64.wrap (((k:Int)+1)*((k:Int)+1))=((k:Int)+1)*((k:Int)+1):=zs5 _ zO;by_cases b:(k+1)*(k+1)<=n
   ·have i2:((k:Int)+1)*((k:Int)+1)<=(n:Int):=by exact_mod_cast b
    have t:k+1<=33554432:=by
     rcases Nat.lt_or_ge 33554432 (k+1)with h|h
     ·have:=Nat.mul_le_mul h h;omega
     exact h
    have G:=zH (show ¬n<(k+1)*(k+1)by omega);clear b
    go_wp2_with fail
    go_roundw
    case rel=>exact⟨k+1,t,G,by go_num,trivial⟩
    case measure=>exact zM
   have i2:¬((k:Int)+1)*((k:Int)+1)<=(n:Int):=by exact_mod_cast b
   have v:=qU (n:=n) (a:=k) (zV q.o) zO;have H:=zH (v.symm.trans C.o);clear b v
   go_wp2_with fail
   go_ret;exact⟨by show Ending.returned (zi (k:Int))=_;rw[H.o],rfl⟩
theorem Sy(a b:Int)(w:World)(k:0<=a)(i:a<=1000000000000000000)(l:1<=b)(j:b<=1000000000000000000) :
  CP 169 #[zi a,zi b] w λe w'=>e=.returned (zi (Bg a b))∧w'=w:=by
 have f:Bg a b=(2*a+b)/(2*b):=by unfold Bg;rw[if_neg zO]
 have g:=zH f;have i1:¬a<0:=zO;have i2:(0:Int)<=2*a+b:=zO;clear f;go_enter func169,ntmps169;go_wp2;go_ret;exact⟨by show Ending.returned (zi ((2*a+b)/(2*b)))=_;rw[g.o],rfl⟩
theorem Qw(a b:Int)(w:World)(p : -1000000000000000000<=a)(g:a<=1000000000000000000)(i:1<=b)(f:b<=1000000000000000000) :
  CP 169 #[zi a,zi b] w λe w'=>e=.returned (zi (Bg a b))∧w'=w:=by
 by_cases h:0<=a
 ·exact Sy a b w h g i f
 have j:=zH (Sy (-a) b w zO zO i f);have k : -Bg (-a) b=Bg a b:=by unfold Bg;rw[if_neg zO,if_pos zO]
 have l:0<=Bg (-a) b∧Bg (-a) b<=4000000000000000000:=by
  unfold Bg;rw[if_neg zO];refine⟨Int.ediv_nonneg zO zO,Int.le_trans (Int.ediv_le_self _ zO) zO⟩
 have m:=zH k;obtain⟨z,n⟩:=zG (Bg (-a) b);rw[n]at m j l;have i1:a<0:=zO;clear k h n;go_enter func169,ntmps169;go_wp2_with(go_at_call 169;go_must((refine j.o.mono ?_);rintro e w1 ⟨rfl,rfl⟩))
 go_ret;exact⟨by show Ending.returned (zi (-z))=_;rw[m.o],rfl⟩
theorem qV{l:lP}{a b:Pt}(e:l.length=n)(j:k<n)(f:l[k]?=some p):(EM l a b)[k]?=some (p.1+Bg (((n:Int)-1-k)*a.1+k*b.1) ((n:Int)-1),p.2+Bg (((n:Int)-1-k)*a.2+k*b.2) ((n:Int)-1)):=by
 have g:vtx l k=p:=by
  have:=Ew (p:=l) (i:=k) zO;rw[f]at this;exact(zs6 this).symm
 unfold EM;rw[zr5,zt4 zO];simp only[zt6,g,e]
theorem Sz(l:lP)(a b:Pt):(EM l a b).length=l.length:=by unfold EM;simp
theorem Ml{x n:Int}(j : -1000000000000<=x)(k:x<=1000000000000)(l:1<=n) : -3000000000000<=Bg x n∧Bg x n<=3000000000000:=by
 unfold Bg;split
 ·have f:=Int.ediv_nonneg (a:=2 * -x+n) (b:=2*n) zO zO
  have g:(2 * -x+n)/(2*n)<=-x+1:=by
   have:=Int.ediv_le_of_le_mul (a:=2 * -x+n) (b:=-x+1) (c:=2*n) zO (by
    have:=Int.mul_le_mul_of_nonneg_left (a:=-x) (b:=0) (c:=n);have i:0<=(-x)*(n-1):=Int.mul_nonneg zO zO
    have e:(-x+1)*(2*n)=2*((-x)*(n-1))+2 * -x+2*n:=by
     rw[Int.mul_sub,Int.add_mul];have : -x*(2*n)=2*(-x*n):=by rw[<-Int.mul_assoc,Int.mul_comm (-x) 2,Int.mul_assoc]
     omega
    omega)
   exact this
  omega
 have f:=Int.ediv_nonneg (a:=2*x+n) (b:=2*n) zO zO
 have g:(2*x+n)/(2*n)<=x+1:=by
  have:=Int.ediv_le_of_le_mul (a:=2*x+n) (b:=x+1) (c:=2*n) zO (by
   have i:0<=x*(n-1):=Int.mul_nonneg zO zO
   have e:(x+1)*(2*n)=2*(x*(n-1))+2*x+2*n:=by
    rw[Int.mul_sub,Int.add_mul];have:x*(2*n)=2*(x*n):=by rw[<-Int.mul_assoc,Int.mul_comm x 2,Int.mul_assoc]
    omega
   omega)
  exact this
 omega
theorem GR(a b:Int)(A B:Nat)(e : -(A:Int)<=a∧a<=A)(f : -(B:Int)<=b∧b<=B) : -((A*B:Nat):Int)<=a*b∧a*b<=((A*B:Nat):Int):=by
 have h:=Nat.mul_le_mul (show a.natAbs<=A by omega) (show b.natAbs<=B by omega);rw[<-Int.natAbs_mul]at h;omega
theorem jR(A:oA)(n c:Nat)(l:lP)(a b:Pt)(w:World)(H:Ab 2 Ad w A n l)(h2:2<=n)(hn:n<=1000)(O:∀p∈l,inG p)(ba : -100000000<=a.1∧a.1<=100000000∧-100000000<=a.2∧a.2<=100000000)(bb : -100000000<=b.1∧b.1<=100000000∧-100000000<=b.2∧b.2<=100000000) :
  CP 123 #[.slice A n c,.agg #[zi a.1,zi a.2],.agg #[zi b.1,zi b.2]] w (YZ (EM l a b) n w):=by
 have Y:=zH H;have P:=zH H.len;have Z:=zH O;have Q:=λW=>E7 n zO W
 have B:Hid (Bw w (zw (zw w #[zi a.1,zi a.2] 56) #[zi b.1,zi b.2] 56)):=(zA _).alloc zP _;have C:=zH ((Blk.new w 56 #[zi a.1,zi a.2]).alloc (.cells #[zi b.1,zi b.2] 56));have D:=zH (Blk.new' (zw w #[zi a.1,zi a.2] 56) 56 #[zi b.1,zi b.2] (g:=w.heap.size+1) zP);have R:=zH (Kq (zw (zw w #[zi a.1,zi a.2] 56) #[zi b.1,zi b.2] 56) n (EM l a b));have I:=zH (C.o.alloc (.cells (madeCells #[zi 0,zi 0] (n*2)) 56));have J:=zH (D.o.alloc (.cells (madeCells #[zi 0,zi 0] (n*2)) 56));have K:=zH (B.o.alloc zQ (.cells (madeCells #[zi 0,zi 0] (n*2)) 56));clear H O C D B;go_enter func123,ntmps123
 go_wp2_with fail
 clear Q
 go_loopw[9,10,19] (λ_ _ i wr=>∃k:Nat,k<=n∧i=zi (k:Int)∧F5 wr (w.heap.size+1+1) n (EM l a b) k∧Blk wr w.heap.size 56 #[zi a.1,zi a.2]∧Blk wr (w.heap.size+1) 56 #[zi b.1,zi b.2]∧Bw w wr) (λ_ _ i _=>n-(intOf i).toNat)
 case atStart=>exact⟨0,zs3 _,rfl,by simpa using R.o,I.o,J.o,K.o⟩
 case round=>
  obtain⟨k,hk,rfl,f,j,m,q⟩:=hrel;have HB:=zH q;have a2:=zH f;have HY:=zH (zu2 j m);by_cases r:k<n
  ·obtain⟨ab,aoff,p,rfl,a3,L,c0,c1⟩:=Ap (Y.o.on Aa q) r;obtain⟨q1,q2,q3,q4⟩:=Z.o p (zq2 L);have t:=qV (a:=a) (b:=b) P.o r L;have M:=CW p wr;obtain⟨z0,z1,d0,d1,d2,d3,a4⟩:=LQ f r;have a5:=j.lt;have a0:=m.lt;have a1:=f.choose_spec.1.lt;have m1:=GR ((n:Int)-1-k) a.1 1000 100000000 zO zO;have m2:=GR (k:Int) b.1 1000 100000000 zO zO;have m3:=GR ((n:Int)-1-k) a.2 1000 100000000 zO zO;have m4:=GR (k:Int) b.2 1000 100000000 zO zO;have r1:=Ml (x:=((n:Int)-1-k)*a.1+k*b.1) (n:=(n:Int)-1) zO zO zO;have r2:=Ml (x:=((n:Int)-1-k)*a.2+k*b.2) (n:=(n:Int)-1) zO zO zO;have E:=zH (λW=>Qw (((n:Int)-1-k)*a.1+k*b.1) ((n:Int)-1) W zO zO zO zO);have F:=zH (λW=>Qw (((n:Int)-1-k)*a.2+k*b.2) ((n:Int)-1) W zO zO zO zO);obtain⟨y1,v⟩:=zG (Bg (((n:Int)-1-k)*a.1+k*b.1) ((n:Int)-1));obtain⟨y2,z⟩:=zG (Bg (((n:Int)-1-k)*a.2+k*b.2) ((n:Int)-1));rw[v]at r1 E;rw[z]at r2 F;rw[v,z]at t;obtain⟨s1,S⟩:=zG (p.1+y1);obtain⟨s2,T⟩:=zG (p.2+y2);rw[S,T]at t
   have HK:=λw'=>zH (λ(N:Bw (zw wr #[zi p.1,zi p.2] 56) w')=>zu2 (Ci ((Blk.new wr 56 #[zi p.1,zi p.2]).below N) zJ) (zu2 (Ci (a:=a) ((j.alloc (.cells #[zi p.1,zi p.2] 56)).below N) zJ) (Ci (a:=b) ((m.alloc (.cells #[zi p.1,zi p.2] 56)).below N) zJ)))
   have U:Hid (((zw ((wr.setCell (ad (w.heap.size+1+1) (k*2)) (zi s1)).setCell (ad (w.heap.size+1+1) (k*2+1)) (zi s2)) #[zi p.1,zi p.2] 56).cell? (ad wr.heap.size 0)=some (zi p.1)∧(zw ((wr.setCell (ad (w.heap.size+1+1) (k*2)) (zi s1)).setCell (ad (w.heap.size+1+1) (k*2+1)) (zi s2)) #[zi p.1,zi p.2] 56).cell? (ad wr.heap.size 1)=some (zi p.2))∧((zw ((wr.setCell (ad (w.heap.size+1+1) (k*2)) (zi s1)).setCell (ad (w.heap.size+1+1) (k*2+1)) (zi s2)) #[zi p.1,zi p.2] 56).cell? (ad w.heap.size 0)=some (zi a.1)∧(zw ((wr.setCell (ad (w.heap.size+1+1) (k*2)) (zi s1)).setCell (ad (w.heap.size+1+1) (k*2+1)) (zi s2)) #[zi p.1,zi p.2] 56).cell? (ad w.heap.size 1)=some (zi a.2))∧((zw ((wr.setCell (ad (w.heap.size+1+1) (k*2)) (zi s1)).setCell (ad (w.heap.size+1+1) (k*2+1)) (zi s2)) #[zi p.1,zi p.2] 56).cell? (ad (w.heap.size+1) 0)=some (zi b.1)∧(zw ((wr.setCell (ad (w.heap.size+1+1) (k*2)) (zi s1)).setCell (ad (w.heap.size+1+1) (k*2+1)) (zi s2)) #[zi p.1,zi p.2] 56).cell? (ad (w.heap.size+1) 1)=some (zi b.2))):=
    ⟨Ci (Blk.new' ((wr.setCell (ad (w.heap.size+1+1) (k*2)) (zi s1)).setCell (ad (w.heap.size+1+1) (k*2+1)) (zi s2)) _ _ zP) zJ,Ci (a:=a) (((j.far (by show _≠w.heap.size+1+1;omega) _).far (by show _≠w.heap.size+1+1;omega) _).alloc _) zJ,Ci (a:=b) (((m.far (by show _≠w.heap.size+1+1;omega) _).far (by show _≠w.heap.size+1+1;omega) _).alloc _) zJ⟩
   have V:=zH ((M4 f t r).below (zA (.cells #[zi p.1,zi p.2] 56)));have G:=zH (zu2 ((((j.far (p:=ad (w.heap.size+1+1) (k*2)) (by show _≠w.heap.size+1+1;omega) (zi s1)).far (p:=ad (w.heap.size+1+1) (k*2+1)) (by show _≠w.heap.size+1+1;omega) (zi s2))).alloc (.cells #[zi p.1,zi p.2] 56)) ((((m.far (p:=ad (w.heap.size+1+1) (k*2)) (by show _≠w.heap.size+1+1;omega) (zi s1)).far (p:=ad (w.heap.size+1+1) (k*2+1)) (by show _≠w.heap.size+1+1;omega) (zi s2))).alloc (.cells #[zi p.1,zi p.2] 56)));have X:Hid (Bw w (zw ((wr.setCell (ad (w.heap.size+1+1) (k*2)) (zi s1)).setCell (ad (w.heap.size+1+1) (k*2+1)) (zi s2)) #[zi p.1,zi p.2] 56)):=(((q.setCell (p:=ad (w.heap.size+1+1) (k*2)) zQ _).setCell (p:=ad (w.heap.size+1+1) (k*2+1)) zQ _).alloc zQ _);obtain⟨i1,i2⟩:=zI (k:=k) (n:=n) (by omega);have i3:IntKind.i64.wrap ((n:Int)-1-(k:Int))=(n:Int)-1-(k:Int):=zs5 _ zO;have v1:IntKind.i64.wrap (((n:Int)-1-k)*a.1)=((n:Int)-1-k)*a.1:=zs5 _ zO;have v2:IntKind.i64.wrap ((k:Int)*b.1)=(k:Int)*b.1:=zs5 _ zO;have v3:IntKind.i64.wrap (((n:Int)-1-k)*a.2)=((n:Int)-1-k)*a.2:=zs5 _ zO;have v4:IntKind.i64.wrap ((k:Int)*b.2)=(k:Int)*b.2:=zs5 _ zO;have v5:IntKind.i64.wrap (((n:Int)-1-k)*a.1+k*b.1)=((n:Int)-1-k)*a.1+k*b.1:=zs5 _ zO
   have v6:IntKind.i64.wrap (((n:Int)-1-k)*a.2+k*b.2)=((n:Int)-1-k)*a.2+k*b.2:=zs5 _ zO;have v7:IntKind.i64.wrap s1=s1:=zs5 _ zO;have v8:IntKind.i64.wrap s2=s2:=zs5 _ zO;clear L j m f q M t v z m1 m2 m3 m4
   go_wp2_with fail
   go_region_held3(λw'=>(w'.cell? (ad wr.heap.size 0)=some (zi p.1)∧w'.cell? (ad wr.heap.size 1)=some (zi p.2))∧(w'.cell? (ad w.heap.size 0)=some (zi a.1)∧w'.cell? (ad w.heap.size 1)=some (zi a.2))∧(w'.cell? (ad (w.heap.size+1) 0)=some (zi b.1)∧w'.cell? (ad (w.heap.size+1) 1)=some (zi b.2)))
    ((first|(exact U.o)|(exact(HK _).out zB)))
    ((first
     | (go_at_call 169;(with_reducible refine(E.o _).mono ?_);rintro e w1 ⟨rfl,rfl⟩)
     | (go_at_call 169;go_must((with_reducible refine(F.o _).mono ?_);rintro e w1 ⟨rfl,rfl⟩))))
   go_wp2_with fail
   go_roundw
   case rel=>exact⟨k+1,by omega,by go_num,V.o,G.o.1,G.o.2,Ai X.o _⟩
   case measure=>exact zM
  obtain rfl:k=n:=zO;have HR:=zH (f.done ((Sz l a b).trans P.o));clear f j m q
  go_wp2_with fail
  go_ret;exact⟨w.heap.size+1+1,rfl,by omega,HR.o,HB.o⟩
theorem SC(A:oA)(n c:Nat)(l:lP)(w:World)(g:Ab 2 Ad w A n l)(i:n<=c)(j:n<=1000000)(k : -4611686018427387904<=AQ l∧AQ l<=4611686018427387904) :
  CP 19 #[.slice A n c] w (zR (zi ((AQ l).natAbs:Int)) w):=by
 have a:=zH (RW A n c l w g i j);obtain⟨x,b⟩:=zG (AQ l);rw[b]at a k;rw[b];have m:max x (-x)=(x.natAbs:Int):=zO;go_enter func19,ntmps19;go_wp2_with(go_at_call 39;go_must((refine a.o.mono ?_);rintro e w1 ⟨rfl,f⟩))
 go_ret;exact⟨rfl,f⟩
def jS(p:Ac):Value:=.agg #[zi p.garment,zi p.use,zi p.copy,.bool p.turn.flip,zi p.turn.quarter,zi p.at_.1,zi p.at_.2]
theorem Vs(p:Ac)(w:World) :
  CP 48 #[jS p] w (zR (.agg #[zi p.garment,zi p.use,zi p.copy]) w):=by
 unfold jS;go_enter func48,ntmps48;go_wp2;refine bodyPost_ret (v:=.agg #[zi p.garment,zi p.use,zi p.copy]) (by simp[results,results48,go_sem]) rfl ⟨rfl,?_⟩;exact(zA _).alloc zP _
theorem WX(A:oA)(n c:Nat)(l:lP)(m:Int)(i:Nat)(w:World)(q:Ab 2 Ad w A n l)(C:0<n)(L:n<=1000)(hi:i<=1000)(M : -1000<=m∧m<=1000)(x:∀p∈l,inG p) :
  CP 122 #[.agg #[.slice A n c,zi m],zi (i:Int)] w (zR (.agg #[zi (m*(vtx l i).1),zi (m*(vtx l i).2)]) w):=by
 have y:=q.len;obtain⟨j,r⟩:=zG (i%n);have lj:j<n:=by rw[<-r];exact Nat.mod_lt _ C
 obtain⟨b,a,p,rfl,f,s,c0,c1⟩:=Ap q lj;have z:vtx l i=p:=Dl y r s;have D:=x p (zq2 s);unfold inG at D;rw[z];have k:Bw w ((w.alloc (.cells #[.slice (sa b a) n c,zi m] 230)).alloc (.cells #[zi 0,zi 0] 56)):=(zA _).alloc zP _;have X0:=(Blk.new w 230 #[.slice (sa b a) n c,zi m]).alloc (.cells #[zi 0,zi 0] 56);have X1:=Blk.new' (w.alloc (.cells #[.slice (sa b a) n c,zi m] 230)) 56 #[zi 0,zi 0] (g:=w.heap.size+1) zP;have d0:=(k.cell (p:=ad b (a+j*2)) f).trans c0;have d1:=(k.cell (p:=ad b (a+j*2+1)) f).trans c1;have m1:=GR m p.1 1000 1048576 zO zO;have m2:=GR m p.2 1000 1048576 zO zO;have w1:IntKind.i64.wrap (m*p.1)=m*p.1:=zs5 _ zO;have w2:IntKind.i64.wrap (m*p.2)=m*p.2:=zs5 _ zO;have i4:((i:Int)).tmod (n:Int)=(j:Int):=by rw[<-r];rfl
 have i5:¬(n:Int)=0:=zO;have i6:(0:Int)<=(j:Int):=zO;have i8:(0:Int)<=(i:Int):=zO;have i9:(i:Int)<=1000:=zO;have i10:(1:Int)<=(n:Int):=zO;have i11:(n:Int)<=1000:=zO;have F:(n:Int)≠0:=zO;have G:¬n=0:=zO;have H:IntKind.i64.wrap (j:Int)=(j:Int):=zs5 _ zO;have i7:(j:Int)<(n:Int):=zO;clear q x s z c0 c1;go_enter func122,ntmps122
 go_wp2_with fail
 generalize(w.alloc (.cells #[.slice (sa b a) n c,zi m] 230)).alloc (.cells #[zi 0,zi 0] 56)=W at *
 have x0:=X0.c (i:=0) (v:=.slice (sa b a) n c) rfl;have x1:=X0.c (i:=1) (v:=zi m) rfl;have y0:=X1.c (i:=0) (v:=zi 0) rfl;have y1:=X1.c (i:=1) (v:=zi 0) rfl;have z0:=X1.frozen 0;have z1:=X1.frozen 1;have E:=X0.lt;have t:=X1.lt;have I:b<W.heap.size:=zs1 f k.size;have B:=zH k;have J:=zH X0;have K:=zH X1;clear k X0 X1
 go_region_held3(λw'=>w'.cell? (ad w.heap.size 0)=some (.slice (sa b a) n c)∧w'.cell? (ad w.heap.size 1)=some (zi m)∧w'.cell? (ad b (a+j*2))=some (zi p.1)∧w'.cell? (ad b (a+j*2+1))=some (zi p.2))
  (go_keep)
  (fail)
 all_goals
  go_wp2_with fail
  refine bodyPost_ret (v:=.agg #[zi (m*p.1),zi (m*p.2)]) (by simp[results,results122,go_sem,y0,y1,t]) rfl ⟨rfl,?_⟩;exact(((B.o.setCell (p:=ad (w.heap.size+1) 0) (zt1 _) _).setCell (p:=ad (w.heap.size+1) 1) (zt1 _) _).alloc (by simpa using B.o.size) _).drew
theorem qX(a:Int):Lib.compareInt a 0=Bb a:=by
 unfold Lib.compareInt Bb;rfl
theorem Hy(A:oA)(n c:Nat)(l:lP)(w:World)(f:Ab 2 Ad w A n l)(g:n<=c)(i:n<=1000000) :
  CP 139 #[.slice A n c] w (zR (zi (Bb (AQ l))) w):=by
 have j:=zH (RW A n c l w f g i);have a:Hid (∀W,CP 107 #[zi (AQ l),zi 0] W λe w'=>e=.returned (zi (Lib.compareInt (AQ l) 0))∧W=w'):=λW=>(Tryz.cmp_Compare_int (AQ l) 0 W).mono λ_ _ h=>⟨h.1,h.2.symm⟩
 rw[qX]at a;go_enter func139,ntmps139
 go_wp2_with(first
  | (go_at_call 39;go_must((refine j.o.mono ?_);rintro e w1 ⟨rfl,b⟩))
  | (go_at_call 107;go_must((refine(a.o _).mono ?_);rintro e w2 ⟨rfl,rfl⟩)))
 go_ret;exact⟨rfl,b⟩
def sW(x:Except Int (List Pt))(w:World)(e:Ending)(w':World):Prop:=Bw w w'∧match x with
 | .ok r=>∃A c,e=.returned (.tuple #[.slice A r.length c,zi 0])∧Ab 2 Ad w' A r.length r∧r.length<=c
 | .error z=>e=.returned (.tuple #[zn,zi z])
def aF(l:List As):Except Int (List Pt):=if Aq l≠0 then .error (Aq l)else .ok (AL l)
theorem Vu(h:Aq l≠0):aF l=.error (Aq l):=if_pos h
theorem Nu(h:Aq l=0):aF l=.ok (AL l):=if_neg (by rw[h];simp)
theorem SE(A:oA)(n c:Nat)(l:List As)(w:World)(f:Ab 2 CQ w A n l)(q:n<=c)(r:IT l) :
  CP 134 #[.slice A n c] w (sW (aF l) w):=by
 have i:=zH (Gm A n c l w f q r);obtain⟨E,b⟩:=zG (Aq l);by_cases g:E=0
 ·rw[Nu (b.trans g)];obtain⟨z1,z2,z3⟩:=Ej (b.trans g);have s:=f.len
  have t:=zH (λW (x:Bw w W)=>M0 A n c l W (f.on Bq x) zO (λe y=>by
   obtain⟨j,z,rfl⟩:=List.getElem_of_mem y;have:=CB (z3 j _ (zq0 z));exact⟨this.2.1,by have:=this.1;omega⟩))
  rw[b,g]at i;clear f;go_enter func134,ntmps134
  go_wp2_with(first
   | (go_at_call 121;go_must((refine i.o.mono ?_);rintro e w1 ⟨rfl,a⟩))
   | (go_at_call 168;go_must((refine(t.o _ a).mono ?_);rintro e w2 ⟨A2,n2,c2,rfl,k,m,p⟩)))
  refine bodyPost_ret (v:=.tuple #[.slice A2 n2 c2,zi 0]) (by simp[results,results134,go_sem]) rfl ?_;obtain rfl:=k.len;exact⟨zT a p,A2,c2,rfl,k,m⟩
 rw[Vu (by rw[b];exact g),b];rw[b]at i;have B:(E == 0)=false:=by simpa using g
 clear f b;go_enter func134,ntmps134;go_wp2_with(go_at_call 121;go_must((refine i.o.mono ?_);rintro e w1 ⟨rfl,a⟩))
 refine bodyPost_ret (v:=.tuple #[zn,zi E]) (by simp[results,results134,go_sem]) rfl ?_;exact⟨a,rfl⟩
theorem WZ(h:W.ownsRow a e 1 (.slice A n c) n (Ar zs)):Sl W W.heap.size A n (Ar zs):=by
 refine⟨by have:=h.1;omega,λk=>?_⟩;rcases h.2 with⟨e1,e2⟩|⟨b,cap,cur,e1,_,f,_,_,_,l⟩
 ·omega
 injection e1 with e1
 subst e1;refine⟨b,0,rfl,(Array.getElem?_eq_some_iff.1 f).1,λj u i=>?_⟩;have:=h.cells (g:=b) rfl _ _ i;rw[Go.WideShapes.add_plain]at this;exact this
def Rl(l:List As)(ws:List Int)(k:Nat):List Int:=(List.range k).flatMap λi=>List.replicate ((l.getD i ⟨ByteArray.empty,[]⟩).line.length-1) (ws.getD i 0)
theorem wJ(l:List As)(ws:List Int)(k:Nat):Rl l ws (k+1)=Rl l ws k++List.replicate ((l.getD k ⟨ByteArray.empty,[]⟩).line.length-1) (ws.getD k 0):=by
 unfold Rl;rw[List.range_succ,zr7];simp
theorem qY(j:Nat)(z:Int)(L:List Int):L++List.replicate (j+1) z=(L++List.replicate j z)++[z]:=by
 rw[List.replicate_succ',List.append_assoc]
def sX(l:List Int)(w:World)(e:Ending)(w':World):Prop:=∃A c,e=.returned (.slice A l.length c)∧Sl w' w'.heap.size A l.length (Ar l)∧l.length<=c∧Bw w w'
theorem Vv(A:oA)(n c:Nat)(B:oA)(m d:Nat)(l:List As)(ws:List Int)(w:World)(F:Ab 2 CQ w A n l)(J:Sl w w.heap.size B m (Ar ws))(hn:n<=16)(hm:n<=m)(K:∀e∈l,2<=e.line.length∧e.line.length<=40) :
  CP 135 #[.slice A n c,.slice B m d] w (sX (CI l ws) w):=by
 have U:=zH F;have L:=zH J;have V:=zH K;have C:CI l ws=Rl l ws n:=by unfold CI Rl;rw[F.len]
 have s:=zH C;clear F J K C;go_enter func135,ntmps135
 go_wp2_with fail
 go_loopw[5,6,7,10,11,12,13,14,15,16,17,18,19,20,21,22,23,24,25,26,27,28,29] (λv _ _ i _ _ _ _ _ _ _ _ _ _ _ _ _ _ _ _ _ _ _ wr=>∃(k:Nat)(zs:List Int),k<=n∧i=zi (k:Int)∧Hid (Rl l ws k=zs∧zs.length<=k*40∧wr.ownsRow w.heap.size 3 1 v zs.length (Ar zs)∧Bw w wr)) (λ_ _ _ i _ _ _ _ _ _ _ _ _ _ _ _ _ _ _ _ _ _ _ _=>n-(intOf i).toNat)
 case atStart=>exact⟨0,[],zs3 _,rfl,⟨rfl,zs3 _,World.ownsRow_nil _ _ _ _,zJ⟩⟩
 case round=>
  obtain⟨k,zs,hk,rfl,a⟩:=hrel;by_cases M:k<n
  ·obtain⟨b,X,x,B1,ln,lc,rfl,Y,G,c0,c1,f,Z⟩:=EO (U.o.on Bq a.o.2.2.2) M;obtain⟨g1,g2⟩:=V.o x (zq2 G);rw[f.len]at g1 g2;have D:k<ws.length:=by have:=L.o.1;simp only[Ar,zq6]at this;omega
   obtain⟨z,H⟩:∃z,ws[k]?=some z:=⟨_,zq0 D⟩;obtain⟨b3,I,rfl,N,r⟩:=L.o.2 zO;have t:=r k (zi z) (by simp[Ar,H]);have O:=zH (λW (h:Bw w W)=>(h.cell (p:=ad b3 (I+k)) N).trans t);have Q:=zH (wJ l ws k);rw[zq3,G,zq3,H,Option.getD_some,Option.getD_some,f.len,a.o.1]at Q;obtain⟨i1,i2⟩:=zI (k:=k) (n:=n) (by omega);have i3:(k:Int)<(m:Int):=zO;have E:Hid (Bw wr (zw wr #[.string x.name,.slice B1 ln lc] 71)):=zA _;have y:=zH (show zs.length<=k*40∧(zw wr #[.string x.name,.slice B1 ln lc] 71).ownsRow w.heap.size 3 1 u5 zs.length (Ar zs)∧Bw w (zw wr #[.string x.name,.slice B1 ln lc] 71)from⟨a.o.2.1,Ah a.o.2.2.1 E.o,a.o.2.2.2.trans (E.o.mono a.o.2.2.2.size)⟩);clear t r f G H D
   go_wp2_with fail
   go_loopw[5,19,20,21,22,23,24,25,26,27,28] (λv i _ _ _ _ _ _ _ _ _ wq=>∃j:Nat,j<=ln-1∧i=zi (j:Int)∧Hid (wq.ownsRow w.heap.size 3 1 v (zs.length+j) (Ar (zs++List.replicate j z))∧Bw w wq)) (λ_ i _ _ _ _ _ _ _ _ _ _=>ln-(intOf i).toNat)
   case atStart=>exact⟨0,zs3 _,rfl,by simpa using y.o.2.1,y.o.2.2⟩
   case round=>
    obtain⟨j,hj,rfl,q⟩:=hrel;obtain⟨A1,C1,rfl⟩:=AX q.o.1;by_cases a0:j<ln-1
    ·have j2:(j:Int)<(ln:Int)-1:=zO;have t:=O.o _ q.o.2;have b3':zs.length+j+1<=maxLen:=by have:=y.o.1;unfold maxLen;omega
     have b4':(zs.length+j+1)*8<=140737488355328:=by have:=y.o.1;omega
     have R:=q.o.2.size;go_wp2_with(at_builtin;refine Bt (P:=prog) (by rfl) _ _ 23 (by rfl) w.heap.size 3 (zi 0) 1 8 underlying23 J2 rfl zD (.slice A1 (zs.length+j) C1) (zs.length+j) (Ar (zs++List.replicate j z)) (by rfl) (Ah q.o.1 (by exact zA _)) ⟨wr.heap.size,0,none⟩ 1 1 [zi z] (by rfl) (by rfl) (QT wr z) (QU z) b3' b4' (by exact zs0 R (J0 _ _)) ?_;intro v7 w7 S T a1)
     go_roundw
     case rel=>
      refine⟨j+1,by omega,by go_num,?_,Ax ((Below.alo q.o.2 _)) T zQ (λg e=>(q.o.1.lt g e).1)⟩;rw[qY];simpa[Ar,Nat.add_assoc]using S
     case measure=>exact zM
    obtain rfl:j=ln-1:=zO;have j2:¬(((ln-1:Nat):Int)<(ln:Int)-1):=zO
    go_wp2_with fail
    go_roundw
    case rel=>
     refine⟨k+1,zs++List.replicate (ln-1) z,by omega,by go_num,Q.o,?_,?_,q.o.2⟩
     ·have:=y.o.1;simp only[zq5,List.length_replicate];omega
     rw[zq5,List.length_replicate];exact q.o.1
    case measure=>exact zM
  obtain rfl:n=k:=zO;obtain⟨A1,C1,rfl⟩:=AX a.o.2.2.1
  go_wp2_with fail
  go_ret;refine⟨A1,C1,?_,?_,?_,a.o.2.2.2⟩
  ·rw[s.o,a.o.1];rfl
  ·rw[s.o,a.o.1];exact WZ a.o.2.2.1
  rw[s.o,a.o.1];exact Rk a.o.2.2.1
end Go.Proofs.YteafekbddckemaaGreatDoor
