/- Parts of the proof. -/
import Derived.Test.YteafekbddckemaaGreatDoorH05
set_option maxRecDepth 100000
set_option maxHeartbeats 40000000
namespace Go.Proofs.YteafekbddckemaaGreatDoor
open Tryz Go.RowKit
open Go.Lib hiding intOf
variable{A:oA}{B M N R U U0 V a b c cy e i k n t x y:Nat}{L X Y l o q r u v:List Nat}{T:Obj}{p:Addr}{rest:List Oper}{w w1 wr:World}
section
variable{B P U V top u2 lowU high v2 lowV q r:Nat}
theorem mV(j:U=(top*B+u2)*P+lowU)(e:V=(high*B+v2)*P+lowV)(i:lowU<P)(a:u2<B)(f:0<high):U/V<=top/high:=by
 rw[Nat.le_div_iff_mul_le f];rcases Nat.lt_or_ge top (U/V*high)with h|h
 ·exfalso;have k:U/V*V<=U:=Nat.div_mul_le_self U V;have b:(top+1)*(B*P)<=U/V*high*(B*P):=Nat.mul_le_mul_right _ h
  have l:U/V*(high*(B*P))<=U/V*V:=zs4 _ (by
   rw[e,Nat.add_mul,Nat.mul_assoc];omega)
  have g:(u2+1)*P<=B*P:=Nat.mul_le_mul_right _ a;rw[Nat.add_mul,Nat.one_mul]at b g;rw[Nat.mul_assoc (U/V)]at b;have m:(top*B+u2)*P=top*(B*P)+u2*P:=by rw[Nat.add_mul,Nat.mul_assoc]
  omega
 exact h
theorem Xm(k:U=(top*B+u2)*P+lowU)(l:V=(high*B+v2)*P+lowV)(j:lowU<P)(b:U<V*B)(f:q*high+r=top)(h:B<=q∨r*B+u2<q*v2):U/V<q:=by
 have a:0<V:=by
  rcases Nat.eq_zero_or_pos V with e|e
  ·rw[e,Nat.zero_mul]at b;omega
  exact e
 rw[Nat.div_lt_iff_lt_mul a];rcases h with h|h
 ·exact zs1 b (by rw[Nat.mul_comm];exact Nat.mul_le_mul_right _ h)
 have g:top*B+u2+1<=q*(high*B+v2):=by
  rw[<-f,Nat.add_mul,Nat.mul_add,Nat.mul_assoc];omega
 have i:(top*B+u2+1)*P<=q*(high*B+v2)*P:=Nat.mul_le_mul_right _ g;rw[Nat.add_mul,Nat.one_mul,Nat.mul_assoc q]at i;have m:q*((high*B+v2)*P)<=q*V:=zs4 _ zO;omega
theorem Xn(D:U=(top*B+u2)*P+lowU)(k:V=(high*B+v2)*P+lowV)(o:lowV<P)(i:v2<B)(t:0<high)(p:U<V*B)(v:q*high+r=top)
  (j:B<=r∨¬(B<=q∨r*B+u2<q*v2)):q<B∧q<=U/V+1:=by
 have f:0<V:=by
  rcases Nat.eq_zero_or_pos V with l|l
  ·rw[l,Nat.zero_mul]at p;omega
  exact l
 have g:0<P:=zO
 have m:top<(high+1)*B:=by
  rcases Nat.lt_or_ge top ((high+1)*B)with h|h
  ·exact h
  exfalso;have a:(high+1)*B*(B*P)<=top*(B*P):=Nat.mul_le_mul_right _ h
  have b:V<=(high+1)*(B*P):=by
   have n:(v2+1)*P<=B*P:=Nat.mul_le_mul_right _ i;rw[Nat.add_mul,Nat.one_mul]at n;rw[k,Nat.add_mul,Nat.add_mul,Nat.one_mul,Nat.mul_assoc];omega
  have w:V*B<=(high+1)*(B*P)*B:=Nat.mul_le_mul_right _ b;have x:(high+1)*B*(B*P)=(high+1)*(B*P)*B:=Nat.mul_right_comm _ _ _;have y:(top*B+u2)*P=top*(B*P)+u2*P:=by rw[Nat.add_mul,Nat.mul_assoc]
  omega
 have e:q<B:=by
  rcases Nat.lt_or_ge q B with h|h
  ·exact h
  exfalso
  have E:B<=r:=by
   rcases j with a|a
   ·exact a
   exact absurd (.inl h) a
  have a:B*high<=q*high:=Nat.mul_le_mul_right _ h;rw[Nat.add_mul,Nat.one_mul,Nat.mul_comm high B]at m;omega
 refine⟨e,?_⟩
 have C:q*v2<=r*B+u2:=by
  rcases j with a|a
  ·have b:q*v2<=B*B:=Nat.mul_le_mul (Nat.le_of_lt e) (Nat.le_of_lt i);have n:B*B<=r*B:=Nat.mul_le_mul_right _ a;omega
  rcases Nat.lt_or_ge (r*B+u2) (q*v2)with b|b
  ·exact absurd (.inr b) a
  exact b
 have a:q*(high*B+v2)<=top*B+u2:=by
  rw[<-v,Nat.add_mul,Nat.mul_add,Nat.mul_assoc];omega
 have b:q*(high*B+v2)*P<=(top*B+u2)*P:=Nat.mul_le_mul_right _ a;have n:q*lowV<=q*P:=zs4 _ (Nat.le_of_lt o);have w:q*P<B*P:=Nat.mul_lt_mul_of_pos_right e g
 have x:B*P<=high*B*P:=by
  have:1*(B*P)<=high*(B*P):=Nat.mul_le_mul_right _ t;rw[Nat.one_mul,<-Nat.mul_assoc]at this;exact this
 have y:q*V=q*(high*B+v2)*P+q*lowV:=by rw[k,Nat.mul_add,Nat.mul_assoc]
 have F:high*B*P<=V:=by
  rw[k,Nat.add_mul];omega
 have G:q*V<U+V:=zO;rcases Nat.lt_or_ge (U/V+1) q with h|h
 ·exfalso;have z:(U/V+2)*V<=q*V:=Nat.mul_le_mul_right _ h
  have s:U<(U/V+1)*V:=by
   rw[<-Nat.div_lt_iff_lt_mul f];omega
  rw[Nat.add_mul]at z s;omega
 exact h
end
def JN(u v r:List Nat)(q i c b:Nat):Prop:=
 r.length=u.length∧okL r∧c<bs∧b<=1∧r.drop i=u.drop i∧val (r.take i)+q*val (v.take i)=val (u.take i)+bs^i*(c+b)
theorem Wc(v:List Nat)(q:Nat)(a:okL u):JN u v u q 0 0 0:=⟨rfl,a,Ca,by omega,rfl,by simp[val]⟩
theorem I3(x:Nat)(hi:i<l.length):(l.set i x).take (i+1)=l.take i++[x]:=by
 rw[List.take_add_one,List.getElem?_set_self hi,List.take_set_of_le (zs2 _)];rfl
theorem Oa(x:Nat)(hi:i<k):(l.set i x).drop k=l.drop k:=by
 apply List.ext_getElem?;intro j;rw[List.getElem?_drop,List.getElem?_drop,List.getElem?_set_ne zO]
theorem Jc(h:r.drop i=u.drop i):r[i]?=u[i]?:=by
 have:=congrArg (λl=>l[0]?) h;simpa[List.getElem?_drop]using this
theorem MO(h:r.drop i=u.drop i):r.drop (i+1)=u.drop (i+1):=by
 have:=congrArg (λl=>l.drop 1) h;simpa[List.drop_drop]using this
theorem dE{q:Nat}(a:c<bs)(b:q<bs)(e:y<bs):c+q*y<bs*bs:=by
 have:=TE a b e Ca;omega
theorem Wd{q b':Nat}(h:JN u v r q i c b)(a:u[i]?=some x)(k:v[i]?=some y)(l:q<bs)(f:y<bs)(m:t=c+q*y)(n:e<bs)(g:b'<=1)(j:e+t%bs+b=x+bs*b') :
  JN u v (r.set i e) q (i+1) (t/bs) b':=by
 obtain⟨o,p,s,B,hd,w⟩:=h;have hi:=(zq1.1 a).1;have z:=dE s l f;refine⟨by rw[List.length_set];exact o,DY p _ n,(Nat.div_lt_iff_lt_mul Ca).2 zO,g,?_,?_⟩
 ·rw[Oa _ zO];exact MO hd
 rw[I3 _ zO,Gz,zq7,zt0 zO,BQ a,BQ k,EE];have e1:bs^i*t=bs^i*c+bs^i*(q*y):=by rw[m,Nat.mul_add]
 have e2:bs^i*(t%bs)+bs^i*(bs*(t/bs))=bs^i*t:=by rw[<-Nat.mul_add,Nat.mod_add_div]
 have e3:=congrArg (bs^i * ·) j;simp only[Nat.mul_add]at e3;have e4:q*(bs^i*y)=bs^i*(q*y):=Nat.mul_left_comm _ _ _;rw[Nat.mul_add q,e4,Nat.mul_assoc,Nat.mul_add,Nat.mul_add];rw[Nat.mul_add]at w;omega
theorem FF(b:l.length=n+1)(a:l[n]?=some x):val l=val (l.take n)+bs^n*x:=by
 rw[<-BQ a,zq4 zO]
theorem JO(x:Nat)(a:l.length=n+1):val (l.set n x)=val (l.take n)+bs^n*x:=by
 have h:(l.set n x)[n]?=some x:=List.getElem?_set_self zO;rw[FF (by rw[List.length_set];exact a) h,List.take_set_of_le (zs2 _)]
theorem YB{q:Nat}(h:JN u v r q n c b)(j:v.length=n)(a:u.length=n+1)(f:u[n]?=some x)(i:c+b<=x):val (r.set n (x-(c+b)))+q*val v=val u:=by
 obtain⟨k,l,m,o,hd,g⟩:=h;rw[JO _ zO,FF a f];rw[zq4 (by omega:v.length<=n)]at g;have e:bs^n*x=bs^n*(x-(c+b))+bs^n*(c+b):=by rw[<-Nat.mul_add];congr 1;omega
 omega
theorem Ob{q:Nat}(h:JN u v r q n c b)(j:v.length=n)(g:u.length=n+1)(i:u[n]?=some x)(a:e+(c+b)=x+bs):val (r.set n e)+q*val v=val u+bs^(n+1):=by
 obtain⟨k,l,m,o,hd,f⟩:=h;rw[JO _ zO,FF g i];rw[zq4 (by omega:v.length<=n)]at f;have e1:=congrArg (bs^n * ·) a;simp only[Nat.mul_add]at e1;rw[Nat.mul_add]at f;rw[EE];omega
def Jz(u v r:List Nat)(i c:Nat):Prop:=
 r.length=u.length∧okL r∧c<=1∧r.drop i=u.drop i∧val (r.take i)+bs^i*c=val (u.take i)+val (v.take i)
theorem TL(v:List Nat)(a:okL u):Jz u v u 0 0:=⟨rfl,a,by omega,rfl,by simp[val]⟩
theorem TM(h:Jz u v r i c)(a:u[i]?=some x)(b:v[i]?=some y)(j:x<bs)(k:y<bs)(e:t=c+x+y):Jz u v (r.set i (t%bs)) (i+1) (t/bs):=by
 obtain⟨f,g,l,hd,m⟩:=h;have hi:=(zq1.1 a).1;refine⟨by rw[List.length_set];exact f,DY g _ (Nat.mod_lt _ Ca),?_,?_,?_⟩
 ·have:t/bs<2:=(Nat.div_lt_iff_lt_mul Ca).2 zO;omega
 ·rw[Oa _ zO];exact MO hd
 rw[I3 _ zO,Gz,zq7,zt0 zO,BQ a,BQ b,EE,Nat.mul_assoc];have e1:bs^i*t=bs^i*c+bs^i*x+bs^i*y:=by rw[e,Nat.mul_add,Nat.mul_add]
 have e2:bs^i*(t%bs)+bs^i*(bs*(t/bs))=bs^i*t:=by rw[<-Nat.mul_add,Nat.mod_add_div]
 omega
theorem We(h:Jz u v r n c)(f:v.length=n)(a:u.length=n+1)(b:u[n]?=some x) :
  ∃k,val (r.set n ((x+c)%bs))+bs^(n+1)*k=val u+val v:=by
 obtain⟨g,i,j,hd,e⟩:=h;refine⟨(x+c)/bs,?_⟩;rw[JO _ zO,FF a b];rw[zq4 (by omega:v.length<=n)]at e;rw[EE,Nat.mul_assoc];have e2:bs^n*((x+c)%bs)+bs^n*(bs*((x+c)/bs))=bs^n*x+bs^n*c:=by rw[<-Nat.mul_add,Nat.mod_add_div,Nat.mul_add]
 omega
theorem YC{q:Nat}(h:R+q*V=U)(f:q<=U/V+1)(b:U/V<=q)(a:0<V):q=U/V∧R=U%V:=by
 have g:q<=U/V:=by
  rw[Nat.le_div_iff_mul_le a];omega
 have e:q=U/V:=zO;refine⟨e,?_⟩;have:=Nat.mod_add_div U V;rw[Nat.mul_comm V,<-e]at this;omega
theorem Wf{q R2 P:Nat}(h:R+q*V=U+P)(n:R<P)(o:q<=U/V+1)(j:U/V<=q)(f:0<V)(l:V<=P)(p:R2+P*k=R+V)(m:R2<P):q=U/V+1∧R2=U%V:=by
 have r:=Nat.mod_lt U f;have e:=Nat.mod_add_div U V;rw[Nat.mul_comm V]at e
 have s:q≠U/V:=by
  intro e1;rw[e1]at h;omega
 have a:q=U/V+1:=zO;refine⟨a,?_⟩;rw[a,Nat.add_mul,Nat.one_mul]at h;have t:R2+P*k=U%V+P:=zO
 have g:k=1:=by
  rcases Nat.lt_or_ge k 1 with i|i
  ·have:k=0:=zO;subst this;omega
  rcases Nat.lt_or_ge k 2 with b|b
  ·omega
  have:P*2<=P*k:=zs4 _ b;omega
 subst g;omega
theorem dF{x0 x1 x2 y1 y2:Nat}(a:okL u)(b:okL v)(e:v.length=n+2)(f:u.length=n+3)(i:u[n+2]?=some x0)(j:u[n+1]?=some x1)(k:u[n]?=some x2)(g1:v[n+1]?=some y1)(g2:v[n]?=some y2) :
  val u=((x0*bs+x1)*bs+x2)*bs^n+val (u.take n)∧val v=(y1*bs+y2)*bs^n+val (v.take n)∧val (u.take n)<bs^n∧val (v.take n)<bs^n:=by
 have e1:=FF f i;have e2:=BQ j;have e3:=BQ k;have f1:=FF e g1;have f2:=BQ g2;refine⟨?_,?_,?_,?_⟩
 ·have g:((x0*bs+x1)*bs+x2)*bs^n=x0*bs*bs*bs^n+x1*bs*bs^n+x2*bs^n:=by simp only[Nat.add_mul]
  have e2':val (u.take (n+2))=val (u.take (n+1))+bs^(n+1)*x1:=e2;have t1:bs^(n+2)*x0=x0*bs*bs*bs^n:=by rw[show n+2=n+1+1 from rfl,EE,EE];ac_rfl
  have t2:bs^(n+1)*x1=x1*bs*bs^n:=by rw[EE];ac_rfl
  have t3:bs^n*x2=x2*bs^n:=Nat.mul_comm _ _;omega
 ·have g:(y1*bs+y2)*bs^n=y1*bs*bs^n+y2*bs^n:=by simp only[Nat.add_mul]
  have t2:bs^(n+1)*y1=y1*bs*bs^n:=by rw[EE];ac_rfl
  have t3:bs^n*y2=y2*bs^n:=Nat.mul_comm _ _;omega
 ·have:=Eh (D3 a n);rwa[zq7,zt0 zO]at this
 have:=Eh (D3 b n);rwa[zq7,zt0 zO]at this
def LH(q u:List Nat)(V U0 i n M:Nat):Prop:=
 u.length=M+n∧q.length=M∧okL u∧okL q∧val (q.drop i)*(bs^i*V)+val u=U0∧val (u.drop i)<V
theorem Ry(h:LH q u V U0 (i+1) n M)(o:V<bs^n)(hi:i<M) :
  ((u.drop i).take (n+1)).length=n+1∧okL ((u.drop i).take (n+1))∧val ((u.drop i).take (n+1))<V*bs∧val u=val (u.take i)+bs^i*val ((u.drop i).take (n+1))∧val (u.drop (i+(n+1)))=0:=by
 obtain⟨k,p,b,m,r,f⟩:=h;have g:(u.drop i).length=M+n-i:=by rw[List.length_drop,k]
 have j:val (u.drop (i+(n+1)))=0:=by
  have e:=congrArg val (List.take_append_drop n (u.drop (i+1)));rw[Ct,List.drop_drop,zq7,zt0 (by rw[List.length_drop];omega),show i+1+n=i+(n+1)by omega]at e;rcases Nat.eq_zero_or_pos (val (u.drop (i+(n+1))))with a|a
  ·exact a
  have:bs^n*1<=bs^n*val (u.drop (i+(n+1))):=zs4 _ a;omega
 have e1:=congrArg val (List.take_append_drop (n+1) (u.drop i));rw[Ct,List.drop_drop,j,Nat.mul_zero,Nat.add_zero]at e1;have e2:=congrArg val (List.take_append_drop i u);rw[Ct,zq7,zt0 zO]at e2;refine⟨by rw[zq7,g];omega,D3 (OD b _) _,?_,?_,j⟩
 ·rw[e1,LG];have s:=Jx b i;have l:bs*(val (u.drop (i+1))+1)<=bs*V:=zs4 _ f;rw[Nat.mul_add,Nat.mul_one,Nat.mul_comm bs V]at l;omega
 rw[e1];omega
theorem tJ{R:List Nat}(h:LH q u V U0 (i+1) n M)(r:V<bs^n)(hi:i<M)(a:0<V)(s:R.length=n+1)(l:okL R)(b:val R=val ((u.drop i).take (n+1))%V) :
  LH (q.set i (val ((u.drop i).take (n+1))/V)) (u.take i++R++u.drop (i+(n+1))) V U0 i n M∧val ((u.drop i).take (n+1))/V<bs:=by
 obtain⟨w,x,k,m,f⟩:=Ry h r hi;obtain⟨z,t,o,p,v,y⟩:=h;have g:(u.take i).length=i:=by rw[zq7];omega
 have j:val ((u.drop i).take (n+1))/V<bs:=by rw[Nat.div_lt_iff_lt_mul a,Nat.mul_comm];exact k
 refine⟨⟨?_,by rw[List.length_set];exact t,?_,DY p _ j,?_,?_⟩,j⟩
 ·rw[zq5,zq5,g,s,List.length_drop];omega
 ·exact Lx.2 ⟨Lx.2 ⟨D3 o _,l⟩,OD o _⟩
 ·rw[Mv _ zO,Ct,f,Nat.mul_zero,Nat.add_zero,Ct,g,b,<-v,m];show(val ((u.drop i).take (n+1))/V+bs*val (q.drop (i+1)))*(bs^i*V)+_=_;rw[EE,Nat.add_mul];have e:=congrArg (bs^i * ·) (Nat.mod_add_div (val ((u.drop i).take (n+1))) V);simp only[Nat.mul_add]at e;have t1:val ((u.drop i).take (n+1))/V*(bs^i*V)=bs^i*(V*(val ((u.drop i).take (n+1))/V)):=by ac_rfl
  have t2:bs*val (q.drop (i+1))*(bs^i*V)=val (q.drop (i+1))*(bs^i*bs*V):=by ac_rfl
  omega
 rw[List.append_assoc,List.drop_append_of_le_length zO,zr6 zO,List.nil_append,Ct,f,Nat.mul_zero,Nat.add_zero,b];exact Nat.mod_lt _ a
theorem xJ(h:LH q u V U0 0 n M)(k:V<bs^n):val q=U0/V∧val (u.take n)=U0%V:=by
 obtain⟨l,m,o,j,f,a⟩:=h;simp only[List.drop_zero,Nat.pow_zero,Nat.one_mul]at f a;have g:0<V:=zO;have e:=congrArg val (List.take_append_drop n u);rw[Ct,zq7,zt0 zO]at e
 have i:val (u.drop n)=0:=by
  rcases Nat.eq_zero_or_pos (val (u.drop n))with b|b
  ·exact b
  have:bs^n*1<=bs^n*val (u.drop n):=zs4 _ b;omega
 rw[i,Nat.mul_zero,Nat.add_zero]at e;rw[e,<-f];constructor
 ·rw[Nat.mul_comm,Nat.mul_add_div g,Nat.div_eq_of_lt a,Nat.add_zero]
 rw[Nat.mul_comm,Nat.mul_add_mod,Nat.mod_eq_of_lt a]
theorem mW(a:okL u)(l:v.length=n+1)(f:u.length=M+(n+1))(g:u[M+n]?=some x)(j:v[n]?=some y)(b:x<y)(q:List Nat)(k:q.length=M)(e:okL q) :
  LH q u (val v) (val u) M (n+1) M:=by
 refine⟨f,k,a,e,?_,?_⟩
 ·rw[zr6 zO];simp[val]
 refine I1 (OD a M) (by rw[List.length_drop];omega) (i:=n) (x:=x) (y:=y) (by rw[List.getElem?_drop];exact g) j ?_ b;rw[List.drop_drop,zr6 zO,zr6 zO]
theorem mX{b:List Nat}{s z:Nat}(r:s<=31)(i:okL b)(t:b.length=n+1)(w:b[n]?=some z)(j:2^31<=z*2^s)(F:z*2^s<bs)(k:okL v)(H:v.length=n+2)(I:val v=val b*2^s)(x:v[n]?=some y) :
  val (v.take (n+1))=val b*2^s∧2^31<=y∧val b*2^s<bs^(n+1):=by
 have B:0<2^s:=Nat.pow_pos zO;have eb:=FF t w
 have G:val (b.take n)<bs^n:=by
  have:=Eh (D3 i n);rwa[zq7,zt0 zO]at this
 have l:val b*2^s<bs^(n+1):=by
  have f:bs=2^s*2^(32-s):=JM r
  have m:z<2^(32-s):=by
   rcases Nat.lt_or_ge z (2^(32-s))with h|h
   ·exact h
   exfalso;have:2^(32-s)*2^s<=z*2^s:=Nat.mul_le_mul_right _ h;rw[Nat.mul_comm,<-f]at this;omega
  have o:val b<bs^n*2^(32-s):=by
   have C:bs^n*(z+1)<=bs^n*2^(32-s):=zs4 _ m;rw[Nat.mul_add,Nat.mul_one]at C;omega
  have p:val b*2^s<bs^n*2^(32-s)*2^s:=Nat.mul_lt_mul_of_pos_right o B;rw[Nat.mul_assoc,Nat.mul_comm (2^(32-s)),<-f,<-EE]at p;exact p
 have a:val (v.take (n+1))=val b*2^s:=by
  have e:=congrArg val (List.take_append_drop (n+1) v);rw[Ct,zq7,zt0 zO]at e
  have q:val (v.drop (n+1))=0:=by
   rcases Nat.eq_zero_or_pos (val (v.drop (n+1)))with g|g
   ·exact g
   have:bs^(n+1)*1<=bs^(n+1)*val (v.drop (n+1)):=zs4 _ g;omega
  rw[q,Nat.mul_zero,Nat.add_zero]at e;omega
 refine⟨a,?_,l⟩;rw[BQ x]at a
 have D:val (v.take n)<bs^n:=by
  have:=Eh (D3 k n);rwa[zq7,zt0 zO]at this
 rcases Nat.lt_or_ge y (2^31)with h|h
 ·exfalso;have E:bs^n*(y+1)<=bs^n*2^31:=zs4 _ h;have f:bs^n*2^31<=bs^n*(z*2^s):=zs4 _ j
  have o:bs^n*(z*2^s)<=val b*2^s:=by
   rw[<-Nat.mul_assoc];exact Nat.mul_le_mul_right _ zO
  rw[Nat.mul_add,Nat.mul_one]at E;omega
 exact h
theorem dG(a b s:Nat):a*2^s/(b*2^s)=a/b∧a*2^s%(b*2^s)/2^s=a%b:=by
 have e:0<2^s:=Nat.pow_pos zO;exact⟨Nat.mul_div_mul_right _ _ e,by rw[Nat.mul_mod_mul_right,Nat.mul_div_cancel _ e]⟩
def At(w:World)(A:oA)(n c v:Nat):Prop:=∃l,Sl w w.heap.size A n (AC l)∧okL l∧val l=v∧n<=c
def nl(v:Nat):Nat:=(Aj v).length
section
variable{w w':World}{A:oA}{n c v:Nat}
theorem At.on(h:At w A n c v)(a:Bw w w'):At w' A n c v:=by
 obtain⟨l,b,e,f,i⟩:=h;exact⟨l,b.on a,e,f,i⟩
theorem At.drewN(h:At w A n c v)(k:Nat):At (w.drewN k) A n c v:=h
theorem At.cap(h:At w A n c v):n<=c:=by
 obtain⟨l,b,e,f,a⟩:=h;exact a
theorem At.trimmed(h:At w A n c v):nl v<=n∧Sl w w.heap.size A (nl v) (AC (Aj v)):=by
 obtain⟨l,a,b,rfl,e⟩:=h;exact a.trimmed b
theorem At.of_limbs(h:Sl w w.heap.size A n (AC (Aj v)))(a:n<=c):At w A n c v:=⟨_,h,AH v,Bc v,a⟩
theorem At.nil(w:World)(A:oA)(c:Nat):At w A 0 c 0:=⟨[],Sl.none_,K5,rfl,zs3 _⟩
end
theorem NJ(v:Nat):v<bs^nl v:=by
 have:=Eh (AH v);rwa[Bc]at this
theorem Pr{v:Nat}(h:v<bs^k):nl v<=k:=MG h
theorem GW(h:a<=b):nl a<=nl b:=Pr (zt2 h (NJ b))
theorem JP(a b:Nat):nl (a+b)<=max (nl a) (nl b)+1:=by
 apply Pr;have e:=NJ a;have f:=NJ b;have i:bs^nl a<=bs^max (nl a) (nl b):=Nat.pow_le_pow_right Ca zO;have j:bs^nl b<=bs^max (nl a) (nl b):=Nat.pow_le_pow_right Ca zO;rw[EE];have k:bs^max (nl a) (nl b)*2<=bs^max (nl a) (nl b)*bs:=zs4 _ (by unfold bs;omega);omega
theorem Gj(a b:Nat):nl (a*b)<=nl a+nl b:=by
 apply Pr;rw[Nat.pow_add];exact Nat.mul_lt_mul_of_lt_of_lt (NJ a) (NJ b)
theorem Ld:nl 0=0:=by rw[nl,Ds];rfl
theorem Le{v:Nat}(h:v≠0):0<nl v:=by
 rw[nl,FC h];simp
theorem JQ{v:Nat}(h:v<bs):nl v<=1:=Pr (by simpa using h)
theorem S3{v:Nat}(h:nl v=0):v=0:=by
 rcases Nat.eq_zero_or_pos v with a|a
 ·exact a
 have:=Le (v:=v) zO;omega
def Bd(w:World)(g:Nat)(L:List Nat):Prop:=w.rowIs g 261 L.length λj=>.int .u32 (L.getD j 0:Nat)
section
variable{w w':World}{g:Nat}{L:List Nat}
theorem Bd.cell(h:Bd w g L)(a:L[i]?=some x):w.cell? (ad g i)=some (.int .u32 (x:Int)):=by
 have:=World.rowIs.cell h (i:=i) (zq1.1 a).1;rw[this,getD_some a]
theorem Bd.frozen(h:Bd w g L)(i:Nat):w.frozen? (ad g i)=false:=World.rowIs.frozen h i
theorem Bd.lt(h:Bd w g L):g<w.heap.size:=World.rowIs.lt h
theorem Bd.set(h:Bd w g L)(hi:i<L.length)(x:Nat):Bd (w.setCell (ad g i) (.int .u32 (x:Int))) g (L.set i x):=by
 have a:=World.rowIs.set h i (.int .u32 (x:Int));unfold Bd;rw[List.length_set];refine a.congr λj b=>?_
 by_cases e:j=i
 ·subst e;simp[hi]
 simp[e,List.getElem?_set_ne (Ne.symm e)]
theorem Bd.far(h:Bd w g L)(a:g≠p.block)(x:Value):Bd (w.setCell p x) g L:=World.rowIs.setOther h a x
theorem Bd.alloc(h:Bd w g L)(o:Obj):Bd (w.alloc o) g L:=World.rowIs.alloc h o
theorem Bd.drewN(h:Bd w g L)(k:Nat):Bd (w.drewN k) g L:=h
theorem Bd.below(h:Bd w g L)(a:Below B w w')(b:g<B):Bd w' g L:=World.rowIs.of_block h (a.block g b)
theorem Bd.made(w:World)(n:Nat):Bd (zw w (madeCells #[Value.int .u32 0] n) 261) w.heap.size (List.replicate n 0):=by
 have h:=World.rowIs_made w (.int .u32 0) n 261;unfold Bd;rw[List.length_replicate];refine h.congr λj a=>?_
 simp[a]
theorem Bd.sl(h:Bd w g L)(b:L.length=n):Sl w w.heap.size (sa g 0) n (AC L):=by
 refine⟨by rw[FD];exact b,λ_=>⟨g,0,rfl,h.lt,λj u a=>?_⟩⟩;simp only[AC,zr5,Option.map_eq_some_iff]at a;obtain⟨x,e,rfl⟩:=a;rw[Nat.zero_add];exact h.cell e
end
theorem Oc(x y:Nat)(w:World):CP 282 #[.int .u32 (x:Int),.int .u32 (y:Int)] w λe w'=>e=.returned (zi (CS x y))∧w'=w:=by
 rcases Nat.lt_trichotomy x y with h|h|h
 ·have a:=zH (FU h);go_enter func282,ntmps282;go_wp2;go_ret;exact⟨by rw[a.o];rfl,rfl⟩
 ·subst h;have a:=zH (K6 (rfl:x=x));go_enter func282,ntmps282;go_wp2;go_ret;exact⟨by rw[a.o];rfl,rfl⟩
 have a:=zH (GT h);have b:¬x<y:=zO;go_enter func282,ntmps282;go_wp2;go_ret;exact⟨by rw[a.o];rfl,rfl⟩
theorem KK(x y:Nat)(w:World):CP 107 #[zi (x:Int),zi (y:Int)] w λe w'=>e=.returned (zi (CS x y))∧w'=w:=by
 rcases Nat.lt_trichotomy x y with h|h|h
 ·have a:=zH (FU h);go_enter func107,ntmps107;go_wp2;go_ret;exact⟨by rw[a.o];rfl,rfl⟩
 ·subst h;have a:=zH (K6 (rfl:x=x));go_enter func107,ntmps107;go_wp2;go_ret;exact⟨by rw[a.o];rfl,rfl⟩
 have a:=zH (GT h);have b:¬x<y:=zO;go_enter func107,ntmps107;go_wp2;go_ret;exact⟨by rw[a.o];rfl,rfl⟩
def AaL(v:Int)(w:World)(e:Ending)(w':World):Prop:=e=.returned (zi v)∧∃k,w'=w.drewN k
theorem Cg(A:oA)(n c v:Nat)(w:World)(h:At w A n c v)(a:n<=4000000) :
  CP 281 #[.slice A n c] w λe w'=>e=.returned (.slice A (nl v) c)∧w=w':=by
 obtain⟨l,b,f,rfl,i⟩:=h;exact OG A n c l w b f i a
theorem dH(e:nl x=nl y)(f:(Aj x).drop (k+1)=(Aj y).drop (k+1))(i:(Aj x)[k]?=some a)(j:(Aj y)[k]?=some b)(l:a≠b):CS x y=CS a b:=by
 rcases Nat.lt_or_ge a b with h|h
 ·have:=I1 (AH x) e i j f h;rw[Bc,Bc]at this;rw[FU this,FU h]
 have:=I1 (AH y) e.symm j i f.symm zO;rw[Bc,Bc]at this;rw[GT this,GT zO]
theorem dI(f:(Aj x).drop (k+1)=(Aj y).drop (k+1))(b:(Aj x)[k]?=some a)(e:(Aj y)[k]?=some a):(Aj x).drop k=(Aj y).drop k:=by
 rw[List.drop_eq_getElem_cons (zq1.1 b).1,List.drop_eq_getElem_cons (zq1.1 e).1,(zq1.1 b).2,(zq1.1 e).2,f]
theorem mY(h:nl y<=nl x):(Aj x).drop (nl x)=(Aj y).drop (nl x):=by
 rw[zr6 (show(Aj x).length<=nl x from zs2 _),zr6 (show(Aj y).length<=nl x from h)]
theorem tK(h:a≠b):(CS a b != 0)=true:=by
 rcases Nat.lt_or_ge a b with e|e
 ·rw[FU e];rfl
 rw[GT zO];rfl
theorem GX(A B:oA)(n m c d x y:Nat)(w:World)(M:At w A n c x)(N:At w B m d y)(Z:n<=1000000)(hm:m<=1000000) :
  CP 257 #[.slice A n c,.slice B m d] w (AaL (CS x y) w):=by
 obtain⟨t1,t2⟩:=M.trimmed;obtain⟨s1,s2⟩:=N.trimmed;rcases Nat.lt_trichotomy (nl x) (nl y)with E|s|F
 ·have I:=zH (FU (N6 (a:=x) (b:=y) E));have t:=zH (FU E);clear t2 s2;go_enter func257,ntmps257;go_wp2_with(first|(go_at_call 281;(with_reducible refine(Cg _ _ _ _ _ (by assumption) zO).mono ?_);rintro e w' ⟨rfl,rfl⟩)|(go_at_call 107;(with_reducible refine(KK _ _ _).mono ?_);rintro e w' ⟨rfl,f⟩;obtain rfl:=f.symm;rw[t.o]))
  go_ret;exact⟨by rw[I.o];rfl,0,rfl⟩
 ·have T:=zH s;have e1:nl x<=nl y:=zO;have e2:nl y<=nl x:=zO;have t:=zH (K6 s);clear s;go_enter func257,ntmps257;go_wp2_with(first|(go_at_call 281;(with_reducible refine(Cg _ _ _ _ _ (by assumption) zO).mono ?_);rintro e w' ⟨rfl,rfl⟩)|(go_at_call 107;(with_reducible refine(KK _ _ _).mono ?_);rintro e w' ⟨rfl,f⟩;obtain rfl:=f.symm;rw[t.o]))
  clear M N
  go_loopw[6] (λi wr=>∃k:Nat,k<=nl x∧i=zi ((k:Int)-1)∧Hid ((Aj x).drop k=(Aj y).drop k)∧Hid (∃j,wr=w.drewN j)) (λi _=>(intOf i+1).toNat)
  case atStart=>exact⟨nl x,zs2 _,rfl,mY e2,⟨0,rfl⟩⟩
  case round=>
   obtain⟨k,hk,hi,hd,l⟩:=hrel;by_cases p:k=0
   ·have C:u6=zi (-1):=by rw[hi,p];rfl
    clear hi;subst C
    have U:Hid (CS x y=0):=by
     have O:=hd.out;rw[p,List.drop_zero,List.drop_zero]at O;exact K6 (cN O)
    clear p;go_wp2;go_ret;exact⟨by rw[U.o];rfl,l.out⟩
   obtain⟨q,rfl⟩:∃q,k=q+1:=⟨k-1,by omega⟩;have C:u6=zi (q:Int):=by rw[hi];congr 1;omega
   clear hi p;subst C;obtain⟨b,P,u,rfl,_,Q,G⟩:=t2.limb_ (k:=q) zO;obtain⟨b',off',v,rfl,_,R,H⟩:=s2.limb_ (k:=q) zO;have D:=zH (zu2 Q R)
   have V:wr.cell? (ad b (P+q))=some (.int .u32 (u:Int)):=by
    obtain⟨j,rfl⟩:=l.out;exact G
   have W:wr.cell? (ad b' (off'+q))=some (.int .u32 (v:Int)):=by
    obtain⟨j,rfl⟩:=l.out;exact H
   clear Q R G H t2 s2;have X:q<nl x:=zO;have Y:q<nl y:=zO;by_cases r:u=v
   ·subst r;have J:=zH (K6 (rfl:u=u));have K:=zH (dI hd.out D.o.1 D.o.2)
    go_wp2_with fail
    go_quiet ((go_at_call 282;exact Calls.quiet_of_same (Oc _ _ _)))
    rw[J.o];go_wp2;go_roundw
    case rel=>exact⟨q,by omega,rfl,K,by obtain⟨j,rfl⟩:=l.out;exact⟨j+nq,by rw[World.drewN_drewN]⟩⟩
    case measure=>simp[intOf]
   have hZ:=tK r;have K:=zH (dH T.o hd.out D.o.1 D.o.2 r);generalize S:CS u v=z at *
   have J:=zH S;clear S r
   go_wp2_with fail
   go_quiet ((go_at_call 282;exact Calls.quiet_of_same (Oc _ _ _)))
   rw[J.o];go_wp2;go_ret;exact⟨by rw[K.o];rfl,by obtain⟨j,rfl⟩:=l.out;exact⟨j+nq,by rw[World.drewN_drewN]⟩⟩
 have I:=zH (GT (N6 (a:=y) (b:=x) F));have t:=zH (GT F);have h2:¬nl x<nl y:=zO;clear t2 s2;go_enter func257,ntmps257;go_wp2_with(first|(go_at_call 281;(with_reducible refine(Cg _ _ _ _ _ (by assumption) zO).mono ?_);rintro e w' ⟨rfl,rfl⟩)|(go_at_call 107;(with_reducible refine(KK _ _ _).mono ?_);rintro e w' ⟨rfl,f⟩;obtain rfl:=f.symm;rw[t.o]))
 go_ret;exact⟨by rw[I.o];rfl,0,rfl⟩
theorem dJ(l:List Nat)(t:Nat):AC (l++[t])=AC l++[.int .u32 (t:Int)]:=by simp[AC]
theorem Fo{ops:Array Oper}{o:Oper}{a:Act}{Q:Exit->Act->World->Prop}(m:o.guard=none)(s x:Operand)
  (p:o.op=Op.call { callee:=Callee.builtin Builtin.append,args:=#[s,x],argTypes:=#[213,213] })
  (b g k cap:Nat) (l:List Nat) (q:a.eval s=.slice (sa g 0) k cap) (i:w.ownsRow b 261 1 (.slice (sa g 0) k cap) k (AC l))
  (ad:Addr) (r:a.eval x=.slice (some ad) 1 1) (t:Nat) (v:w.cell? ad=some (.int .u32 (t:Int))) (b1:k+1<=cap)
  (h:∀w',w'.ownsRow b 261 1 (.slice (sa g 0) (k+1) cap) (k+1) (AC (l++[t]))->w.grownBy w' (some g)->wpList prog ops Q rest (a.put o.dst (.slice (sa g 0) (k+1) cap)) w') :
  wpList prog ops Q (o::rest) a w:=by
 obtain⟨i0,hi,B,n,C⟩:=info_parts LF;refine wpList_append_fits w m s x _ p b 261 i0 1 underlying213 hi n g k cap (AC l) q i ad 1 1 [.int .u32 (t:Int)] r rfl ?_ ?_ b1 ?_
 ·intro j u f
  cases j with
  | zero=>
   obtain rfl:Value.int .u32 (t:Int)=u:=by simpa using f
   have e:ad.add 0=ad:=by simp[Addr.add]
   rw[e];exact v
  | succ j=>simp at f
 ·intro u f;obtain rfl:u=.int .u32 (t:Int):=by simpa using f
  rfl
 intro w' y z;refine h w' ?_ z;rw[dJ];exact y
theorem TN(n:Nat)(f:n<=1000000)(W:World):(Instr.makeSlice 213 (zi 0) (zi ((n:Int)+1))).run prog W=.ok (.slice (sa W.heap.size 0) 0 (n+1)) (zw W (madeCells #[Value.int .u32 0] (n+1)) 261):=by
 obtain⟨i0,hi,a,b,e⟩:=info_parts LF;have h:=run_make (P:=prog) W 213 261 i0 (.int .u32 0) underlying213 hi a .i64 .i64 0 ((n:Int)+1) zO zO (by rw[e];omega) zO;rw[b,show((n:Int)+1).toNat=n+1 by omega,Nat.mul_one]at h;exact h
def TO(N:Nat)(X Y:List Nat)(w:World)(v cr i:Value)(wr:World):Prop:=
 ∃(k cy:Nat)(o:List Nat),k<=N∧cy<=1∧i=zi (k:Int)∧cr=.int .u64 (cy:Int)∧v=.slice (sa w.heap.size 0) k (N+1)∧
  wr.ownsRow w.heap.size 261 1 (.slice (sa w.heap.size 0) k (N+1)) k (AC o)∧Hid (K9 X Y o k cy)∧Bw w wr
theorem GD(w:World)(v:Value)(t:TypeId):(zw w #[v] t).cell? (ad w.heap.size 0)=some v:=by rw[World.cell?_alloc_new];rfl
theorem Iy(p:k<N)(i:okL X)(j:okL Y)(b:K9 X Y o k cy)(l:t=cy+X.getD k 0+Y.getD k 0)
  (f:w1.ownsRow w.heap.size 261 1 (.slice (sa w.heap.size 0) (k+1) (N+1)) (k+1) (AC (o++[t%4294967296]))) (a:Bw w wr) (m:(wr.alloc T).grownBy w1 (some w.heap.size)) :
  TO N X Y w (.slice (sa w.heap.size 0) (k+1) (N+1)) (.int .u64 ((t/4294967296:Nat):Int)) (zi ((k+1:Nat):Int)) w1:=by
 have h:=V6 i j b l;have n:=h.2.2.1;exact⟨k+1,t/4294967296,_,by omega,n,rfl,rfl,rfl,f,h,(a.alloc a.size _).grown m (zs0 a.size zP) (λg e=>by injection e with e;omega)⟩
theorem xK(A B:oA)(n m c d x y:Nat)(w:World)(C:At w A n c x)(D:At w B m d y)(U:n<=1000000)(V:m<=1000000)(O:¬nl x<nl y) :
  CP 287 #[.slice A n c,.slice B m d] w (OH (x+y) w):=by
 obtain⟨t1,t2⟩:=C.trimmed;obtain⟨s1,s2⟩:=D.trimmed;have E:=TN (nl x) zO;have F:nl y<=nl x:=zO;go_enter func287,ntmps287;go_wp2_with(first|(go_at_call 281;(with_reducible refine(Cg _ _ _ _ _ (by assumption) zO).mono ?_);rintro e w' ⟨rfl,rfl⟩))
 clear E C D
 go_loopw[5,6,26] (λv cr i wr=>TO (nl x) (Aj x) (Aj y) w v cr i wr) (λ_ _ i _=>nl x-(intOf i).toNat)
 case atStart=>exact⟨0,0,[],zs3 _,by omega,rfl,rfl,rfl,World.ownsRow_made _ _ _ (zs2 _) zU (by simp[size_madeCells]),N9 _ _,zA _⟩
 case round=>
  obtain⟨k,cy,o,W,P,rfl,rfl,rfl,p,q,a⟩:=hrel;by_cases s:k<nl x
  ·obtain⟨b,Q,u,rfl,R,t,S⟩:=(t2.below a).limb_ s;have G:=BS (AH x) t;rw[AZ]at G;have H:=zH (getD_some t);clear t;by_cases I:k<nl y
   ·obtain⟨b',off',v,rfl,M,r,T⟩:=(s2.below a).limb_ I;have J:=BS (AH y) r;rw[AZ]at J;have z:=zH (getD_some r);clear r t2 s2;go_wp2_with(at_builtin;refine Fo rfl (.tmp 46) (.tmp 49) rfl w.heap.size w.heap.size k (nl x+1) o rfl (p.alloc _) ⟨wr.heap.size,0,none⟩ rfl ((cy+u+v)%4294967296) (GD _ _ _) zO ?_;intro w1 f j)
    go_roundw
    case rel=>exact Iy s (AH _) (AH _) q.out (by rw[H.o,z.o]) f a j
    case measure=>exact zM
   have z:=zH (IN (l:=Aj y) (k:=k) (by show nl y<=k;omega));clear t2 s2;go_wp2_with(at_builtin;refine Fo rfl (.tmp 46) (.tmp 49) rfl w.heap.size w.heap.size k (nl x+1) o rfl (p.alloc _) ⟨wr.heap.size,0,none⟩ rfl ((cy+u)%4294967296) (GD _ _ _) zO ?_;intro w1 f j)
   go_roundw
   case rel=>exact Iy s (AH _) (AH _) q.out (by rw[H.o,z.o,Nat.add_zero]) f a j
   case measure=>exact zM
  obtain rfl:k=nl x:=zO;clear t2 s2;obtain⟨K,r⟩:=Pq q.out (zs2 _) F;rw[Bc,Bc]at r;have L:=zH (zu2 K r);clear K r;go_wp2_with(first|(at_builtin;refine Fo rfl (.tmp 54) (.tmp 57) rfl w.heap.size w.heap.size _ (nl x+1) o rfl (p.alloc _) ⟨wr.heap.size,0,none⟩ rfl cy (GD _ _ _) zO ?_;intro w1 f j;have N:At w1 (sa w.heap.size 0) (nl x+1) (nl x+1) (x+y):=⟨o++[cy],Sl.of_own f,L.o.1,L.o.2,zs2 _⟩)|(go_at_call 281;(with_reducible refine(Cg _ _ _ _ _ (by assumption) zO).mono ?_);rintro e w' ⟨rfl,rfl⟩))
  go_ret;obtain⟨f1,f2⟩:=N.trimmed;refine⟨_,_,_,rfl,f2,f1,(a.alloc a.size _).grown j (zs0 a.size zP) (λg e=>by injection e with e;omega)⟩
theorem xL(A B:oA)(n m c d x y:Nat)(w:World)(C:At w A n c x)(D:At w B m d y)(U:n<=1000000)(V:m<=1000000)(O:nl x<nl y) :
  CP 287 #[.slice A n c,.slice B m d] w (OH (x+y) w):=by
 obtain⟨t1,t2⟩:=C.trimmed;obtain⟨s1,s2⟩:=D.trimmed;have E:=TN (nl y) zO;have F:nl x<=nl y:=zO;go_enter func287,ntmps287;go_wp2_with(first|(go_at_call 281;(with_reducible refine(Cg _ _ _ _ _ (by assumption) zO).mono ?_);rintro e w' ⟨rfl,rfl⟩))
 clear E C D
 go_loopw[5,6,26] (λv cr i wr=>TO (nl y) (Aj y) (Aj x) w v cr i wr) (λ_ _ i _=>nl y-(intOf i).toNat)
 case atStart=>exact⟨0,0,[],zs3 _,by omega,rfl,rfl,rfl,World.ownsRow_made _ _ _ (zs2 _) zU (by simp[size_madeCells]),N9 _ _,zA _⟩
 case round=>
  obtain⟨k,cy,o,W,P,rfl,rfl,rfl,p,q,a⟩:=hrel;by_cases s:k<nl y
  ·obtain⟨b,Q,u,rfl,R,t,S⟩:=(s2.below a).limb_ s;have G:=BS (AH y) t;rw[AZ]at G;have H:=zH (getD_some t);clear t;by_cases I:k<nl x
   ·obtain⟨b',off',v,rfl,M,r,T⟩:=(t2.below a).limb_ I;have J:=BS (AH x) r;rw[AZ]at J;have z:=zH (getD_some r);clear r t2 s2;go_wp2_with(at_builtin;refine Fo rfl (.tmp 46) (.tmp 49) rfl w.heap.size w.heap.size k (nl y+1) o rfl (p.alloc _) ⟨wr.heap.size,0,none⟩ rfl ((cy+u+v)%4294967296) (GD _ _ _) zO ?_;intro w1 f j)
    go_roundw
    case rel=>exact Iy s (AH _) (AH _) q.out (by rw[H.o,z.o]) f a j
    case measure=>exact zM
   have z:=zH (IN (l:=Aj x) (k:=k) (by show nl x<=k;omega));clear t2 s2;go_wp2_with(at_builtin;refine Fo rfl (.tmp 46) (.tmp 49) rfl w.heap.size w.heap.size k (nl y+1) o rfl (p.alloc _) ⟨wr.heap.size,0,none⟩ rfl ((cy+u)%4294967296) (GD _ _ _) zO ?_;intro w1 f j)
   go_roundw
   case rel=>exact Iy s (AH _) (AH _) q.out (by rw[H.o,z.o,Nat.add_zero]) f a j
   case measure=>exact zM
  obtain rfl:k=nl y:=zO;clear t2 s2;obtain⟨K,r⟩:=Pq q.out (zs2 _) F;rw[Bc,Bc]at r;have L:=zH (zu2 K r);clear K r;go_wp2_with(first|(at_builtin;refine Fo rfl (.tmp 54) (.tmp 57) rfl w.heap.size w.heap.size _ (nl y+1) o rfl (p.alloc _) ⟨wr.heap.size,0,none⟩ rfl cy (GD _ _ _) zO ?_;intro w1 f j;have N:At w1 (sa w.heap.size 0) (nl y+1) (nl y+1) (y+x):=⟨o++[cy],Sl.of_own f,L.o.1,L.o.2,zs2 _⟩)|(go_at_call 281;(with_reducible refine(Cg _ _ _ _ _ (by assumption) zO).mono ?_);rintro e w' ⟨rfl,rfl⟩))
  go_ret;obtain⟨f1,f2⟩:=N.trimmed;rw[Nat.add_comm x y];refine⟨_,_,_,rfl,f2,f1,(a.alloc a.size _).grown j (zs0 a.size zP) (λg e=>by injection e with e;omega)⟩
theorem NK(A B:oA)(n m c d x y:Nat)(w:World)(a:At w A n c x)(b:At w B m d y)(e:n<=1000000)(f:m<=1000000) :
  CP 287 #[.slice A n c,.slice B m d] w (OH (x+y) w):=by
 by_cases h:nl x<nl y
 ·exact xL A B n m c d x y w a b e f h
 exact xK A B n m c d x y w a b e f h
def Aaf(v:Nat)(w:World)(e:Ending)(w':World):Prop:=
 ∃A n c,e=.returned (.tuple #[.slice A n c,zY])∧Sl w' w'.heap.size A n (AC (Aj v))∧n<=c∧Bw w w'
theorem At.cut{v:Nat}(h:At w A n c v):At w A (nl v) c v:=At.of_limbs h.trimmed.2 (zs0 h.trimmed.1 h.cap)
theorem GY(n:Nat)(a:n<=4000000)(W:World):(Instr.makeSlice 213 (zi (n:Int)) (zi (n:Int))).run prog W=.ok (.slice (sa W.heap.size 0) n n) (zw W (madeCells #[Value.int .u32 0] n) 261):=
 run_make_row' (P:=prog) 213 261 (.int .u32 0) 4 underlying213 LF rfl .i64 .i64 n zO zO W
def dK(N:Nat)(X Y:List Nat)(w:World)(cr i:Value)(wr:World):Prop:=
 ∃(k cy:Nat)(L:List Nat),k<=N∧cy<=1∧i=zi (k:Int)∧cr=.int .u64 (cy:Int)∧Hid (L.length=N)∧Bd wr w.heap.size L∧Hid (La X Y (L.take k) k cy)∧Bw w wr
theorem mZ(u v cy:Nat)(b:u<4294967296)(f:v<4294967296)(a:cy<=1) :
  ∃e c':Nat,e<4294967296∧c'<=1∧e+v+cy=u+4294967296*c'∧IntKind.u64.wrap (IntKind.u64.wrap ((u:Int)-cy)-v)%4294967296=(e:Int)∧IntKind.u64.wrap (IntKind.u64.wrap ((u:Int)-cy)-v)/9223372036854775808=(c':Int):=by
 simp only[IntKind.wrap_u64];by_cases h:v+cy<=u
 ·exact⟨u-v-cy,0,by omega,by omega,by omega,by omega,by omega⟩
 exact⟨4294967296+u-v-cy,1,by omega,by omega,by omega,by omega,by omega⟩
theorem dL(u cy:Nat)(b:u<4294967296)(a:cy<=1) :
  ∃e c':Nat,e<4294967296∧c'<=1∧e+0+cy=u+4294967296*c'∧IntKind.u64.wrap ((u:Int)-cy)%4294967296=(e:Int)∧IntKind.u64.wrap ((u:Int)-cy)/9223372036854775808=(c':Int):=by
 simp only[IntKind.wrap_u64];by_cases h:cy<=u
 ·exact⟨u-cy,0,by omega,by omega,by omega,by omega,by omega⟩
 exact⟨4294967296+u-cy,1,by omega,by omega,by omega,by omega,by omega⟩
theorem Od{c':Nat}(m:k<N)(j:L.length=N)(b:Bd wr w.heap.size L)(f:La X Y (L.take k) k cy)(g:Bw w wr)
  (l:e<4294967296) (a:c'<=1) (i:e+Y.getD k 0+cy=X.getD k 0+4294967296*c') :
  dK N X Y w (.int .u64 (c':Int)) (zi ((k:Int)+1)) (wr.setCell (ad w.heap.size k) (.int .u32 (e:Int))):=by
 refine⟨k+1,c',L.set k e,by omega,a,by go_num,rfl,by rw[Hid,List.length_set];exact j,b.set zO e,?_,g.setCell (p:=ad w.heap.size k) (zs2 _) _⟩;rw[I3 _ zO];exact V8 f l a i
theorem xM(A B:oA)(n m c d x y:Nat)(w:World)(a:At w A n c x)(b:At w B m d y)(l:n<=1000000)(p:m<=1000000)(f:x<y) :
  CP 310 #[.slice A n c,.slice B m d] w λe w'=>e=.returned (.tuple #[zn,zF])∧∃k,w'=w.drewN k:=by
 have t1:=a.trimmed.1;have s1:=b.trimmed.1;have i:=a.cut;have j:=b.cut;have g:=zH (FU f);go_enter func310,ntmps310;go_wp2_with(first|(go_at_call 281;(with_reducible refine(Cg _ _ _ _ _ (by assumption) zO).mono ?_);rintro e w' ⟨rfl,rfl⟩)|(go_at_call 257;(with_reducible refine(GX _ _ _ _ _ _ _ _ _ (by assumption) (by assumption) zO zO).mono ?_);rintro e w' ⟨rfl,nq,rfl⟩;rw[g.o]))
 go_ret2
 exact⟨rfl,nq,rfl⟩
theorem Xo(A B:oA)(n m c d x y:Nat)(w:World)(H:At w A n c x)(I:At w B m d y)(hn:n<=1000000)(hm:m<=1000000)(D:y<=x) :
  CP 310 #[.slice A n c,.slice B m d] w (Aaf (x-y) w):=by
 obtain⟨t1,t2⟩:=H.trimmed;obtain⟨s1,s2⟩:=I.trimmed;have P:=GW D;have Q:=H.cut;have R:=I.cut;have S:=GY (nl x) zO
 have Z:0<=CS x y:=by
  unfold CS;rw[if_neg zO];split <;> omega
 generalize T:CS x y=z at *
 have W:=zH T;clear T;go_enter func310,ntmps310;go_wp2_with(first|(go_at_call 281;(with_reducible refine(Cg _ _ _ _ _ (by assumption) zO).mono ?_);rintro e w' ⟨rfl,rfl⟩)|(go_at_call 257;(with_reducible refine(GX _ _ _ _ _ _ _ _ _ (by assumption) (by assumption) zO zO).mono ?_);rintro e w' ⟨rfl,nq,rfl⟩;rw[W.o]))
 clear S H I Q R
 go_loopw[7,24] (λcr i wr=>dK (nl x) (Aj x) (Aj y) w cr i wr) (λ_ i _=>nl x-(intOf i).toNat)
 case atStart=>
  refine⟨0,0,List.replicate (nl x) 0,zs3 _,by omega,rfl,rfl,by simp[Hid],?_,V7 _ _,Ai (zA _) nq⟩;exact(Bd.made w (nl x)).drewN nq
 case round=>
  obtain⟨k,cy,L,hk,E,rfl,rfl,q,a,g,f⟩:=hrel;by_cases p:k<nl x
  ·obtain⟨b,a0,u,rfl,a1,J,a2⟩:=(t2.below f).limb_ p;have r:=BS (AH x) J;rw[AZ]at r;have U:=zH (getD_some J);clear J;obtain⟨z0,F⟩:∃z0,L[k]?=some z0:=⟨_,zq0 (by rw[q.out];exact p)⟩;have a3:=a.cell F;have a4:=a.frozen k;have K:=zH a;clear a F;by_cases V:k<nl y
   ·obtain⟨b',off',v,rfl,X,j,a5⟩:=(s2.below f).limb_ V;have G:=BS (AH y) j;rw[AZ]at G;have M:=zH (getD_some j);clear j t2 s2;obtain⟨e,c',N,s,t,q1,q2⟩:=mZ u v cy r G E;have C:=zH (zu2 q1 q2);clear q1 q2;go_wp2;go_roundw
    case rel=>rw[C.o.1,C.o.2];exact Od p q.out K.o g.out f N s (by rw[U.o,M.o];exact t)
    case measure=>exact zM
   have M:=zH (IN (l:=Aj y) (k:=k) (by show nl y<=k;omega));clear t2 s2;obtain⟨e,c',N,s,t,q1,q2⟩:=dL u cy r E;have C:=zH (zu2 q1 q2);clear q1 q2;go_wp2;go_roundw
   case rel=>rw[C.o.1,C.o.2];exact Od p q.out K.o g.out f N s (by rw[U.o,M.o];exact t)
   case measure=>exact zM
  obtain rfl:k=nl x:=zO;clear t2 s2;have K:=zH a;have j:=Yv g.out (show(Aj x).length<=nl x from zs2 _) (show(Aj y).length<=nl x from P) (by rw[Bc,Bc];exact D);rw[Bc,Bc,zq4 (by rw[q.out];omega)]at j;have O:=g.out.2.1;rw[zq4 (by rw[q.out];omega)]at O;have Y:At wr (sa w.heap.size 0) (nl x) (nl x) (x-y):=⟨L,a.sl q.out,O,j,zs2 _⟩;clear a j O;go_wp2_with(go_at_call 281;(with_reducible refine(Cg _ _ _ _ _ (by assumption) zO).mono ?_);rintro e w' ⟨rfl,rfl⟩)
  go_ret2
  obtain⟨f1,f2⟩:=Y.trimmed;exact⟨_,_,_,rfl,f2,f1,f⟩
end Go.Proofs.YteafekbddckemaaGreatDoor
