/- Parts of the proof. -/
import Derived.Deep.RegionHeld3
import Derived.Test.YteafekbddckemaaGreatDoorH04
set_option maxRecDepth 100000
set_option maxHeartbeats 40000000
namespace Go.Proofs.YteafekbddckemaaGreatDoor
open Tryz Go.RowKit
open Go.Lib hiding intOf
variable{A:oA}{B c d i j k n s size t x z:Nat}{E:Prop}{a b l o q r:List Nat}{e:Int}{p:Am}{puts puts':List Am}{rest:List Oper}{ss:List Ae}{v:Value}{w0:World}{xs:List As}
theorem FY(l:List Nat)(k:Nat):val (l.take (k+1))=val (l.take k)+bs^k*l.getD k 0:=by
 by_cases b:k<l.length
 ·have a:l[k]?=some l[k]:=zq0 b;rw[BQ a];simp[a]
 rw[zq4 zO,zq4 zO];simp[List.getElem?_eq_none (by omega:l.length<=k)]
theorem Jx(h:okL l)(k:Nat):l.getD k 0<bs:=by
 by_cases b:k<l.length
 ·have a:l[k]?=some l[k]:=zq0 b;rw[zq3,a];exact BS h a
 rw[zq3,List.getElem?_eq_none zO];exact Ca
theorem getD_some(h:l[k]?=some x):l.getD k 0=x:=by rw[zq3,h];rfl
theorem IN(h:l.length<=k):l.getD k 0=0:=by rw[zq3,List.getElem?_eq_none h];rfl
theorem OK(h:okL l)(a:x<bs):okL (l++[x]):=Lx.2 ⟨h,Lw.2 ⟨a,K5⟩⟩
theorem EE(k:Nat):bs^(k+1)=bs^k*bs:=Nat.pow_succ ..
theorem mU(k:Nat):0<bs^k:=Nat.pow_pos Ca
def K9(a b o:List Nat)(k c:Nat):Prop:=o.length=k∧okL o∧c<=1∧val o+bs^k*c=val (a.take k)+val (b.take k)
theorem N9(a b:List Nat):K9 a b [] 0 0:=⟨rfl,K5,by omega,by simp[val]⟩
theorem V6(g:okL a)(i:okL b)(h:K9 a b o k c)(j:t=c+a.getD k 0+b.getD k 0):K9 a b (o++[t%bs]) (k+1) (t/bs):=by
 obtain⟨f,l,m,n⟩:=h;have p:=Jx g k;have q:=Jx i k;refine⟨by simp[f],OK l (Nat.mod_lt _ Ca),?_,?_⟩
 ·have:t/bs<2:=(Nat.div_lt_iff_lt_mul Ca).2 zO;omega
 rw[Gz,f,FY,FY,EE,Nat.mul_assoc];have e:bs^k*(t%bs)+bs^k*(bs*(t/bs))=bs^k*t:=by rw[<-Nat.mul_add,Nat.mod_add_div]
 have e2:bs^k*t=bs^k*c+bs^k*a.getD k 0+bs^k*b.getD k 0:=by rw[j,Nat.mul_add,Nat.mul_add]
 omega
theorem Pq(h:K9 a b o k c)(f:a.length<=k)(g:b.length<=k):okL (o++[c])∧val (o++[c])=val a+val b:=by
 obtain⟨i,j,l,e⟩:=h;rw[zq4 f,zq4 g]at e;exact⟨OK j (by unfold bs;omega),by rw[Gz,i,e]⟩
def La(a b o:List Nat)(k c:Nat):Prop:=o.length=k∧okL o∧c<=1∧val o+val (b.take k)=val (a.take k)+bs^k*c
theorem V7(a b:List Nat):La a b [] 0 0:=⟨rfl,K5,by omega,by simp[val]⟩
theorem V8{c':Nat}(h:La a b o k c)(hd:d<bs)(e:c'<=1)(g:d+b.getD k 0+c=a.getD k 0+bs*c'):La a b (o++[d]) (k+1) c':=by
 obtain⟨f,i,j,l⟩:=h;refine⟨by simp[f],OK i hd,e,?_⟩;rw[Gz,f,FY,FY,EE,Nat.mul_assoc];have e2:=congrArg (bs^k * ·) g;simp only[Nat.mul_add]at e2;omega
theorem Yv(h:La a b o k c)(g:a.length<=k)(i:b.length<=k)(n:val b<=val a):val o=val a-val b:=by
 obtain⟨j,l,p,m⟩:=h;rw[zq4 g,zq4 i]at m;have e:=Eh l;rw[j]at e
 have:c=0:=by
  rcases Nat.eq_zero_or_pos c with f|f
  ·exact f
  have:c=1:=zO;subst this;omega
 subst this;omega
theorem Yw(h:val l<bs^k)(b:k<=j)(f:l[j]?=some x):x=0:=by
 rcases Nat.eq_zero_or_pos x with a|a
 ·exact a
 exfalso;have g:=BQ f
 have i:val (l.take (j+1))<=val l:=by
  have e:=congrArg val (List.take_append_drop (j+1) l);rw[Ct]at e;omega
 have m:bs^k<=bs^j:=Nat.pow_le_pow_right Ca b;have n:bs^j*1<=bs^j*x:=zs4 _ a;omega
def Lb(a b r:List Nat)(i:Nat):Prop:=r.length=a.length+b.length∧okL r∧val r=val (a.take i)*val b
theorem V9(a b:List Nat):Lb a b (List.replicate (a.length+b.length) 0) 0:=⟨by simp,IJ _,by rw[MF];simp[val]⟩
def NI(a b r:List Nat)(i k c:Nat):Prop:=
 r.length=a.length+b.length∧okL r∧c<bs∧val r+bs^(i+k)*c=val (a.take i)*val b+bs^i*(a.getD i 0*val (b.take k))∧∀j x,i+b.length<=j->r[j]?=some x->x=0
theorem Yx(g:okL a)(l:okL b)(h:Lb a b r i)(hi:i<=a.length):NI a b r i 0 0:=by
 obtain⟨m,n,e⟩:=h;refine⟨m,n,Ca,by simp[e,val],λj x o p=>Yw (k:=i+b.length) ?_ o p⟩;rw[e,Nat.pow_add];have f:=Eh (D3 g i);have q:=Eh l;rw[zq7,zt0 hi]at f;exact Nat.mul_lt_mul_of_lt_of_lt f q
theorem TE{y:Nat}(a:c<bs)(b:x<bs)(e:y<bs)(f:z<bs):c+x*y+z<bs*bs:=by
 have g:x*y<=(bs-1)*(bs-1):=Nat.mul_le_mul zO zO;unfold bs at *
 omega
theorem Yy(n:okL a)(o:okL b)(h:NI a b r i k c)(B:k<b.length)(f:r[i+k]?=some z)(p:t=c+a.getD i 0*b.getD k 0+z) :
  NI a b (r.set (i+k) (t%bs)) i (k+1) (t/bs):=by
 obtain⟨q,g,s,C,v⟩:=h;have l:=BS g f;have w:=TE s (Jx n i) (Jx o k) l;refine⟨by rw[List.length_set];exact q,DY g _ (Nat.mod_lt _ Ca),(Nat.div_lt_iff_lt_mul Ca).2 zO,?_,?_⟩
 ·have D:=K7 (t%bs) f;rw[FY,<-Nat.add_assoc i k 1,EE,Nat.mul_assoc,Nat.mul_add,Nat.mul_add];have e:bs^(i+k)*(t%bs)+bs^(i+k)*(bs*(t/bs))=bs^(i+k)*t:=by rw[<-Nat.mul_add,Nat.mod_add_div]
  have e2:bs^(i+k)*t=bs^(i+k)*c+bs^(i+k)*(a.getD i 0*b.getD k 0)+bs^(i+k)*z:=by rw[p,Nat.mul_add,Nat.mul_add]
  have e3:bs^(i+k)*(a.getD i 0*b.getD k 0)=bs^i*(a.getD i 0*(bs^k*b.getD k 0)):=by
   rw[Nat.pow_add,Nat.mul_assoc];congr 1;exact Nat.mul_left_comm _ _ _
  omega
 intro j x y m;rw[List.getElem?_set_ne zO]at m;exact v j x y m
theorem dD(h:NI a b r i b.length c)(hi:i<a.length):Lb a b (r.set (i+b.length) c) (i+1):=by
 obtain⟨g,j,k,l,m⟩:=h;refine⟨by rw[List.length_set];exact g,DY j _ k,?_⟩;have e:r[i+b.length]?=some (r[i+b.length]'zO):=zq0 _;have f:=m _ _ (zs2 _) e;rw[f]at e;have n:=K7 c e;rw[zq4 (zs2 _)]at l;rw[FY,Nat.add_mul,Nat.mul_assoc];omega
theorem Yz(h:Lb a b r a.length):okL r∧val r=val a*val b:=by
 obtain⟨g,f,e⟩:=h;rw[zq4 (zs2 _)]at e;exact⟨f,e⟩
theorem TF(a:l[k]?=some x):val (l.drop k)=x+bs*val (l.drop (k+1)):=by
 have b:=(zq1.1 a).1;rw[List.drop_eq_getElem_cons b,(zq1.1 a).2];rfl
theorem Mv(v:Nat)(a:k<l.length):(l.set k v).drop k=v::l.drop (k+1):=by
 rw[List.drop_eq_getElem_cons (by rw[List.length_set];exact a)]
 have e:(l.set k v).drop (k+1)=l.drop (k+1):=by
  apply List.ext_getElem?;intro j;rw[List.getElem?_drop,List.getElem?_drop,List.getElem?_set_ne zO]
 rw[e];simp
def MN(a q:List Nat)(d i r:Nat):Prop:=q.length=a.length∧okL q∧r<d∧val (a.drop i)=val (q.drop i)*d+r
theorem TG(hd:0<d)(b:q.length=a.length)(e:okL q):MN a q d a.length 0:=
 ⟨b,e,hd,by rw[List.drop_length,<-b,List.drop_length];simp[val]⟩
theorem Wa{r:Nat}(h:MN a q d (i+1) r)(b:a[i]?=some x)(m:x<bs)(n:t=r*bs+x):MN a (q.set i (t/d)) d i (t%d)∧t/d<bs:=by
 obtain⟨g,j,k,l⟩:=h;have hi:=(zq1.1 b).1;have hd:0<d:=zO
 have f:t/d<bs:=by
  rw[Nat.div_lt_iff_lt_mul hd];have:(r+1)*bs<=d*bs:=Nat.mul_le_mul_right _ k;rw[Nat.add_mul,Nat.one_mul,Nat.mul_comm d]at this;omega
 refine⟨⟨by rw[List.length_set];exact g,DY j _ f,Nat.mod_lt _ hd,?_⟩,f⟩;rw[TF b,Mv _ zO];show _=(t/d+bs*val (q.drop (i+1)))*d+t%d;rw[l,Nat.add_mul];have e:=Nat.mod_add_div t d;rw[Nat.mul_comm d]at e;have e2:bs*(val (q.drop (i+1))*d+r)=bs*val (q.drop (i+1))*d+r*bs:=by rw[Nat.mul_add,Nat.mul_assoc,Nat.mul_comm bs r]
 omega
theorem YA{r:Nat}(h:MN a q d 0 r):val q=val a/d∧r=val a%d:=by
 obtain⟨f,g,e,b⟩:=h;simp only[List.drop_zero]at b;have hd:0<d:=zO;constructor
 ·rw[b,Nat.mul_comm,Nat.mul_add_div hd,Nat.div_eq_of_lt e,Nat.add_zero]
 rw[b,Nat.mul_comm,Nat.mul_add_mod,Nat.mod_eq_of_lt e]
def Jy(a r:List Nat)(s i:Nat):Prop:=
 r.length=a.length+1∧okL r∧val r=val (a.take i)*2^s∧r.getD i 0<2^s∧∀j x,i<j->r[j]?=some x->x=0
theorem TI(a:List Nat)(s:Nat):Jy a (List.replicate (a.length+1) 0) s 0:=by
 refine⟨by simp,IJ _,by rw[MF];simp[val],?_,?_⟩
 ·rw[getD_some (x:=0) zP];exact Nat.pow_pos zO
 intro j x _ b;rw[List.getElem?_replicate]at b;split at b
 ·exact(zs6 b).symm
 cases b
theorem JM(a:s<=31):bs=2^s*2^(32-s):=by
 rw[<-Nat.pow_add,show s+(32-s)=32 by omega];rfl
theorem TJ(l:s<=31)(h:Jy a r s i)(m:a[i]?=some x)(n:x<bs)(o:r[i]?=some z) :
  Jy a ((r.set i (z+x*2^s%bs)).set (i+1) (x*2^s/bs)) s (i+1)∧z+x*2^s%bs<bs∧x*2^s/bs<bs∧z ||| (x*2^s%bs)=z+x*2^s%bs:=by
 obtain⟨w,B,I,g,p⟩:=h;rw[getD_some o]at g;have hi:=(zq1.1 m).1;have C:0<2^s:=Nat.pow_pos zO
 have q:x*2^s%bs=2^s*(x%2^(32-s)):=by
  rw[JM l,Nat.mul_comm x,Nat.mul_mod_mul_left]
 have D:x*2^s/bs<2^s:=by
  rw[Nat.div_lt_iff_lt_mul Ca,Nat.mul_comm (2^s) bs];exact Nat.mul_lt_mul_of_pos_right n C
 have G:2^s<=bs:=by
  rw[JM l];exact Nat.le_mul_of_pos_right _ (Nat.pow_pos zO)
 have b:z+x*2^s%bs<bs:=by
  rw[q];have E:x%2^(32-s)<2^(32-s):=Nat.mod_lt _ (Nat.pow_pos zO);have F:2^s*(x%2^(32-s)+1)<=2^s*2^(32-s):=zs4 _ E;rw[<-JM l,Nat.mul_add,Nat.mul_one]at F;omega
 have t:z ||| (x*2^s%bs)=z+x*2^s%bs:=by
  rw[q,Nat.or_comm,<-Nat.two_pow_add_eq_or_of_lt g,Nat.add_comm]
 refine⟨⟨by simp[w],DY (DY B _ b) _ zO,?_,?_,?_⟩,b,by omega,t⟩
 ·have v:=K7 (z+x*2^s%bs) o;have k:i+1<r.length:=zO
  have f:(r.set i (z+x*2^s%bs))[i+1]?=some 0:=by
   rw[List.getElem?_set_ne zO,zq0 k,p (i+1) _ zO (zq0 k)]
  have H:=K7 (x*2^s/bs) f;rw[BQ m,Nat.add_mul]
  have e:bs^i*(x*2^s%bs)+bs^(i+1)*(x*2^s/bs)=bs^i*x*2^s:=by
   rw[EE,Nat.mul_assoc,<-Nat.mul_add,Nat.mod_add_div,Nat.mul_assoc]
  rw[Nat.mul_add]at v;omega
 ·rw[getD_some (x:=x*2^s/bs) (by rw[List.getElem?_set_self (by rw[List.length_set];omega)])];exact D
 intro j y J f;rw[List.getElem?_set_ne zO,List.getElem?_set_ne zO]at f;exact p j y zO f
theorem Wb(h:Jy a r s a.length):okL r∧val r=val a*2^s∧r.getD a.length 0<2^s:=by
 obtain⟨g,e,b,f,i⟩:=h;rw[zq4 (zs2 _)]at b;exact⟨e,b,f⟩
def If(a r:List Nat)(s i:Nat):Prop:=r.length=a.length∧okL r∧val (r.take i)+bs^i*(val (a.drop i)/2^s)=val a/2^s
theorem SZ(b:r.length=a.length)(e:okL r):If a r s 0:=⟨b,e,by simp[val]⟩
theorem LG(l:List Nat)(k:Nat):val (l.drop k)=l.getD k 0+bs*val (l.drop (k+1)):=by
 by_cases b:k<l.length
 ·have a:l[k]?=some l[k]:=zq0 b;rw[TF a,getD_some a]
 rw[zr6 zO,zr6 zO,IN zO];rfl
theorem S0(k:s<=31)(l:okL a)(h:If a r s i)(hi:i<a.length) :
  If a (r.set i ((a.getD i 0+bs*a.getD (i+1) 0)/2^s%bs)) s (i+1):=by
 obtain⟨m,n,o⟩:=h;have p:0<2^s:=Nat.pow_pos zO;refine⟨by rw[List.length_set];exact m,DY n _ (Nat.mod_lt _ Ca),?_⟩
 have q:(r.set i ((a.getD i 0+bs*a.getD (i+1) 0)/2^s%bs)).take (i+1)=r.take i++[(a.getD i 0+bs*a.getD (i+1) 0)/2^s%bs]:=by
  rw[List.take_add_one,List.getElem?_set_self zO];rw[List.take_set_of_le (zs2 _)];rfl
 rw[q,Gz,zq7,zt0 zO,<-o];have g:=LG a i;have j:=LG a (i+1)
 have b:(a.getD i 0+bs*a.getD (i+1) 0)/2^s%bs=val (a.drop i)/2^s%bs:=by
  rw[g,j,Nat.mul_add,<-Nat.add_assoc]
  have e:bs*(bs*val (a.drop (i+1+1)))=2^s*(bs*(2^(32-s)*val (a.drop (i+1+1)))):=by
   conv=>lhs;lhs;rw[JM k]
   rw[Nat.mul_assoc];congr 1;exact Nat.mul_left_comm _ _ _
  rw[e,Nat.add_mul_div_left _ _ p,Nat.add_mul_mod_self_left]
 have f:val (a.drop (i+1))/2^s=val (a.drop i)/2^s/bs:=by
  rw[Nat.div_div_eq_div_mul,Nat.mul_comm,<-Nat.div_div_eq_div_mul,g,Nat.add_mul_div_left _ _ Ca,Nat.div_eq_of_lt (Jx l i),Nat.zero_add]
 rw[b,f,EE,Nat.mul_assoc,Nat.add_assoc,<-Nat.mul_add,Nat.mod_add_div]
theorem TK(h:If a r s a.length):okL r∧val r=val a/2^s:=by
 obtain⟨f,e,b⟩:=h;rw[zq4 zO,List.drop_length]at b;refine⟨e,?_⟩;have:val []/2^s=0:=by simp[val]
 rw[this]at b;omega
theorem CE{α : Type}:∀{l:List (Except Int α)}{r:List α},AE l=.ok r->l=r.map .ok
 | [],r,h=>by
  obtain rfl:[]=r:=by simpa[AE]using h
  rfl
 | .error e::l,r,h=>by cases h
 | .ok x::l,r,h=>by
  unfold AE at h
  cases hl:AE l with
  | error e=>rw[hl]at h;cases h
  | ok s=>
   rw[hl]at h;obtain rfl:x::s=r:=by simpa using h
   rw[List.map_cons,<-CE hl]
theorem MS:∀{l:List (Am×Int)}{x:Am×Int},Eo l=some x->x∈l
 | [],x,h=>by cases h
 | y::l,x,h=>by
  have key:∀(l:List (Am×Int))(y:Am×Int),l.foldl (λm z=>if Hn z m=true then z else m) y=y∨l.foldl (λm z=>if Hn z m=true then z else m) y∈l:=by
   intro l;induction l with
   | nil=>intro y;exact .inl rfl
   | cons z l ih=>
    intro y;rw[List.foldl_cons];rcases ih (if Hn z y=true then z else y)with h|h
    ·rw[h];by_cases a:Hn z y=true
     ·rw[if_pos a];exact .inr zP
     rw[if_neg a];exact .inl rfl
    exact .inr (List.mem_cons_of_mem _ h)
  obtain rfl:=zs6 h;rcases key l y with h|h
  ·rw[h];simp
  exact List.mem_cons_of_mem _ h
theorem RA{b:AG}(h:DM b ss puts k=.ok p):Bh b ss puts p=0∧p.shape=(k:Int):=by
 unfold DM at h;split at h
 ·cases h
 split at h
 ·cases h
 split at h
 ·cases h
 rename_i placed r;simp only at h;split at h
 ·cases h
 rename_i l g;split at h
 ·cases h
 rename_i x i;obtain rfl:x.1=p:=by simpa using h
 have j:=CE g;obtain⟨o,m,f⟩:=List.mem_filterMap.1 (MS i);obtain rfl:o=some x:=f
 have n:(Except.ok (some x):Except Int (Option (Am×Int)))∈(Cp (ss.getD k ⟨[],0,false,(0,0)⟩).grain false).map (B8 b ss puts placed k (ss.getD k ⟨[],0,false,(0,0)⟩)):=by
  rw[j];exact List.mem_map_of_mem m
 obtain⟨t,_,e⟩:=zr2.1 n;unfold B8 at e;split at e
 ·cases e
 split at e
 ·cases e
 split at e
 ·cases e
 rename_i cs _;injection e with e
 rw[Option.map_eq_some_iff]at e;obtain⟨a,q,rfl⟩:=e;have:=List.find?_some q;simp only[decide_eq_true_eq]at this;exact⟨this,rfl⟩
theorem JV{b:AG}{ss:List Ae}:∀{l:List Nat}{puts out:List Am},Ch b ss l puts=.ok out->∃more,out=puts++more∧more.map (·.shape)=l.map (λk:Nat=>(k:Int))∧∀i p,more[i]?=some p->Bh b ss (puts++more.take i) p=0
 | [],puts,out,h=>by
  obtain rfl:puts=out:=by simpa[Ch]using h
  exact⟨[],by simp,rfl,λi p h=>by simp at h⟩
 | k::l,puts,out,h=>by
  unfold Ch at h;split at h
  ·cases h
  rename_i p e;obtain⟨more,rfl,f,g⟩:=JV h;obtain⟨j,m⟩:=RA e;refine⟨p::more,by simp,by simp[f,m],λi q a=>?_⟩
  cases i with
  | zero=>
   obtain rfl:=zs6 a;simpa using j
  | succ i=>
   have:=g i q (by simpa using a);simpa using this
structure sO(b:AG)(ss:List Ae)(p:Am)(poly:lP):Prop where
 bed:BV b=false
 put:Af ss p=.ok poly
 turn:BF (ss.getD p.shape.toNat ⟨[],0,false,(0,0)⟩).grain false p.turn=true
 inside:∀v∈poly,0<=v.1∧v.1<=b.length∧0<=v.2∧v.2<=b.width
 stripe:((ss.getD p.shape.toNat ⟨[],0,false,(0,0)⟩).match_ && !CH (b.rx,b.ry) (ss.getD p.shape.toNat ⟨[],0,false,(0,0)⟩).anchor p)=false
theorem LM:∀{k:Nat}{l:lP}{r:List (List Pt)}{e:Int},Cq k l r=.error e->e≠0
 | 0,l,r,e,h=>by cases h
 | k+1,l,r,e,h=>by
  unfold Cq at h;split at h
  ·cases h
  split at h
  ·exact LM h
  split at h
  ·exact LM h
  injection h with h
  omega
theorem ES{p:lP}(h:BN p=.error e):e≠0:=by
 unfold BN at h;split at h
 ·rename_i e' a;obtain rfl:e'=e:=by injection h
  unfold D2 at a;split at a
  ·rename_i b;injection a with a
   rw[<-a];exact b
  cases a
 exact LM h
theorem KN{a b:lP}(h:BJ a b=.error e):e≠0:=by
 unfold BJ at h;split at h
 ·rename_i e' f;obtain rfl:e'=e:=by injection h
  unfold CM at f;split at f
  ·rename_i e2 g;obtain rfl:e2=e':=by injection f
   exact ES g
  split at f
  ·rename_i e2 g;obtain rfl:e2=e':=by injection f
   exact ES g
  cases f
 cases h
theorem Xv(h:Af ss p=.error e):e≠0:=by
 unfold Af at h;split at h
 ·injection h with h
  omega
 simp only at h;split at h
 ·rename_i a;injection h with h
  rw[<-h];exact a
 split at h
 ·rename_i a;injection h with h
  rw[<-h];exact a
 cases h
theorem KO{ss:List Ae}{poly:lP}:∀{l:List Am},Cu ss poly l=0↔∀o∈l,∃q,Af ss o=.ok q∧BJ q poly=.ok false
 | []=>by simp[Cu]
 | x::l=>by
  rw[List.forall_mem_cons,<-KO (l:=l),Cu]
  cases hq:Af ss x with
  | error e=>simp[Xv hq]
  | ok q=>
   cases he:BJ q poly with
   | error e=>simp[KN he,he]
   | ok v=>cases v <;> simp[he]
theorem ET{b:AG}:Bh b ss puts p=0↔∃poly,sO b ss p poly∧∀o∈puts,∃q,Af ss o=.ok q∧BJ q poly=.ok false:=by
 unfold Bh;constructor
 ·intro h;split at h
  ·cases h
  rename_i f;split at h
  ·rename_i e k;exact absurd h (Xv k)
  rename_i poly l;simp only at h;split at h
  ·cases h
  rename_i g;split at h
  ·cases h
  rename_i a;split at h
  ·cases h
  rename_i i;refine⟨poly,⟨by simpa using f,l,by simpa using g,λv j=>?_,by simpa using i⟩,KO.1 h⟩;rw[Bool.not_eq_true,List.any_eq_false]at a;have:=a v j;simp only[Bool.not_eq_true,Bool.or_eq_false_iff,decide_eq_false_iff_not]at this;omega
 rintro⟨poly,⟨f,g,a,i,m⟩,n⟩;rw[if_neg (by simp[f]),g];simp only;rw[if_neg (by rw[a];decide),if_neg,if_neg (by rw[m];decide)]
 ·exact KO.2 n
 rw[Bool.not_eq_true,List.any_eq_false];intro v j;have:=i v j;simp only[Bool.not_eq_true,Bool.or_eq_false_iff,decide_eq_false_iff_not];omega
section
variable{b b':AG}{ss:List Ae}{puts puts':List Am}
theorem Xw(h:∀i p,puts[i]?=some p->Bh b ss (puts.take i) p=0){q:Am}(e:i<j)(g:puts[i]?=some p)(k:puts[j]?=some q):∃a c,Af ss p=.ok a∧Af ss q=.ok c∧BJ a c=.ok false:=by
 obtain⟨c,l,m⟩:=ET.1 (h j q k)
 have n:p∈puts.take j:=by
  refine zq2 (i:=i) ?_;rw[zr8,if_pos e,g]
 obtain⟨a,o,f⟩:=m p n;exact⟨a,c,o,l.put,f⟩
theorem Xx(h:∀i p,puts[i]?=some p->Bh b ss (puts.take i) p=0){q:Am}(e:i≠j)(f:puts[i]?=some p)(g:puts[j]?=some q):∃a c,Af ss p=.ok a∧Af ss q=.ok c∧BJ a c=.ok false:=by
 rcases Nat.lt_or_gt_of_ne e with k|l
 ·exact Xw h k f g
 obtain⟨a,c,m,n,o⟩:=Xw h l g f;exact⟨c,a,n,m,TV o⟩
theorem RB:∀{l:List Int},(∀e∈l,e=0)->Cj l=0
 | [],_=>rfl
 | x::l,h=>by
  rw[Cj,if_neg (by simp[h x zP])];exact RB λe a=>h e (by simp[a])
theorem YL(h:∀i p,puts[i]?=some p->Bh b ss (puts.take i) p=0)(E:puts'.length<=60)(g:∀p∈puts',p∈puts)(r:∀(i j:Nat)(p q:Am),i≠j->puts'[i]?=some p->puts'[j]?=some q->p≠q)
  (s:∀p∈puts',BV b'=false) (t:∀p∈puts',∀poly,Af ss p=.ok poly->∀v∈poly,v.1<=b'.length) (F:b'.width=b.width) (G:b'.rx=b.rx) (H:b'.ry=b.ry):Ce b' ss puts'=0:=by
 unfold Ce;rw[if_neg zO];refine RB λe I=>?_
 obtain⟨i,hi,rfl⟩:=zr2.1 I;have hi:=zt8.1 hi;obtain⟨p,w⟩:∃p,puts'[i]?=some p:=⟨_,zq0 hi⟩;rw[zq3,w];have l:=zq2 w;obtain⟨k,x⟩:=List.getElem?_of_mem (g p l);obtain⟨c,f,_⟩:=ET.1 (h k p x);refine ET.2 ⟨c,⟨s p l,f.put,f.turn,λv y=>?_,?_⟩,λo J=>?_⟩
 ·obtain⟨v1,v2,v3,v4⟩:=f.inside v y;exact⟨v1,t p l c f.put v y,v3,by rw[F];exact v4⟩
 ·rw[G,H];exact f.stripe
 obtain⟨j,n⟩:=List.getElem?_of_mem J;rw[zr8]at n;split at n
 ·rename_i M;obtain⟨m,z⟩:=List.getElem?_of_mem (g o (zq2 n));have B:o≠p:=r j i o p zO n w;have C:m≠k:=λe=>B (by subst e;exact zs6 (z.symm.trans x))
  obtain⟨a,c',K,D,L⟩:=Xx h C z x;rw[f.put]at D;obtain rfl:c=c':=by injection D
  exact⟨a,K,L⟩
 cases n
end
section
variable{p:lP}
theorem DN(h:An p=0):p.length<=40∧3<=p.length∧p.any Av=false∧BZ p=true:=by
 unfold An at h;split at h
 ·cases h
 split at h
 ·cases h
 split at h
 ·cases h
 split at h
 ·cases h
 rename_i e f a b;exact⟨by omega,by omega,by simpa using a,by simpa using b⟩
theorem Ew(hi:i<p.length):p[i]?=some (vtx p i):=by
 unfold vtx;rw[Nat.mod_eq_of_lt hi,zq3,zq0 hi];rfl
theorem EZ(i:Nat):vtx p (i%p.length)=vtx p i:=by unfold vtx;rw[Nat.mod_mod]
theorem EL(h:0<p.length)(i:Nat):vtx p i∈p:=by
 rw[<-EZ];exact zq2 (Ew (Nat.mod_lt _ h))
theorem eA(h:BZ p=true)(hi:i<p.length)(k:j<p.length)(f:i≠j):vtx p i≠vtx p j:=by
 intro e
 have key:∀a b:Nat,a<b->b<p.length->vtx p a=vtx p b->False:=λa b g l m=>by
  have n:vtx p b∈p.take b:=by
   rw[<-m];refine zq2 (i:=a) ?_;rw[zr8,if_pos g];exact Ew zO
  have:=JL (Ew l) n;rw[h]at this
  cases this
 rcases Nat.lt_or_gt_of_ne f with q|q
 ·exact key i j q k e
 exact key j i q hi e.symm
theorem eB(f:Nat->Int):∀n,0<n->∃i,i<n∧∀j,j<n->f j<=f i
 | 0,h=>by omega
 | 1,_=>⟨0,by omega,λj a=>by obtain rfl:j=0:=zO;exact Int.le_refl _⟩
 | n+2,_=>by
  obtain⟨i,hi,b⟩:=eB f (n+1) zO;by_cases h:f (n+1)<=f i
  ·refine⟨i,by omega,λj a=>?_⟩;by_cases e:j=n+1
   ·subst e;exact h
   exact b j zO
  refine⟨n+1,by omega,λj a=>?_⟩;by_cases e:j=n+1
  ·subst e;exact Int.le_refl _
  have:=b j zO;omega
theorem eD(h:An p=0)(s:∀v∈p,0<=v.1):∃v∈p,1<=v.1:=by
 obtain⟨_,z,_,f⟩:=DN h;refine Classical.byContradiction λt=>?_
 have k:∀v∈p,v.1=0:=λv m=>by
  have B:=s v m;have C:¬1<=v.1:=λq=>t ⟨v,m,q⟩
  omega
 obtain⟨i,hi,n⟩:=eB (λj=>(vtx p j).2) p.length zO
 obtain⟨a,l,b⟩:∃a,a<p.length∧(a+1)%p.length=i:=by
  by_cases e:i=0
  ·exact⟨p.length-1,by omega,by rw[e,show p.length-1+1=p.length by omega,Nat.mod_self]⟩
  exact⟨i-1,by omega,by rw[show i-1+1=i by omega,Nat.mod_eq_of_lt hi]⟩
 have w:vtx p (a+1)=vtx p i:=by rw[<-EZ (a+1),b]
 have x:vtx p (a+2)=vtx p ((i+1)%p.length):=by
  rw[EZ,<-EZ (a+2),<-EZ (i+1)];congr 1;rw[<-b,Nat.mod_add_mod]
 have g:(i+1)%p.length<p.length:=Nat.mod_lt _ zO
 have o:a≠i:=by
  intro e;subst e;by_cases e1:a+1=p.length
  ·rw[e1,Nat.mod_self]at b;omega
  rw[Nat.mod_eq_of_lt zO]at b;omega
 have r:(i+1)%p.length≠i:=by
  by_cases e1:i+1=p.length
  ·rw[e1,Nat.mod_self];omega
  rw[Nat.mod_eq_of_lt zO];omega
 have n1:=eA f l hi o;have n2:=eA f g hi r;have z1:=k _ (EL zO a);have z2:=k _ (EL zO i);have z3:=k _ (EL zO ((i+1)%p.length));have m1:=n a l;have m3:=n _ g
 have l1:(vtx p a).2<(vtx p i).2:=by
  have:(vtx p a).2≠(vtx p i).2:=λe=>n1 (Prod.ext (by rw[z1,z2]) e)
  omega
 have l3:(vtx p ((i+1)%p.length)).2<(vtx p i).2:=by
  have:(vtx p ((i+1)%p.length)).2≠(vtx p i).2:=λe=>n2 (Prod.ext (by rw[z3,z2]) e)
  omega
 have y:Ed (vtx p a) (vtx p (a+1)) (vtx p (a+2))=true:=by
  rw[w,x];unfold Ed Ao;rw[z1,z2,z3];have:=Int.mul_pos_of_neg_of_neg (show(vtx p a).2-(vtx p i).2<0 by omega) (show(vtx p ((i+1)%p.length)).2-(vtx p i).2<0 by omega);simp;exact this
 rw[N7 l y]at f
 cases f
end
theorem TW(l:lP):∀(i:Int),i<=l.foldl (λm s=>max m s.1) i∧(∀v∈l,v.1<=l.foldl (λm s=>max m s.1) i)∧(l.foldl (λm s=>max m s.1) i=i∨∃v∈l,l.foldl (λm s=>max m s.1) i=v.1):=by
 induction l with
 | nil=>intro i;simp
 | cons a l ih=>
  intro i;rw[List.foldl_cons];obtain⟨j,g,e⟩:=ih (max i a.1);refine⟨by omega,λv f=>?_,?_⟩
  ·rcases zr3.1 f with rfl|f
   ·omega
   exact g v f
  rcases e with e|⟨v,f,e⟩
  ·rw[e];rcases Int.le_total i a.1 with q|q
   ·exact .inr ⟨a,by simp,by omega⟩
   exact .inl zO
  exact .inr ⟨v,by simp[f],e⟩
theorem TX{q:lP}(h:Af ss p=.ok q):An q=0:=by
 unfold Af at h;split at h
 ·cases h
 simp only at h;split at h
 ·cases h
 split at h
 ·cases h
 rename_i a;injection h with h
 rw[<-h];simpa using a
section
variable{b:AG}{ss:List Ae}{puts:List Am}{L:Int}
theorem RC(h:De ss puts=.ok L):(∀p∈puts,∀q,Af ss p=.ok q->∀v∈q,v.1<=L)∧(puts≠[]->∃p∈puts,∃q,Af ss p=.ok q∧∃v∈q,v.1=L):=by
 unfold De at h
 cases hl:AE (puts.map (Af ss))with
 | error e=>rw[hl]at h;cases h
 | ok l=>
  rw[hl]at h;simp only at h;have k:=CE hl
  have j:∀p∈puts,∃q∈l,Af ss p=.ok q:=λp i=>by
   have n:Af ss p∈puts.map (Af ss):=List.mem_map_of_mem i;rw[k]at n;obtain⟨q,f,e⟩:=zr2.1 n;exact⟨q,f,e.symm⟩
  have w:∀q∈l,∃p∈puts,Af ss p=.ok q:=λq f=>by
   have n:(Except.ok q:Except Int (List Pt))∈l.map .ok:=List.mem_map_of_mem f;rw[<-k]at n;obtain⟨p,i,e⟩:=zr2.1 n;exact⟨p,i,e⟩
  cases hf:l.flatMap id with
  | nil=>
   have o:∀q∈l,q=[]:=λq f=>by
    rw[List.flatMap_eq_nil_iff]at hf;exact hf q f
   refine⟨λp i q f v g=>?_,λx=>?_⟩
   ·obtain⟨q',t,e⟩:=j p i;rw[f]at e;obtain rfl:q=q':=by injection e
    rw[o q t]at g
    cases g
   obtain⟨p,i⟩:=List.exists_mem_of_ne_nil _ x;obtain⟨q,f,e⟩:=j p i;have:=(DN (TX e)).2.1;rw[o q f]at this;simp at this
  | cons a r=>
   rw[hf]at h;have D:r.foldl (λm s=>max m s.1) a.1=L:=by injection h
   obtain⟨g1,g2,g3⟩:=TW r a.1;rw[D]at g1 g2 g3
   have y:∀q∈l,∀v∈q,v∈a::r:=λq f v g=>by
    rw[<-hf];exact List.mem_flatMap.2 ⟨q,f,g⟩
   have z:∀v∈a::r,v.1<=L:=λv g=>by
    rcases zr3.1 g with rfl|g
    ·exact g1
    exact g2 v g
   refine⟨λp i q f v g=>?_,λ_=>?_⟩
   ·obtain⟨q',t,e⟩:=j p i;rw[f]at e;obtain rfl:q=q':=by injection e
    exact z v (y q t v g)
   have E:∃v∈a::r,v.1=L:=by
    rcases g3 with g3|⟨v,g,g3⟩
    ·exact⟨a,by simp,g3.symm⟩
    exact⟨v,by simp[g],g3.symm⟩
   obtain⟨v,g,e⟩:=E;rw[<-hf]at g;obtain⟨q,f,B⟩:=List.mem_flatMap.1 g;obtain⟨p,i,C⟩:=w q f;exact⟨p,i,q,C,v,B,e⟩
theorem eE(h:∀i p,puts[i]?=some p->Bh b ss (puts.take i) p=0)(z:De ss puts=.ok L)(o:puts'.length<=60)(a:∀p∈puts',p∈puts)(r:∀(i j:Nat)(p q:Am),i≠j->puts'[i]?=some p->puts'[j]?=some q->p≠q) :
  Ce ⟨L,b.width,b.rx,b.ry⟩ ss puts'=0:=by
 obtain⟨e1,e2⟩:=RC z;refine YL h o a r (λp f=>?_) (λp f q B v g=>e1 p (a p f) q B v g) rfl rfl rfl;have s:puts≠[]:=λe=>by have:=a p f;rw[e]at this;cases this
 obtain⟨k,C⟩:=List.getElem?_of_mem (a p f);obtain⟨c,l,_⟩:=ET.1 (h k p C);obtain⟨v,g,D⟩:=eD (TX l.put) (λv g=>(l.inside v g).1);have E:=e1 p (a p f) c l.put v g;obtain⟨p2,t,q2,m,v2,w,rfl⟩:=e2 s;obtain⟨k2,x⟩:=List.getElem?_of_mem t;obtain⟨c2,n,_⟩:=ET.1 (h k2 p2 x);rw[n.put]at m;obtain rfl:c2=q2:=by injection m
 have F:=n.inside v2 w;have y:=l.bed;unfold BV at y⊢
 simp only[Bool.or_eq_false_iff,decide_eq_false_iff_not]at y⊢
 omega
end
def Bg(a b:Int):Int:=if a<0 then -((2 * -a+b)/(2*b))else(2*a+b)/(2*b)
def LN(p:Aw)(m:Int)(i:Nat):Pt:=(m*(vtx p.corners i).1,m*(vtx p.corners i).2)
def EM(line:lP)(a b:Pt):List Pt:=(List.range line.length).map λk=>
 let n:Int:=(line.length:Int)-1
 ((vtx line k).1+Bg ((n-k)*a.1+k*b.1) n,(vtx line k).2+Bg ((n-k)*a.2+k*b.2) n)
def CO(p:Aw)(m:Int):List As:=(List.range p.edges.length).map λi=>⟨(p.edges.getD i ⟨ByteArray.empty,[]⟩).name,EM (p.edges.getD i ⟨ByteArray.empty,[]⟩).line (LN p m i) (LN p m (i+1))⟩
def BL(p:Aw)(m:Int):Except Int (List As):=
 if m < -100∨100<m then .error 3 else if AB p≠0 then .error (AB p)else if Aq (CO p m)≠0 then .error (Aq (CO p m))else .ok (CO p m)
def BH(q:Rat):Int:=if q.num<0 then -(((2*q.num.natAbs+q.den)/(2*q.den):Nat):Int)else(((2*q.num.natAbs+q.den)/(2*q.den):Nat):Int)
def IA(x y:Rat):Option Pt:=if BH x < -1048576∨1048576<BH x∨BH y < -1048576∨1048576<BH y then none else some (BH x,BH y)
def F3(a b c d:Pt):Option (Rat×Rat):=
 let den:=(b.1-a.1)*(d.2-c.2)-(b.2-a.2)*(d.1-c.1)
 if den=0 then none else
  let t:Rat:=(((c.1-a.1)*(d.2-c.2)-(c.2-a.2)*(d.1-c.1):Int):Rat)/((den:Int):Rat)
  some ((a.1:Rat)+((b.1-a.1:Int):Rat)*t,(a.2:Rat)+((b.2-a.2:Int):Rat)*t)
structure CR where
 a:Pt
 b:Pt
 w:Int
def Cv(s:Pt)(k:Int):Bool:=decide (-k<=s.1)&&(decide (s.1<=k)&&(decide (-k<=s.2)&&decide (s.2<=k)))
def By(v:Pt)(x y:CR):List Pt:=match F3 x.a x.b y.a y.b with
 | none=>[x.b,y.a]
 | some m=>match IA (m.1-v.1) (m.2-v.2)with
  | none=>[x.b,y.a]
  | some d=>if Cv d (4*max x.w y.w+4)=true then[(v.1+d.1,v.2+d.2)]else[x.b,y.a]
def CI(l:List As)(ws:List Int):List Int:=(List.range l.length).flatMap λi=>List.replicate ((l.getD i ⟨ByteArray.empty,[]⟩).line.length-1) (ws.getD i 0)
def MT(sign w:Int)(p q:Pt):Pt:=
 let n:Int:=(CU ((q.1-p.1)*(q.1-p.1)+(q.2-p.2)*(q.2-p.2)).toNat:Nat)
 (Bg (sign*w*(q.2-p.2)) n,Bg (-(sign*w)*(q.1-p.1)) n)
def Gl(vs:lP)(each:List Int):List CR:=
 let sign:=Bb (AQ vs)
 (List.range vs.length).map λi=>
  let d:=MT sign (each.getD i 0) (vtx vs i) (vtx vs (i+1))
  ⟨((vtx vs i).1+d.1,(vtx vs i).2+d.2),((vtx vs (i+1)).1+d.1,(vtx vs (i+1)).2+d.2),each.getD i 0⟩
def Gu(l:List CR)(i:Nat):CR:=l.getD (i%l.length) ⟨(0,0),(0,0),0⟩
def Ck(l:lP)(p:Pt):List Pt:=if l.getLast?=some p then l else l++[p]
def Fy:Nat->List Pt->List Pt
 | 0,l=>l
 | k+1,l=>if 2<=l.length∧l.getLast?=l.head? then Fy k l.dropLast else l
def GG(vs:lP)(each:List Int):List Pt:=
 let g:=Gl vs each
 let r:=((List.range vs.length).flatMap λi=>By (vtx vs i) (Gu g (i+vs.length-1)) (Gu g i)).foldl Ck []
 Fy r.length r
def DK(l:List As)(ws:List Int):Except Int (List Pt):=
 if Aq l≠0 then .error (Aq l)else if ws.length≠l.length then .error 1 else if (ws.any λw=>decide (w<0)||decide (500<w))=true then .error 3 else
  let r:=GG (AL l) (CI l ws)
  if (r.any λp=>!Cv p 1048576)=true then .error 3 else if An r≠0 then .error (An r)else if Bb (AQ r)≠Bb (AQ (AL l))then .error 11 else .ok r
def Kl(s:Al)(size use:Int):Except Int (List As×Aw):=
 if AA s≠0 then .error (AA s)else if size<0∨(s.sizes.length:Int)<=size∨use<0∨(s.uses.length:Int)<=use then .error 3 else
  let p:=s.pieces.getD (s.uses.getD use.toNat ⟨0,0,false⟩).piece.toNat ⟨ByteArray.empty,[],0,[],[],[],false⟩
  match BL p (s.multiples.getD size.toNat 0)with
  | .error e=>.error e
  | .ok l=>.ok (l,p)
def nL(s:Al)(size use:Int):Except Int (List Pt):=match Kl s size use with
 | .error e=>.error e
 | .ok x=>DK x.1 x.2.widths
def QQ(s:Al)(size use:Int):Except Int Pt:=match Kl s size use with
 | .error e=>.error e
 | .ok x=>.ok (((x.1.getD 0 ⟨ByteArray.empty,[]⟩).line).getD 0 (0,0))
structure Ac where
 garment:Int
 use:Int
 copy:Int
 turn:Az
 at_:Pt
deriving DecidableEq
def AP(s:Al):List Ac:=if AA s≠0 then[]else(List.range s.uses.length).flatMap λi=>
 let u:=s.uses.getD i ⟨0,0,false⟩
 (List.range u.count.toNat).map λk:Nat=>⟨0,(i:Int),(k:Int),⟨u.pair&&decide (k%2=1),0⟩,(0,0)⟩
def CY(s:Al)(size:Int)(p:Ac):Except Int Ae:=match nL s size p.use with
 | .error e=>.error e
 | .ok poly=>match QQ s size p.use with
  | .error e=>.error e
  | .ok a=>
   let q:=s.pieces.getD (s.uses.getD p.use.toNat ⟨0,0,false⟩).piece.toNat ⟨ByteArray.empty,[],0,[],[],[],false⟩
   .ok (if p.turn.flip=true then⟨AU ⟨true,0⟩ poly,q.grain,q.match_,BU ⟨true,0⟩ a⟩else⟨poly,q.grain,q.match_,a⟩)
def AI(s:Al)(sizes:List Int):Except Int (List Ae×List Ac):=
 if AA s≠0 then .error (AA s)else if sizes.length<1∨6<sizes.length then .error 3 else if (sizes.any λk=>decide (k<0)||decide ((s.sizes.length:Int)<=k))=true then .error 3 else if 60<(AP s).length*sizes.length then .error 5 else
  let all:=(List.range sizes.length).flatMap λg=>(AP s).map λp=>(sizes.getD g 0,({ p with garment:=g }:Ac))
  match AE (all.map λx=>CY s x.1 x.2)with
  | .error e=>.error e
  | .ok l=>.ok (l,all.map (·.2))
structure Au where
 length:Int
 width:Int
 repeat_:Pt
 sizes:List Int
 places:List Ac
deriving DecidableEq
def BP(places:List Ac)(puts:List Am):List Ac:=puts.foldl (λl p=>l.modify p.shape.toNat λc=>{ c with turn:=⟨c.turn.flip,p.turn.quarter⟩,at_:=p.at_ }) places
def BE(s:Al)(b:AG)(sizes:List Int):Except Int Au:=match AI s sizes with
 | .error e=>.error e
 | .ok x=>match Ch b x.1 (Gk x.1) []with
  | .error e=>.error e
  | .ok puts=>match De x.1 puts with
   | .error e=>.error e
   | .ok n=>.ok ⟨n,b.width,(b.rx,b.ry),sizes,BP x.2 puts⟩
def Km:List As:=[⟨⟨#[108,111,119]⟩,[(0,0),(10,0)]⟩,⟨⟨#[114,105,103,104,116]⟩,[(10,0),(10,10)]⟩,⟨⟨#[104,105,103,104]⟩,[(10,10),(0,10)]⟩,⟨⟨#[108,101,102,116]⟩,[(0,10),(0,0)]⟩]
def MU:Aw:=⟨⟨#[102,114,111,110,116]⟩,Km,1,[],[(0,0),(1,0),(1,0),(0,0)],[0,0,0,0],false⟩
def CC:Al:=⟨⟨#[115,104,105,114,116]⟩,[⟨#[83]⟩,⟨#[77]⟩],[0,2],[MU],[⟨0,2,true⟩],[],[]⟩
theorem YM:(match BE CC ⟨100,20,0,0⟩ [0]with | .ok m=>some m | .error _=>none)=some ⟨10,20,(0,0),[0],[⟨0,0,0,⟨false,0⟩,(0,0)⟩,⟨0,0,1,⟨true,0⟩,(10,10)⟩]⟩:=by decide +kernel
section
variable{w:World}{A:oA}{n:Nat}
theorem EO(h:Ab 2 CQ w A n xs)(i:j<n):∃b a x B m d,A=some ⟨b,a,none⟩∧b<w.heap.size∧xs[j]?=some x∧zL w b (a+j*2) (.string x.name)∧zL w b (a+j*2+1) (.slice B m d)∧Ab 2 Ad w B m x.line∧m<=d:=by
 obtain⟨b,a,x,vs,e,f,k,l,g⟩:=h.at_ i;obtain⟨B,m,d,rfl,o,p⟩:=l;exact⟨b,a,x,B,m,d,e,f,k,g 0 _ rfl,g 1 _ rfl,o,p⟩
theorem Ex{xs:List Aw}(h:Ab 7 K8 w A n xs)(i:j<n):∃b a x E en ec N nn nc C cn cc D dn dc,A=some ⟨b,a,none⟩∧b<w.heap.size∧xs[j]?=some x∧
  zL w b (a+j*7) (.string x.name)∧zL w b (a+j*7+1) (.slice E en ec)∧zL w b (a+j*7+2) (zi x.grain)∧zL w b (a+j*7+3) (.slice N nn nc)∧zL w b (a+j*7+4) (.slice C cn cc)∧zL w b (a+j*7+5) (.slice D dn dc)∧zL w b (a+j*7+6) (.bool x.match_)∧
  Ab 2 CQ w E en x.edges∧en<=ec∧Ab 2 Ad w N nn x.notches∧nn<=nc∧Ab 2 Ad w C cn x.corners∧cn<=cc∧Sl w w.heap.size D dn (Ar x.widths)∧dn<=dc:=by
 obtain⟨b,a,x,vs,e,g,k,l,f⟩:=h.at_ i;obtain⟨E,en,ec,N,nn,nc,C,cn,cc,D,dn,dc,rfl,m,o,p,q,s,t,v,y⟩:=l;exact⟨b,a,x,E,en,ec,N,nn,nc,C,cn,cc,D,dn,dc,e,g,k,f 0 _ rfl,f 1 _ rfl,f 2 _ rfl,f 3 _ rfl,f 4 _ rfl,f 5 _ rfl,f 6 _ rfl,m,o,p,q,s,t,v,y⟩
theorem Lg{xs:List Dw}(h:Ab 3 TB w A n xs)(i:j<n):∃b a x,A=some ⟨b,a,none⟩∧b<w.heap.size∧xs[j]?=some x∧zL w b (a+j*3) (zi x.piece)∧zL w b (a+j*3+1) (zi x.count)∧zL w b (a+j*3+2) (.bool x.pair):=by
 obtain⟨b,a,x,vs,e,g,k,l,f⟩:=h.at_ i;subst l;exact⟨b,a,x,e,g,k,f 0 _ rfl,f 1 _ rfl,f 2 _ rfl⟩
theorem tY{xs:List Gs}(h:Ab 6 Po w A n xs)(i:j<n):∃b a x,A=some ⟨b,a,none⟩∧b<w.heap.size∧xs[j]?=some x∧zL w b (a+j*6) (zi x.pa)∧zL w b (a+j*6+1) (zi x.ea)∧zL w b (a+j*6+2) (zi x.pb)∧zL w b (a+j*6+3) (zi x.eb)∧zL w b (a+j*6+4) (.bool x.rev)∧zL w b (a+j*6+5) (zi x.ease):=by
 obtain⟨b,a,x,vs,e,g,k,l,f⟩:=h.at_ i;subst l;exact⟨b,a,x,e,g,k,f 0 _ rfl,f 1 _ rfl,f 2 _ rfl,f 3 _ rfl,f 4 _ rfl,f 5 _ rfl⟩
end
theorem JB{α : Type}{s:Nat}{f : α->List Value}(a:∀x,(f x).length=s):∀{ts:List α}{j:Nat}{x : α},ts[j]?=some x->∀(i:Nat)(u:Value),(f x)[i]?=some u->(ts.flatMap f)[j*s+i]?=some u
 | [],j,x,h,_,_,_=>by simp at h
 | t::ts,0,x,h,i,u,hu=>by
  obtain rfl:t=x:=by simpa using h
  rw[List.flatMap_cons,Nat.zero_mul,Nat.zero_add,zr4]
  ·exact hu
  exact(zq1.1 hu).1
 | t::ts,j+1,x,h,i,u,hu=>by
  rw[List.flatMap_cons,List.getElem?_append_right (by rw[a,Nat.succ_mul];omega),a,show(j+1)*s+i-s=j*s+i by rw[Nat.succ_mul];omega];exact JB a (by simpa using h) i u hu
theorem DG{α : Type}{s:Nat}{f : α->List Value}(a:∀x,(f x).length=s):∀(ts:List α),(ts.flatMap f).length=ts.length*s
 | []=>by simp
 | t::ts=>by
  rw[List.flatMap_cons,zq5,a,DG a ts,zt5,Nat.succ_mul];omega
section
variable{w w':World}{α : Type}
theorem CJ{G:World->α->List Value->Prop}{a:Nat}{e:TypeId}{β : Type}{ts:List β}{f : β->List Value}{g : β->α}(o:∀x,(f x).length=s)(h:w.ownsRow a e s v n (ts.flatMap f))(k:ts.length=n)(p:∀t∈ts,G w (g t) (f t)) :
  ∃A c,v=.slice A n c∧Ab s G w A n (ts.map g)∧n<=c:=by
 rcases h.2 with⟨rfl,q⟩|⟨b,cap,cur,rfl,C,y,z,D,E,F⟩
 ·subst q;obtain rfl:ts=[]:=zt7 k;exact⟨none,0,rfl,Ab.nil _ _ _ _,zs2 _⟩
 refine⟨some ⟨b,0,none⟩,cap,rfl,⟨by rw[zq6];exact k,λ_=>⟨b,0,rfl,(Array.getElem?_eq_some_iff.1 y).1,λj x l=>?_⟩⟩,z⟩;rw[zr5,Option.map_eq_some_iff]at l;obtain⟨t,m,rfl⟩:=l;refine⟨f t,p t (zq2 m),λi u B=>?_⟩;have:=h.cells (g:=b) rfl _ _ (JB o m i u B);rw[Go.WideShapes.add_plain]at this;rw[Nat.zero_add];simpa using this
def D9(w:World)(r:Option Nat)(Φ : World->Prop):Prop:=∀w',w.grownBy w' r->Φ w'
variable{r:Option Nat}{Φ Ψ : World->Prop}{w1:World}
theorem D9.out(h:D9 w r Φ) : Φ w:=h w ⟨rfl,rfl,rfl,zs2 _,λ_ _ _=>rfl⟩
theorem D9.next{r':Option Nat}(h:D9 w r Φ)(a:w.grownBy w1 r)(j:r'=r∨∀g,r'=some g->w.heap.size<=g):D9 w1 r' Φ:=λw' b=>
 h w' ⟨b.os.trans a.os,b.tape.trans a.tape,b.output.trans a.output,zs0 a.size b.size,λk i f=>
  (b.block k (zs1 i a.size) (λe=>by
   rcases j with h|h
   ·exact f (by rw[<-h];exact e)
   ·have:=h k e.symm;omega)).trans (a.block k i f)⟩
theorem D9.below(h:D9 w r Φ)(a:Bw w w1):D9 w1 r Φ:=h.next ⟨a.os,a.tape,a.output,a.size,λk b _=>a.block k b⟩ (.inl rfl)
theorem D9.recs{G:World->α->List Value->Prop}{xs:List α}(m:∀w w' x vs,G w x vs->G w' x vs)(h:Ab s G w A n xs)(k:∀b o,A=some ⟨b,o,none⟩->r≠some b):D9 w r (λw=>Ab s G w A n xs):=λw' l=>
 ⟨h.1,λp=>by
  obtain⟨b,f,e,g,q⟩:=h.2 p;refine⟨b,f,e,zs1 g l.size,λj x t=>?_⟩;obtain⟨vs,v,y⟩:=q j x t;exact⟨vs,m _ _ _ _ v,λi u z=>(World.cell?_of_block (a:=⟨b,f+j*s+i,none⟩) (l.block b g (λe2=>k b f e e2.symm))).trans (y i u z)⟩⟩
theorem T1:∀(w w':World)(x:Pt)(vs:lV),Ad w x vs->Ad w' x vs:=λ_ _ _ _ h=>h
theorem GH{P:Program}{ops:Array Oper}{o:Oper}{a:Act}{K:Act->World->Prop}{Q:Exit->Act->World->Prop}(q:o.guard=none)(s x:Operand)(t:TypeId)
  (H:o.op=.call { callee:=.builtin .append,args:=#[s,x],argTypes:=#[t,t] })
  (b:Nat) (e:TypeId) (z:Value) (size bytes:Nat) (I:P.underlying t=some (.slice e)) (g:(P.info? e).map (λi=>(i.zero,i.size,i.bytes))=some (some z,size,bytes))
  (y:z.cells.size=size) (B:0<size)
  (v:Value) (n:Nat) (xs:lV) (J:a.eval s=v) (p:w.ownsRow b e size v n xs)
  (ad:Addr) (m c:Nat) (news:lV) (L:a.eval x=.slice (some ad) m c) (M:news.length=m*size) (k:∀j u,news[j]?=some u->w.cell? (ad.add j)=some u) (N:∀u∈news,u.oneCell'=true)
  (C:n+m<=maxLen) (f:(n+m)*bytes<=140737488355328) (l:b<=w.heap.size)
  (h:∀v' w',w'.ownsRow b e size v' (n+m) (xs++news)->w.grownBy w' v.ownBlock->(v'.ownBlock=v.ownBlock∨v'.ownBlock=some w.heap.size)->K (a.put o.dst v') w') :
  if Region.wanted o (yielded ops a.tmps)=true then Oper.wp P o a w K Q else E:=by
 have O:Region.wanted o (yielded ops a.tmps)=true:=by simp[Region.wanted,q]
 rw[if_pos O];obtain⟨i0,hi,D,F,G⟩:=info_parts g;obtain⟨v',w',R,S,T,_,U⟩:=run_append_own_at (P:=P) (w:=w) b t o.type e i0 z size bytes I hi D F G y B v n xs p ad m c news M k N C f l;unfold Oper.wp execOp;simp only[H,resolve,invoke,builtin,Sem.run_bind,Sem.run_pure,Result.andThen_ok,List.map_toArray,List.map_cons,List.map_nil,J,L,R];exact h v' w' S T U
theorem Bt{P:Program}{ops:Array Oper}{o:Oper}{a:Act}{Q:Exit->Act->World->Prop}(q:o.guard=none)(s x:Operand)(t:TypeId)
  (G:o.op=.call { callee:=.builtin .append,args:=#[s,x],argTypes:=#[t,t] })
  (b:Nat) (e:TypeId) (z:Value) (size bytes:Nat) (H:P.underlying t=some (.slice e)) (g:(P.info? e).map (λi=>(i.zero,i.size,i.bytes))=some (some z,size,bytes))
  (y:z.cells.size=size) (B:0<size)
  (v:Value) (n:Nat) (xs:lV) (I:a.eval s=v) (p:w.ownsRow b e size v n xs)
  (ad:Addr) (m c:Nat) (news:lV) (J:a.eval x=.slice (some ad) m c) (K:news.length=m*size) (k:∀j u,news[j]?=some u->w.cell? (ad.add j)=some u) (L:∀u∈news,u.oneCell'=true)
  (C:n+m<=maxLen) (f:(n+m)*bytes<=140737488355328) (l:b<=w.heap.size)
  (h:∀v' w',w'.ownsRow b e size v' (n+m) (xs++news)->w.grownBy w' v.ownBlock->(v'.ownBlock=v.ownBlock∨v'.ownBlock=some w.heap.size)->wpList P ops Q rest (a.put o.dst v') w'):wpList P ops Q (o::rest) a w:=by
 obtain⟨i0,hi,D,E,F⟩:=info_parts g;exact wpList_append_own_at w q s x t G b e i0 z size bytes H hi D E F y B v n xs I p ad m c news J K k L C f l (λv' w' g1 g2 _ g3=>h v' w' g1 g2 g3)
theorem Ah{a:Nat}{e:TypeId}{xs:lV}(h:w.ownsRow a e size v n xs)(b:Bw w w'):w'.ownsRow a e size v n xs:=
 h.kept ⟨b.os,b.tape,b.output,b.size,λk f _=>b.block k f⟩ (row:=none) (by cases v.ownBlock <;> simp)
theorem Ax(h:Below B w0 w)(a:w.grownBy w' r)(f:B<=w.heap.size)(b:∀g,r=some g->B<=g):Below B w0 w':=
 ⟨a.os.trans h.os,a.tape.trans h.tape,a.output.trans h.output,zs0 h.size a.size,λi hi=>(a.block i zO (λe=>by have:=b i e.symm;omega)).trans (h.block i hi)⟩
end
end Go.Proofs.YteafekbddckemaaGreatDoor
