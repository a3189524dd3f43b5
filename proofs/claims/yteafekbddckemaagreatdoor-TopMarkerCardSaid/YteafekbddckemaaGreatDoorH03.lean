/- Parts of the proof. -/
import Derived.Laws.CopyOwn
import Derived.WalkLawsBesides
import Derived.WalkSpells
import Derived.Test.YteafekbddckemaaGreatDoorH02
set_option maxRecDepth 100000
set_option maxHeartbeats 40000000
namespace Go.Proofs.YteafekbddckemaaGreatDoor
open Tryz Go.RowKit
open Go.Lib hiding intOf
variable{A:oA}{B a d g i j k n r u v x:Nat}{L l:List Nat}{b:UInt8}{ps:lP}{t:TypeId}{w w':World}{xs:lV}{y:Int}
section
open Go.Lib
theorem NE(s:ByteArray)(k:Nat)(h:k<s.size):s.data.toList[k]?=some (s[k]'h):=by
 rw[zt9];exact Array.getElem?_eq_getElem h
theorem mG(s:ByteArray)(h:s.size=0):s.toList=[]∧s.toList.isEmpty=true:=by
 have:s.toList=[]:=by
  rw[toList_data];exact zt7 (by rw[<-size_eq];exact h)
 exact⟨this,by rw[this];rfl⟩
theorem NF(s:ByteArray)(h:0<s.size):(¬s.toList=[])∧s.toList.isEmpty=false:=by
 have:¬s.toList=[]:=λe=>by
  rw[toList_data]at e;have a:=size_eq s;rw[e,List.length_nil]at a;omega
 exact⟨this,by simpa using this⟩
theorem Pi{a b:ByteArray}(h:a.data.toList=b.data.toList):a=b:=by rw[<-mk_data a,<-mk_data b,h]
end
section
open Go.Lib
def Fw(b:UInt8):Bool:=decide (48<=b.toNat)&&decide (b.toNat<=57)
theorem Hi:Fw b=true↔48<=b.toNat∧b.toNat<=57:=by simp[Fw]
theorem V2:Fw b=false↔b.toNat<48∨57<b.toNat:=by simp[Fw];omega
def OC(l:List UInt8):Nat:=l.foldl (λn b=>n*10+(b.toNat-48)) 0
theorem Rr(l:List UInt8)(b:UInt8):OC (l++[b])=OC l*10+(b.toNat-48):=by simp[OC,List.foldl_append]
theorem Ke(h:u<10):decDigits u=[UInt8.ofNat (48+u)]:=decDigits_one h
theorem QK(h:¬u<10):decDigits u=decDigits (u/10)++[UInt8.ofNat (48+u%10)]:=by rw[decDigits,dif_neg h]
theorem Kf(h:d<10):(UInt8.ofNat (48+d)).toNat=48+d:=by simp[UInt8.toNat_ofNat'];omega
theorem Tt(h:d<10):Fw (UInt8.ofNat (48+d))=true:=by rw[Hi,Kf h];omega
theorem mH(n:Nat):OC (decDigits n)=n:=by
 induction n using Nat.strongRecOn with
 | _ n ih=>
  by_cases h:n<10
  ·rw[Ke h];show OC ([]++[_])=n;rw[Rr,Kf h];simp[OC]
  rw[QK h,Rr,ih _ zO,Kf zO];omega
theorem Is(n:Nat):1<=(decDigits n).length:=by rw[decDigits_length];exact nDigits_pos n
theorem K4(n:Nat):(decDigits n).all Fw=true:=by
 induction n using Nat.strongRecOn with
 | _ n ih=>
  by_cases h:n<10
  ·rw[Ke h];rw[List.all_cons,Tt h];rfl
  rw[QK h,List.all_append,ih _ zO];rw[List.all_cons,Tt (by omega:n%10<10)];rfl
theorem mI(n:Nat)(a:n≠0):(decDigits n)[0]?≠some 48:=by
 induction n using Nat.strongRecOn with
 | _ n ih=>
  by_cases h:n<10
  ·rw[Ke h];intro e;have e1:UInt8.ofNat (48+n)=48:=by simpa using e
   have e2:=congrArg UInt8.toNat e1;rw[Kf h]at e2;have:(48:UInt8).toNat=48:=rfl;omega
  rw[QK h,zr4 (zV (Is (n/10)))];exact ih _ zO zO
theorem Pj(f:1<=k)(h:r<10^k):nDigits r<=k:=by
 induction k generalizing r with
 | zero=>omega
 | succ k ih=>
  by_cases a:r<10
  ·rw[nDigits_small a];omega
  rw[nDigits_big a]
  have e:1<=k:=by
   rcases Nat.eq_zero_or_pos k with b|b
   ·subst b;simp at h;omega
   exact b
  have:=ih (r:=r/10) e (by rw[Nat.pow_succ]at h;omega);omega
end
def bs:Nat:=4294967296
theorem Ca:0<bs:=by unfold bs;omega
theorem AZ:bs=4294967296:=rfl
def val:List Nat->Nat
 | []=>0
 | x::l=>x+bs*val l
def okL(l:List Nat):Prop:=∀x∈l,x<bs
def It(l:List Nat):Prop:=l.getLast?≠some 0
theorem K5:okL []:=λx h=>by cases h
theorem Lw:okL (x::l)↔x<bs∧okL l:=by simp[okL]
theorem Lx{a b:List Nat}:okL (a++b)↔okL a∧okL b:=by
 simp only[okL,zr1];exact⟨λh=>⟨λx e=>h x (.inl e),λx e=>h x (.inr e)⟩,λh x e=>e.elim (h.1 x) (h.2 x)⟩
theorem D3(h:okL l)(k:Nat):okL (l.take k):=λx a=>h x (List.mem_of_mem_take a)
theorem OD(h:okL l)(k:Nat):okL (l.drop k):=λx a=>h x (List.mem_of_mem_drop a)
theorem BS(h:okL l)(a:l[k]?=some x):x<bs:=h x (zq2 a)
theorem Ct(a b:List Nat):val (a++b)=val a+bs^a.length*val b:=by
 induction a with
 | nil=>simp[val]
 | cons x a ih=>
  simp only[List.cons_append,val,ih,zt5,Nat.pow_succ,Nat.mul_add];have:bs*(bs^a.length*val b)=bs^a.length*bs*val b:=by rw[<-Nat.mul_assoc,Nat.mul_comm bs]
  omega
theorem Gz(a:List Nat)(x:Nat):val (a++[x])=val a+bs^a.length*x:=by
 rw[Ct];simp[val]
theorem Eh(h:okL l):val l<bs^l.length:=by
 induction l with
 | nil=>simp[val]
 | cons x l ih=>
  have a:=Lw.1 h;have ih:=ih a.2;simp only[val,zt5,Nat.pow_succ];have:bs*(val l+1)<=bs*bs^l.length:=zs4 bs ih;rw[Nat.mul_add,Nat.mul_one]at this;rw[Nat.mul_comm (bs^l.length) bs];omega
theorem BQ(a:l[k]?=some x):val (l.take (k+1))=val (l.take k)+bs^k*x:=by
 have b:=(zq1.1 a).1;rw[List.take_add_one,a];show val (l.take k++[x])=_;rw[Gz,zq7,zt0 zO]
theorem MF(n:Nat):val (List.replicate n 0)=0:=by
 induction n with
 | zero=>rfl
 | succ n ih=>simp[List.replicate_succ,val,ih]
theorem OE(l:List Nat)(n:Nat):val (l++List.replicate n 0)=val l:=by
 rw[Ct,MF,Nat.mul_zero,Nat.add_zero]
def Aj(n:Nat):List Nat:=if _h:n=0 then[]else(n%bs)::Aj (n/bs)
termination_by n
decreasing_by exact Nat.div_lt_self zO (by unfold bs;omega)
theorem Ds:Aj 0=[]:=by rw[Aj,dif_pos rfl]
theorem FC(h:n≠0):Aj n=(n%bs)::Aj (n/bs):=by rw[Aj,dif_neg h]
theorem AH:∀n:Nat,okL (Aj n):=by
 intro n;induction n using Nat.strongRecOn with
 | _ n ih=>
  by_cases h:n=0
  ·rw[h,Ds];exact K5
  rw[FC h];exact Lw.2 ⟨Nat.mod_lt _ Ca,ih _ (Nat.div_lt_self zO (by unfold bs;omega))⟩
theorem Bc:∀n:Nat,val (Aj n)=n:=by
 intro n;induction n using Nat.strongRecOn with
 | _ n ih=>
  by_cases h:n=0
  ·rw[h,Ds];rfl
  rw[FC h,val,ih _ (Nat.div_lt_self zO (by unfold bs;omega))];exact Nat.mod_add_div n bs
theorem cM(h:Aj n=[]):n=0:=by
 have:=Bc n;rw[h]at this;exact this.symm
theorem V3:∀n:Nat,It (Aj n):=by
 intro n;induction n using Nat.strongRecOn with
 | _ n ih=>
  by_cases h:n=0
  ·rw[h,Ds];simp[It]
  have b:=Nat.div_lt_self (by omega:0<n) (by unfold bs;omega:1<bs);have ih:=ih _ b;rw[FC h];by_cases a:n/bs=0
  ·rw[a,Ds];intro e;simp only[List.getLast?_singleton,Option.some.injEq]at e;have:=Nat.mod_add_div n bs;rw[a,e]at this;omega
  intro e;apply ih
  cases hl:Aj (n/bs)with
  | nil=>exact absurd (cM hl) a
  | cons y r=>
   rw[hl]at e;rw[List.getLast?_cons_cons]at e;exact e
theorem JJ:∀{l:List Nat},It l->l≠[]->0<val l
 | [],_,h=>absurd rfl h
 | [x],ht,_=>by
  have:x≠0:=λe=>ht (by simp[e])
  simp only[val];omega
 | x::y::l,ht,_=>by
  have a:It (y::l):=λe=>ht (by rw[List.getLast?_cons_cons];exact e)
  have:=JJ a zP;have b:0<bs*val (y::l):=Nat.mul_pos Ca this;show 0<x+bs*val (y::l);omega
theorem Rs:∀{l:List Nat},okL l->It l->Aj (val l)=l
 | [],_,_=>Ds
 | x::l,ho,ht=>by
  have a:=Lw.1 ho
  have b:It l:=by
   cases l with
   | nil=>simp[It]
   | cons y r=>exact λe=>ht (by rw[List.getLast?_cons_cons];exact e)
  have g:=JJ ht zP
  have hd:(x+bs*val l)/bs=val l:=by
   rw[Nat.add_mul_div_left _ _ Ca,Nat.div_eq_of_lt a.1,Nat.zero_add]
  have f:(x+bs*val l)%bs=x:=by
   rw[Nat.add_mul_mod_self_left,Nat.mod_eq_of_lt a.1]
  rw[FC zO];show(x+bs*val l)%bs::Aj ((x+bs*val l)/bs)=x::l;rw[f,hd,Rs a.2 b]
theorem cN{b:Nat}(h:Aj a=Aj b):a=b:=by rw[<-Bc a,h,Bc]
def width(l:List Nat):Nat:=(Aj (val l)).length
theorem SX(a:l.length=k+1)(b:l[k]?=some x)(f:x≠0):It l:=by
 intro e;rw[List.getLast?_eq_getElem?,a,Nat.add_sub_cancel,b]at e;exact f (zs6 e)
theorem Ja(n:okL l)(t:k<=l.length)(o:∀j x,k<=j->l[j]?=some x->x=0)(p:k=0∨∃x,l[k-1]?=some x∧x≠0):Aj (val l)=l.take k:=by
 have q:val l=val (l.take k):=by
  have e:l=l.take k++l.drop k:=(List.take_append_drop k l).symm
  have hd:l.drop k=List.replicate (l.length-k) 0:=by
   apply List.ext_getElem?;intro j;rw[List.getElem?_drop,List.getElem?_replicate];by_cases a:j<l.length-k
   ·rw[if_pos a];have b:k+j<l.length:=zO;have f:l[k+j]?=some l[k+j]:=zq0 b;rw[f,o (k+j) _ zO f]
   rw[if_neg a];exact List.getElem?_eq_none zO
  have g:val (l.take k++List.replicate (l.length-k) 0)=val (l.take k):=OE _ _;rw[<-hd,<-e]at g;exact g
 rw[q];refine Rs (D3 n k) ?_;rcases p with rfl|⟨x,r,i⟩
 ·simp[It]
 by_cases m:k=0
 ·subst m;simp[It]
 have s:(l.take k).length=(k-1)+1:=by rw[zq7];omega
 exact SX (k:=k-1) (x:=x) s (by rw[zr8,if_pos zO];exact r) i
theorem OF(g:okL l):∃k,k<=l.length∧Aj (val l)=l.take k∧k=width l:=by
 suffices h:∀m:Nat,m<=l.length->(∀j x,m<=j->l[j]?=some x->x=0)->∃k,k<=l.length∧Aj (val l)=l.take k by
  obtain⟨k,i,n⟩:=h l.length (zs2 _) (λj x q f=>by have:=(zq1.1 f).1;omega);exact⟨k,i,n,by rw[width,n,zq7,zt0 i]⟩
 intro m;induction m with
 | zero=>
  intro b e;exact⟨0,zs3 _,Ja g (zs3 _) e (.inl rfl)⟩
 | succ m ih=>
  intro b e;have f:l[m]?=some l[m]:=zq0 b;by_cases o:l[m]=0
  ·refine ih zO λj x q a=>?_
   by_cases p:j=m
   ·subst p;rw[f]at a;rw[<-zs6 a];exact o
   exact e j x zO a
  exact⟨m+1,b,Ja g b e (.inr ⟨l[m],by simp,o⟩)⟩
theorem MG(h:n<bs^k):(Aj n).length<=k:=by
 induction k generalizing n with
 | zero=>
  have:n=0:=by simpa using h
  rw[this,Ds];exact zs2 _
 | succ k ih=>
  by_cases a:n=0
  ·rw[a,Ds];exact zs3 _
  rw[FC a,zt5]
  have:n/bs<bs^k:=by
   rw[Nat.div_lt_iff_lt_mul Ca,<-Nat.pow_succ];exact h
  have:=ih this;omega
def CS(a b:Nat):Int:=if a<b then -1 else if b<a then 1 else 0
theorem FU{b:Nat}(h:a<b):CS a b = -1:=by rw[CS,if_pos h]
theorem GT{b:Nat}(h:b<a):CS a b=1:=by rw[CS,if_neg zO,if_pos h]
theorem K6{b:Nat}(h:a=b):CS a b=0:=by rw[CS,if_neg zO,if_neg zO]
theorem mJ(h:k<(Aj n).length):bs^k<=n:=by
 rcases Nat.lt_or_ge n (bs^k)with a|b
 ·have:=MG a;omega
 exact b
theorem N6{b:Nat}(h:(Aj a).length<(Aj b).length):a<b:=by
 have e:a<bs^(Aj a).length:=by
  have:=Eh (AH a);rwa[Bc]at this
 exact zs1 e (mJ h)
theorem I1{a b:List Nat}{y:Nat}(n:okL a)(t:a.length=b.length)(g:a[i]?=some x)(j:b[i]?=some y)(o:a.drop (i+1)=b.drop (i+1))(q:x<y):val a<val b:=by
 have k:=(zq1.1 g).1
 have ea:a=a.take i++x::a.drop (i+1):=by
  have e:=(List.take_append_drop i a).symm;rw[List.drop_eq_getElem_cons k,(zq1.1 g).2]at e;exact e
 have l:=(zq1.1 j).1
 have eb:b=b.take i++y::b.drop (i+1):=by
  have e:=(List.take_append_drop i b).symm;rw[List.drop_eq_getElem_cons l,(zq1.1 j).2]at e;exact e
 have f:(a.take i).length=i:=by rw[zq7];omega
 have m:(b.take i).length=i:=by rw[zq7];omega
 have r:val a=val (a.take i)+bs^i*(x+bs*val (a.drop (i+1))):=by
  conv=>lhs;rw[ea]
  rw[Ct,f];rfl
 have s:val b=val (b.take i)+bs^i*(y+bs*val (a.drop (i+1))):=by
  conv=>lhs;rw[eb]
  rw[Ct,m,o];rfl
 have e:=Eh (D3 n i);rw[f]at e;have p:bs^i*(x+bs*val (a.drop (i+1))+1)<=bs^i*(y+bs*val (a.drop (i+1))):=zs4 _ zO;rw[Nat.mul_add,Nat.mul_one]at p;omega
theorem K7:∀{l:List Nat}{k x:Nat}(v:Nat),l[k]?=some x->val (l.set k v)+bs^k*x=val l+bs^k*v
 | [],k,x,v,h=>by simp at h
 | y::l,0,x,v,h=>by
  have e:y=x:=by simpa using h
  subst e;simp only[List.set_cons_zero,val,Nat.pow_zero,Nat.one_mul];omega
 | y::l,k+1,x,v,h=>by
  have ih:=K7 (l:=l) (k:=k) (x:=x) v (by simpa using h);simp only[List.set_cons_succ,val,Nat.pow_succ];have e1:bs^k*bs*x=bs*(bs^k*x):=by rw[Nat.mul_comm (bs^k) bs,Nat.mul_assoc]
  have e2:bs^k*bs*v=bs*(bs^k*v):=by rw[Nat.mul_comm (bs^k) bs,Nat.mul_assoc]
  have e3:=congrArg (bs * ·) ih;simp only[Nat.mul_add]at e3;omega
theorem DY(h:okL l)(k:Nat)(e:v<bs):okL (l.set k v):=by
 intro x b;rcases List.mem_or_eq_of_mem_set b with a|a
 ·exact h x a
 omega
theorem IJ(n:Nat):okL (List.replicate n 0):=by
 intro x a;rw[(List.mem_replicate.1 a).2];exact Ca
def AC(l:List Nat):List Value:=l.map λx:Nat=>Value.int .u32 (x:Int)
theorem FD(l:List Nat):(AC l).length=l.length:=by simp[AC]
section
variable{w w':World}{B n:Nat}{A:oA}{l:List Nat}
theorem Sl.ulen(h:Sl w B A n (AC l)):l.length=n:=by rw[<-FD];exact h.1
theorem Sl.limb_(h:Sl w B A n (AC l))(g:k<n):∃b a x,A=some ⟨b,a,none⟩∧b<B∧l[k]?=some x∧zL w b (a+k) (.int .u32 (x:Int)):=by
 obtain⟨b,a,u,e,i,f,j⟩:=h.at_ g;simp only[AC,zr5,Option.map_eq_some_iff]at f;obtain⟨x,m,rfl⟩:=f;exact⟨b,a,x,e,i,m,j⟩
theorem Sl.utake(h:Sl w B A n (AC l))(o:k<=n):Sl w B A k (AC (l.take k)):=by
 have p:=h.ulen;refine⟨by rw[FD,zq7];omega,λq=>?_⟩;obtain⟨b,f,e,i,m⟩:=h.2 zO;refine⟨b,f,e,i,λj u g=>m j u ?_⟩;simp only[AC,zr5,Option.map_eq_some_iff]at g⊢
 obtain⟨x,a,rfl⟩:=g;rw[zr8]at a;split at a
 ·exact⟨x,a,rfl⟩
 cases a
end
theorem Rt{m c:Nat}(h:n=m):Ending.returned (.slice A n c)=.returned (.slice A m c):=by rw[h]
theorem OG(A:oA)(n c:Nat)(l:List Nat)(w:World)(g:Sl w B A n (AC l))(s:okL l)(H:n<=c)(I:n<=4000000) :
  CP 281 #[.slice A n c] w λe w'=>e=.returned (.slice A (Aj (val l)).length c)∧w=w':=by
 have p:=zH g.ulen;have t:=zH s;clear s;go_enter func281,ntmps281;go_wp2
 go_loop [3] (λi=>∃k:Nat,k<=n∧i=zi k∧Hid (∀j x,k<=j->l[j]?=some x->x=0)) (λi=>(intOf i).toNat)
 case atStart=>exact⟨n,zs2 _,rfl,λj x C a=>by have:=(zq1.1 a).1;rw[p.o]at this;omega⟩
 case round=>
  obtain⟨k,J,rfl,q⟩:=hrel;by_cases v:k=0
  ·subst v;have r:=zH (Ja t.o (zs3 _) q.out (.inl rfl));clear g;go_wp2;go_ret;exact⟨Rt (by rw[r.o];simp),rfl⟩
  obtain⟨m,rfl⟩:∃m,k=m+1:=⟨k-1,by omega⟩;obtain⟨b,E,x,rfl,_,a,F⟩:=g.limb_ (k:=m) zO;have y:=zH a;clear a g;by_cases f:x=0
  ·subst f
   have D:Hid (∀j x,m<=j->l[j]?=some x->x=0):=λj x C a=>by
    by_cases z:j=m
    ·subst z;rw[y.o]at a;exact(zs6 a).symm
    exact q.out j x zO a
   go_wp2;go_round
   case rel=>exact⟨m,by omega,by go_num,D⟩
   case measure=>simp[intOf]
  have G:((x:Int) == 0)=false:=by simp;omega
  have r:=zH (Ja t.o (by rw[p.o];omega) q.out (.inr ⟨x,y.o,f⟩));clear f;go_wp2;go_ret;exact⟨Rt (by rw[r.o,zq7,p.o];omega),rfl⟩
def OH(v:Nat)(w:World)(e:Ending)(w':World):Prop:=
 ∃A n c,e=.returned (.slice A n c)∧Sl w' w'.heap.size A n (AC (Aj v))∧n<=c∧Bw w w'
theorem Sl.lit(w:World)(cs:aV)(t:TypeId)(a:cs.size=n)(b:cs.toList=xs):Sl (w.alloc (.cells cs t)) (w.heap.size+1) (sa w.heap.size 0) n xs:=by
 subst a b;refine⟨by simp,λ_=>⟨w.heap.size,0,rfl,by omega,λj u e=>?_⟩⟩;rw[cell_of_row _ w.heap.size (0+j) cs t (0,0) (heap_alloc_new w _),Nat.zero_add];simpa using e
theorem Sl.trimmed(h:Sl w B A n (AC l))(e:okL l):(Aj (val l)).length<=n∧Sl w B A (Aj (val l)).length (AC (Aj (val l))):=by
 obtain⟨k,g,f,a⟩:=OF e;have i:=h.ulen;have b:(Aj (val l)).length=k:=by rw[a,width]
 refine⟨by omega,?_⟩;rw[b,f];exact h.utake zO
theorem Pk(n:Nat)(w:World)(q:n<18446744073709551616) :
  CP 255 #[.int .u64 (n:Int)] w (OH n w):=by
 have a:val [n%4294967296,n/4294967296]=n:=by simp only[val,bs];omega
 have b:okL [n%4294967296,n/4294967296]:=by
  intro x i;simp only[zr3,List.not_mem_nil,or_false]at i;unfold bs;rcases i with rfl|rfl <;> omega
 have f:=Sl.lit w #[.int .u32 (n%4294967296:Int),.int .u32 (n/4294967296:Int)] 261 (n:=2) (xs:=AC [n%4294967296,n/4294967296]) rfl rfl;have g:=f.trimmed b;rw[a]at g;have j:=zH g;have k:=zH f;have m:=zH b;have p:=zH a;clear g f b a;go_enter func255,ntmps255;go_wp2_with(go_at_call 281;refine(OG _ 2 2 _ _ k.o m.o zO zO).mono ?_;rintro e w' ⟨rfl,rfl⟩;rw[p.o])
 go_ret;exact⟨_,_,_,rfl,by simpa using j.o.2,j.o.1,zA _⟩
def Pm(b:UInt8):Bool:=decide (97<=b.toNat)&&decide (b.toNat<=122)
def Gq(first:Bool)(b:UInt8):Bool:=Pm b||(!first&&(b == 95||Fw b))
def MH(l:List UInt8)(k:Nat):Prop:=∀j b,j<k->l[j]?=some b->Gq (decide (j=0)) b=true
def AD(l:List UInt8):Bool:=decide (1<=l.length)&&(decide (l.length<=24)&&(decide (l≠[109,105,110])&&(decide (l≠[109,97,120])&&(List.range l.length).all λj=>Gq (decide (j=0)) (l.getD j 0))))
theorem Ly{l:List UInt8}:AD l=true↔1<=l.length∧l.length<=24∧l≠[109,105,110]∧l≠[109,97,120]∧MH l l.length:=by
 simp only[AD,Bool.and_eq_true,decide_eq_true_eq,List.all_eq_true,zt8,MH];refine and_congr_right λ_=>and_congr_right λ_=>and_congr_right λ_=>and_congr_right λ_=>?_
 constructor
 ·intro h j b a e;have:=h j a;rw[zq3,e]at this;exact this
 intro h j a;have:=h j l[j] a (zq0 a);rw[zq3,zq0 a];exact this
theorem KI{l:List UInt8}(h:MH l k)(f:l[k]?=some b)(g:Gq (decide (k=0)) b=true):MH l (k+1):=by
 intro j c i a;by_cases e:j=k
 ·subst e;rw[f]at a;rw[<-zs6 a];exact g
 exact h j c zO a
theorem Ru{l:List UInt8}(a:l[k]?=some b)(e:Gq (decide (k=0)) b=false):AD l=false:=by
 cases h:AD l
 ·rfl
 have:=(Ly.1 h).2.2.2.2 k b (zq1.1 a).1 a;rw[e]at this
 cases this
theorem Gi(b:UInt8)(w:World):CP 280 #[.int .u8 (b.toNat:Int)] w λe w'=>e=.returned (.bool (Fw b))∧w=w':=by
 cases hd:Fw b
 ·rcases V2.1 hd with h|h
  ·go_enter func280,ntmps280;go_wp2;go_ret;exact⟨rfl,rfl⟩
  have a:¬b.toNat<48:=zO;have f:decide ((b.toNat:Int)<=57)=false:=by simp;omega
  go_enter func280,ntmps280;go_wp2;go_ret;exact⟨rfl,rfl⟩
 obtain⟨a,f⟩:=Hi.1 hd;have g:decide ((b.toNat:Int)<=57)=true:=by simp;omega
 go_enter func280,ntmps280;go_wp2;go_ret;exact⟨rfl,rfl⟩
theorem cO{s:ByteArray}(h:s.data.toList≠[109,105,110]):(s.toList == [109,105,110])=false:=by rw[toList_data];simpa using h
theorem xG{s:ByteArray}(h:s.data.toList≠[109,97,120]):(s.toList == [109,97,120])=false:=by rw[toList_data];simpa using h
theorem Ym(s:ByteArray)(w:World)(M:s.size<=9223372036854775807) :
  CP 252 #[.string s] w λe w'=>e=.returned (.bool (AD s.data.toList))∧w=w':=by
 have D:=zH (size_eq s);by_cases a:s.size=0∨24<s.size∨s.data.toList=[109,105,110]∨s.data.toList=[109,97,120]
 ·have t:Hid (AD s.data.toList=false):=by
   cases h:AD s.data.toList
   ·rfl
   obtain⟨x,E,n,v,_⟩:=Ly.1 h;rw[<-D.o]at x E;rcases a with h|h|h|h
   ·omega
   ·omega
   ·exact absurd h n
   exact absurd h v
  by_cases x:s.size=0
  ·have y:((s.size:Int) == 0)=true:=by rw[beq_iff_eq];omega
   clear a x;go_enter func252,ntmps252;go_wp2;go_ret;exact⟨by rw[t.o];rfl,rfl⟩
  have y:((s.size:Int) == 0)=false:=by rw[beq_eq_false_iff_ne];omega
  by_cases E:24<s.size
  ·have z:decide ((24:Int)<(s.size:Int))=true:=by simp;omega
   clear a;go_enter func252,ntmps252;go_wp2;go_ret;exact⟨by rw[t.o];rfl,rfl⟩
  have z:decide ((24:Int)<(s.size:Int))=false:=by simp;omega
  by_cases n:s.data.toList=[109,105,110]
  ·have G:(s.toList == [109,105,110])=true:=by rw[toList_data,n];rfl
   clear a n;go_enter func252,ntmps252;go_wp2;go_ret;exact⟨by rw[t.o];rfl,rfl⟩
  have G:=cO n
  have v:s.data.toList=[109,97,120]:=by
   rcases a with h|h|h|h
   ·exact absurd h x
   ·exact absurd h E
   ·exact absurd h n
   exact h
  have K:(s.toList == [109,97,120])=true:=by rw[toList_data,v];rfl
  clear a n v;go_enter func252,ntmps252;go_wp2;go_ret;exact⟨by rw[t.o];rfl,rfl⟩
 have x:¬s.size=0:=λh=>a (.inl h)
 have E:¬24<s.size:=λh=>a (.inr (.inl h))
 have n:=cO (s:=s) λh=>a (.inr (.inr (.inl h)))
 have v:=xG (s:=s) λh=>a (.inr (.inr (.inr h)))
 have H:=zH a;have y:((s.size:Int) == 0)=false:=by rw[beq_eq_false_iff_ne];omega
 have z:decide ((24:Int)<(s.size:Int))=false:=by simp;omega
 clear a;go_enter func252,ntmps252;go_wp2;clear y z n v
 go_loop [24] (λi=>∃k:Nat,k<=s.size∧i=zi (k:Int)∧Hid (MH s.data.toList k)) (λi=>s.size-(intOf i).toNat)
 case atStart=>exact⟨0,zs3 _,rfl,λj b N=>by omega⟩
 case round=>
  obtain⟨k,O,rfl,r⟩:=hrel;by_cases I:k<s.size
  ·obtain⟨b,J⟩:=zG (s[k]);have B:=NE s k I;rw[J]at B;have q:=zH B;clear B;obtain⟨dg,f⟩:=zG (Fw b);by_cases g:97<=b.toNat∧b.toNat<=122
   ·have p:Hid (Gq (decide (k=0)) b=true):=by simp[Hid,Gq,Pm,g]
    obtain⟨l1,l2⟩:=g;have d1:decide ((97:Int)<=(b.toNat:Int))=true:=by simp;omega
    have d2:decide ((b.toNat:Int)<=122)=true:=by simp;omega
    go_wp2_with(go_at_call 280;go_must((refine(Gi _ _).mono ?_);rintro e w' ⟨rfl,rfl⟩;rw[f]))
    go_round
    case rel=>exact⟨k+1,by omega,by go_num,KI r.out q.o p.o⟩
    case measure=>exact zM
   have m:Pm b=false:=by
    cases h:Pm b
    ·rfl
    exact absurd (by simpa[Pm]using h) g
   have F:decide ((97:Int)<=(b.toNat:Int))=false∨(decide ((97:Int)<=(b.toNat:Int))=true∧decide ((b.toNat:Int)<=122)=false):=by
    by_cases h:97<=b.toNat
    ·exact .inr ⟨by simp;omega,by simp;omega⟩
    exact .inl zQ
   by_cases l:k=0
   ·have p:Hid (AD s.data.toList=false):=Ru q.o (by simp[Gq,m,l]);subst l;clear g m;rcases F with d1|⟨d1,d2⟩
    all_goals
     go_wp2_with(go_at_call 280;go_must((refine(Gi _ _).mono ?_);rintro e w' ⟨rfl,rfl⟩;rw[f]))
     go_ret;exact⟨by rw[p.o];rfl,rfl⟩
   have L:((k:Int) == 0)=false:=by rw[beq_eq_false_iff_ne];omega
   by_cases C:b=95
   ·subst C;have p:Hid (Gq (decide (k=0)) 95=true):=by simp[Hid,Gq,l]
    have u1:(((95:UInt8).toNat:Int) != 95)=false:=rfl;clear g m l;rcases F with d1|⟨d1,d2⟩
    all_goals
     go_wp2_with(go_at_call 280;go_must((refine(Gi _ _).mono ?_);rintro e w' ⟨rfl,rfl⟩;rw[f]))
     go_round
     case rel=>exact⟨k+1,by omega,by go_num,KI r.out q.o p.o⟩
     case measure=>exact zM
   have u1:((b.toNat:Int) != 95)=true:=by
    rw[bne_iff_ne];intro e;exact C (UInt8.toNat_inj.1 (by show b.toNat=95;omega))
   cases dg
   ·have p:Hid (AD s.data.toList=false):=Ru q.o (by simp[Gq,m,f,C]);clear g m l C;rcases F with d1|⟨d1,d2⟩
    all_goals
     go_wp2_with(go_at_call 280;go_must((refine(Gi _ _).mono ?_);rintro e w' ⟨rfl,rfl⟩;rw[f]))
     go_ret;exact⟨by rw[p.o];rfl,rfl⟩
   have p:Hid (Gq (decide (k=0)) b=true):=by simp[Hid,Gq,l,f]
   clear g m l C;rcases F with d1|⟨d1,d2⟩
   all_goals
    go_wp2_with(go_at_call 280;go_must((refine(Gi _ _).mono ?_);rintro e w' ⟨rfl,rfl⟩;rw[f]))
    go_round
    case rel=>exact⟨k+1,by omega,by go_num,KI r.out q.o p.o⟩
    case measure=>exact zM
  obtain rfl:k=s.size:=zO
  have t:Hid (AD s.data.toList=true):=by
   refine Ly.2 ⟨by rw[<-D.o];omega,by rw[<-D.o];omega,λh=>H.o (.inr (.inr (.inl h))),λh=>H.o (.inr (.inr (.inr h))),?_⟩;rw[<-D.o];exact r.out
  go_wp2;go_ret;exact⟨by rw[t.o];rfl,rfl⟩
abbrev Pt:=Int×Int
def Av(p:Pt):Bool:=decide (p.1 < -1048576)||(decide (1048576<p.1)||(decide (p.2 < -1048576)||decide (1048576<p.2)))
def Ao(a b c:Pt):Int:=(b.1-a.1)*(c.2-a.2)-(b.2-a.2)*(c.1-a.1)
def Bb(x:Int):Int:=if x<0 then -1 else if 0<x then 1 else 0
def onP(a b p:Pt):Bool:=decide (Ao a b p=0)&&(decide (min a.1 b.1<=p.1)&&(decide (p.1<=max a.1 b.1)&&(decide (min a.2 b.2<=p.2)&&decide (p.2<=max a.2 b.2))))
def GU(a b c d:Pt):Bool:=decide (Bb (Ao a b c)*Bb (Ao a b d)<0)
def Iu(a b c d:Pt):Bool:=onP a b c||(onP a b d||(onP c d a||(onP c d b||(GU a b c d&&GU c d a b))))
def Ed(a b c:Pt):Bool:=decide (Ao a b c=0)&&decide (0<(a.1-b.1)*(c.1-b.1)+(a.2-b.2)*(c.2-b.2))
def vtx(p:lP)(j:Nat):Pt:=p.getD (j%p.length) (0,0)
def Tu(p:lP)(i:Nat):Bool:=match p[i]? with|some x=>!(decide (x∈p.take i))|none=>true
def Tv(p:lP)(i k:Nat):Bool:=!(decide (i+2<=k)&&(decide ((k+1)%p.length≠i)&&Iu (vtx p i) (vtx p (i+1)) (vtx p k) (vtx p (k+1))))
def BZ(p:lP):Bool:=
 (List.range p.length).all (Tu p)&&(List.range p.length).all λi=>!Ed (vtx p i) (vtx p (i+1)) (vtx p (i+2))&&(List.range p.length).all (Tv p i)
def An(p:lP):Int:=
 if 40<p.length then 5 else if p.length<3 then 11 else if p.any Av=true then 3 else if BZ p=false then 11 else 0
def Lz(l:lP)(i:Nat):Bool:=decide (l[i]?=l[i+1]?)
def AK(l:lP):Int:=
 if 40<l.length then 5 else if l.length<2 then 11 else if l.any Av=true then 3 else if (List.range (l.length-1)).any (Lz l)=true then 11 else 0
def Ei(n x:Nat):Nat:=if (x+n/x)/2<x then Ei n ((x+n/x)/2)else x
termination_by x
def Bn:Nat->Nat
 | 0=>0
 | n+1=>Bn ((n+1)/2)+1
decreasing_by omega
def CU(n:Nat):Nat:=if n<2 then n else Ei n (2^((Bn n+1)/2))
def LB(p q:Pt):Nat:=CU (1000000*((q.1-p.1)*(q.1-p.1)+(q.2-p.2)*(q.2-p.2))).toNat
def Th(l:lP)(i:Nat):Nat:=LB (l.getD i (0,0)) (l.getD (i+1) (0,0))
def Hj(l:lP):Nat->Nat
 | 0=>0
 | i+1=>Hj l i+Th l i
def Dc(l:lP):Nat:=Hj l (l.length-1)
def Dz(x:ByteArray)(l:List ByteArray):Bool:=decide (x.data.toList∈l.map λy:ByteArray=>y.data.toList)
structure As where
 name:ByteArray
 line:List Pt
def Dt(l:List As)(i:Nat):Int:=
 match l[i]? with
 | none=>0
 | some e=>if AD e.name.data.toList=false then 1 else if Dz e.name ((l.take i).map (·.name))=true then 7 else AK e.line
def Cj:List Int->Int
 | []=>0
 | e::es=>if e≠0 then e else Cj es
def IK(l:List As)(i:Nat):Bool:=
 decide ((l.getD i ⟨ByteArray.empty,[]⟩).line.getLast?=(l.getD ((i+1)%l.length) ⟨ByteArray.empty,[]⟩).line.head?)
def AL(l:List As):List Pt:=l.flatMap λe=>e.line.dropLast
def Aq(l:List As):Int:=
 if 16<l.length then 5 else if l.length<2 then 11 else if Cj ((List.range l.length).map (Dt l))≠0 then Cj ((List.range l.length).map (Dt l))
 else if (List.range l.length).all (IK l)=false then 11 else An (AL l)
theorem MI:∀{es:List Int}{i:Nat}{e:Int},(∀j x,j<i->es[j]?=some x->x=0)->es[i]?=some e->e≠0->Cj es=e
 | [],i,e,_,h,_=>by simp at h
 | x::es,0,e,_,h,h0=>by
  obtain rfl:x=e:=by simpa using h
  rw[Cj,if_pos h0]
 | x::es,i+1,e,hz,h,h0=>by
  have a:x=0:=hz 0 x zO rfl;rw[Cj,if_neg (by simp[a])];exact MI (λj y b f=>hz (j+1) y (Nat.succ_lt_succ b) (by simpa using f)) (by simpa using h) h0
theorem KJ:∀{es:List Int},(∀(j:Nat)(x:Int),es[j]?=some x->x=0)->Cj es=0
 | [],_=>rfl
 | x::es,h=>by
  rw[Cj,if_neg (by simp[h 0 x rfl])];exact KJ λj y a=>h (j+1) y (by simpa using a)
section
variable{p:lP}
theorem IM{f:Nat->Bool}(hi:i<n)(h:f i=false):(List.range n).all f=false:=by
 rw[List.all_eq_false];exact⟨i,zt8.2 hi,by simp[h]⟩
theorem LE{f:Nat->Bool}(h:∀i,i<n->f i=true):(List.range n).all f=true:=by
 rw[List.all_eq_true];intro i hi;exact h i (zt8.1 hi)
theorem JL{a:Pt}(b:p[i]?=some a)(h:a∈p.take i):BZ p=false:=by
 have hi:=(zq1.1 b).1;unfold BZ;rw[IM hi (by rw[Tu,b];simpa using h)];rfl
theorem N7(hi:i<p.length)(h:Ed (vtx p i) (vtx p (i+1)) (vtx p (i+2))=true):BZ p=false:=by
 unfold BZ;rw[Bool.and_eq_false_iff];right;exact IM hi (by rw[h];rfl)
theorem V5(hi:i<p.length)(a:k<p.length)(b:i+2<=k)(e:(k+1)%p.length≠i)(h:Iu (vtx p i) (vtx p (i+1)) (vtx p k) (vtx p (k+1))=true):BZ p=false:=by
 unfold BZ;rw[Bool.and_eq_false_iff];right;refine IM hi ?_;rw[Bool.and_eq_false_iff];right;refine IM a ?_;unfold Tv;simp[b,e,h]
theorem Yr(b:∀i a,p[i]?=some a->a∉p.take i)(e:∀i,i<p.length->Ed (vtx p i) (vtx p (i+1)) (vtx p (i+2))=false)
  (f:∀i k,i<p.length->k<p.length->i+2<=k->(k+1)%p.length≠i->Iu (vtx p i) (vtx p (i+1)) (vtx p k) (vtx p (k+1))=false):BZ p=true:=by
 unfold BZ;rw[Bool.and_eq_true];refine⟨LE λi hi=>?_,LE λi hi=>?_⟩
 ·rw[Tu,zq0 hi];simpa using b i _ (zq0 hi)
 rw[e i hi,Bool.not_false,Bool.true_and];refine LE λk g=>?_
 unfold Tv;by_cases a1:i+2<=k
 ·by_cases a2:(k+1)%p.length≠i
  ·simp[f i k hi g a1 a2]
  simp[a2]
 simp[a1]
theorem xH{a:Pt}(h:p[j%p.length]?=some a):vtx p j=a:=by
 rw[vtx,zq3,h];rfl
theorem TC(h:j<p.length):p[j]?=some (vtx p j):=by
 rw[vtx,Nat.mod_eq_of_lt h,zq3,zq0 h];rfl
end
def inG(p:Pt):Prop:=-1048576<=p.1∧p.1<=1048576∧-1048576<=p.2∧p.2<=1048576
theorem DZ{p:Pt}:Av p=false↔inG p:=by
 unfold Av inG;simp
theorem FE{x:Int}{b:Nat}(e : -(a:Int)<=x∧x<=a)(f : -(b:Int)<=y∧y<=b) : -((a*b:Nat):Int)<=x*y∧x*y<=((a*b:Nat):Int):=by
 have h:(x*y).natAbs<=a*b:=by
  rw[Int.natAbs_mul];exact Nat.mul_le_mul zO zO
 omega
theorem OJ{a b c:Pt}(e:inG a)(f:inG b)(g:inG c):(-4398046511104<=(b.1-a.1)*(c.2-a.2)∧(b.1-a.1)*(c.2-a.2)<=4398046511104)∧(-4398046511104<=(b.2-a.2)*(c.1-a.1)∧(b.2-a.2)*(c.1-a.1)<=4398046511104):=by
 obtain⟨a1,a2,a3,a4⟩:=e;obtain⟨b1,b2,b3,b4⟩:=f;obtain⟨c1,c2,c3,c4⟩:=g;exact⟨FE (a:=2097152) (b:=2097152) ⟨by omega,by omega⟩ ⟨by omega,by omega⟩,FE (a:=2097152) (b:=2097152) ⟨by omega,by omega⟩ ⟨by omega,by omega⟩⟩
section
variable{l:lP}
theorem cU(h:40<l.length):AK l=5:=by rw[AK,if_pos h]
theorem Ys(h:¬40<l.length)(a:l.length<2):AK l=11:=by rw[AK,if_neg h,if_pos a]
theorem mO(h:¬40<l.length)(a:¬l.length<2)(b:l.any Av=true):AK l=3:=by rw[AK,if_neg h,if_neg a,if_pos b]
theorem cV(h:¬40<l.length)(a:¬l.length<2)(b:l.any Av=false)(hi:i+1<l.length)(e:l[i]?=l[i+1]?):AK l=11:=by
 rw[AK,if_neg h,if_neg a,if_neg (by simp[b]),if_pos];rw[List.any_eq_true];exact⟨i,zt8.2 zO,by rw[Lz];simpa using e⟩
theorem tG(h:¬40<l.length)(b:¬l.length<2)(e:l.any Av=false)(f:∀i,i+1<l.length->l[i]?≠l[i+1]?):AK l=0:=by
 rw[AK,if_neg h,if_neg b,if_neg (by simp[e]),if_neg];rw[List.any_eq_true];rintro⟨i,hi,a⟩;rw[zt8]at hi;rw[Lz]at a;exact f i zO (by simpa using a)
theorem CB(h:AK l=0):l.length<=40∧2<=l.length∧(∀p∈l,inG p)∧∀i,i+1<l.length->l[i]?≠l[i+1]?:=by
 unfold AK at h;split at h
 ·cases h
 split at h
 ·cases h
 split at h
 ·cases h
 split at h
 ·cases h
 rename_i a b c d;refine⟨by omega,by omega,λp f=>?_,λi hi e=>?_⟩
 ·rw[<-DZ]
  cases ho:Av p
  ·rfl
  exact absurd (List.any_eq_true.2 ⟨p,f,ho⟩) c
 exact d (List.any_eq_true.2 ⟨i,zt8.2 zO,by rw[Lz];simpa using e⟩)
theorem cW:ps.any Av=false↔∀(j:Nat)(p:Pt),ps[j]?=some p->Av p=false:=by
 rw[List.any_eq_false];constructor
 ·intro h j p a;simpa using h p (zq2 a)
 intro h p a;obtain⟨j,b⟩:=List.getElem?_of_mem a;simpa using h j p b
end
theorem LF:(prog.info? 261).map (λi=>(i.zero,i.size,i.bytes))=some (some (.int .u32 0),1,4):=zk
theorem mR:(prog.info? 261).map (·.size)=some 1:=zk
theorem mS(l:List Nat):∀v∈AC l,v.oneCell'=true:=by
 intro v a;simp only[AC,zr2]at a;obtain⟨x,_,rfl⟩:=a;rfl
theorem Sl.of_block(h:w.heap[g]?=some (.cells xs.toArray t (0,0)))(a:xs.length=n):Sl w w.heap.size (sa g 0) n xs:=by
 refine⟨a,λ_=>⟨g,0,rfl,(Array.getElem?_eq_some_iff.1 h).1,λj u b=>?_⟩⟩;rw[cell_of_row _ g (0+j) _ t (0,0) h,Nat.zero_add];simpa using b
def sN(v:Nat)(w:World)(e:Ending)(w':World):Prop:=
 ∃g n,e=.returned (.slice (sa g 0) n n)∧w.heap.size<=g∧Sl w' w'.heap.size (sa g 0) n (AC (Aj v))∧Bw w w'
theorem mT(g:Sl w w.heap.size A L.length (AC L)) :
  0<(AC L).length->(some (⟨w.heap.size,0,none⟩:Addr))=some ⟨w.heap.size,0,none⟩∧∃ad,A=some ad∧∀j v,(AC L)[j]?=some v->(zw w (madeCells #[Value.int .u32 0] L.length) 261).cell? (ad.add j)=some v:=λi=>by
 obtain⟨b,f,e,k,a⟩:=g.2 (by rw[<-FD];exact i);refine⟨rfl,⟨b,f,none⟩,e,λj v l=>?_⟩;rw[Go.WideShapes.add_plain,World.cell?_alloc_lt _ _ _ k];exact a j v l
theorem TD(A:oA)(n c:Nat)(l:List Nat)(w:World)(a:Sl w w.heap.size A n (AC l))(b:okL l)(p:n<=c)(v:n<=1000000) :
  CP 283 #[.slice A n c] w (sN (val l) w):=by
 obtain⟨x,g⟩:=a.trimmed b;generalize i:Aj (val l)=L at *
 have s:=λW=>run_make_row' (P:=prog) 213 261 (.int .u32 0) 4 underlying213 LF rfl .i64 .i64 L.length zO zO W
 have j:=zH i;clear i;have k:=zH (zu2 a b);clear a b;have q:=zH g
 have r:Hid ((zw w (madeCells #[Value.int .u32 0] L.length) 261).heap[w.heap.size]?=some (.cells (List.replicate L.length (Value.int .u32 0)).toArray 261 (0,0))):=by
  rw[heap_alloc_new,<-toList_madeCells_one];exact rfl
 clear g;go_enter func283,ntmps283;go_wp2_with(first|(go_at_call 281;refine(OG _ _ _ _ _ k.o.1 k.o.2 p zO).mono ?_;rintro e w' ⟨rfl,rfl⟩;rw[j.o])|((refine wpList_copy_splice rfl (.tmp 9) (.tmp 10) _ _ rfl 261 underlying213 mR (sa w.heap.size 0) A L.length L.length L.length _ rfl rfl w.heap.size 0 (List.replicate L.length (Value.int .u32 0)) 261 r.o (AC L) (by rw[FD];exact(Nat.min_self _).symm) (mT q.o) (by simp[FD]) (mS L) w.heap.size w (zA _) (zs2 _) ?_);intro w2 f m))
 go_ret;refine⟨w.heap.size,L.length,rfl,zs2 _,?_,m⟩;rw[j.o];refine Sl.of_block (t:=261) ?_ (FD L);rw[f.out];simp[splice,FD]
structure Std(w:World):Prop where
 max:∃m,w.cell? (ad 0 0)=some (zi m)
 b1:0<w.heap.size
 b2:1<w.heap.size
 pow : TabIs prog w "internal/strconv.uint64pow10" .u64 pow10Tab
theorem Std.drewN(h:Std w)(k:Nat):Std (w.drewN k):=⟨h.max,h.b1,h.b2,h.pow⟩
theorem Std.drew(h:Std w):Std w.drew:=⟨h.max,h.b1,h.b2,h.pow⟩
theorem Std.below(h:Std w)(a:Bw w w'):Std w':=by
 obtain⟨⟨m,f⟩,b,e,g⟩:=h;refine⟨⟨m,(a.cell b).trans f⟩,zs1 b a.size,zs1 e a.size,?_⟩;exact var?_below a zk e g
end Go.Proofs.YteafekbddckemaaGreatDoor
