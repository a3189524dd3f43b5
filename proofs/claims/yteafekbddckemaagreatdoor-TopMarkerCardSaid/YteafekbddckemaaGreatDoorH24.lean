/- Parts of the proof. -/
import Derived.Test.YteafekbddckemaaGreatDoorH23
set_option maxRecDepth 100000
set_option maxHeartbeats 40000000
namespace Go.Proofs.YteafekbddckemaaGreatDoor
open Tryz Go.RowKit
open Go.Lib hiding intOf
variable{A:oA}{a b l:lP}{g j k n off q:Nat}{p:Pt}{w w':World}{z:Int}{α β:Type}
def Es:List Pt->List Pt->Int
 | [],[]=>0
 | [],_::_=>-1
 | _::_,[]=>1
 | a::l,b::m=>if CG a b=0 then Es l m else CG a b
theorem Nh(h:l[k]?=some p):l.drop k=p::l.drop (k+1):=by
 obtain⟨a,b⟩:=zq1.1 h;rw[List.drop_eq_getElem_cons a,b]
theorem UG(A B:oA)(n c m d:Nat)(l1 l2:lP)(w:World)(x:Ab 2 Ad w A n l1)(y:Ab 2 Ad w B m l2)(T:n<=1000000) :
  CP 231 #[.slice A n c,.slice B m d,.func (.func 185) #[] #[]] w λe w'=>e=.returned (zi (Es l1 l2))∧Gr w w':=by
 have H:=zH x;have I:=zH y;have J:=zH Q7.calls;have eg:=Q7.enters;have N:=x.len;have O:=y.len;clear x y;go_enter func231,ntmps231
 go_wp2_with fail
 go_loopw[7,8,9,10,13,14,15,16,17,18,19,20,21,22,23,24,25,26,27,28,29,30,31,32,33] (λ_ _ _ _ i _ _ _ _ _ _ _ _ _ _ _ _ _ _ _ _ _ _ _ _ wr=>∃k:Nat,k<=n∧k<=m∧i=zi (k:Int)∧Hid (Es l1 l2=Es (l1.drop k) (l2.drop k))∧Hid (Gr w wr)) (λ_ _ _ _ i _ _ _ _ _ _ _ _ _ _ _ _ _ _ _ _ _ _ _ _ _=>n-(intOf i).toNat)
 case atStart=>exact⟨0,zs3 _,zs3 _,rfl,zH rfl,zH (Gr.refl _)⟩
 case round=>
  obtain⟨k,U,P,rfl,f,b⟩:=hrel;by_cases D:k<n
  ·obtain⟨b1,Q,p,rfl,R,E,d0,d1⟩:=Ap (H.o.on Aa b.o.below) D;have C:=zH (Nh E);obtain⟨i1,i2⟩:=zI (k:=k) (n:=n) (by omega);have F:Hid (Gr w (zw wr #[zi p.1,zi p.2] 56)):=zH (b.o.alloc _);clear E;by_cases g:k<m
   ·obtain⟨b2,K,q,rfl,L,j,d2,d3⟩:=Ap (I.o.on Aa b.o.below) g;have G:=zH (Nh j);have i3:(k:Int)<(m:Int):=zO;have i3':¬(m:Int)<=(k:Int):=zO;have M:b2<wr.heap.size+1:=zO;have v:Hid (∀o2,Gr w ((zw wr #[zi p.1,zi p.2] 56).alloc o2)):=zH (λo2=>(b.o.alloc _).alloc o2);have l:=zH (λW=>J.o p q W);clear j;by_cases r:CG p q=0
    ·have a:Hid (Es l1 l2=Es (l1.drop (k+1)) (l2.drop (k+1))):=zH (by rw[f.o,C.o,G.o,Es,if_pos r]);rw[r]at l;clear r;go_wp2_with(go_at_call 185;refine(l.o _).mono ?_;rintro e w9 ⟨rfl,s⟩;have t:=zH ((v.o _).trans s);clear s)
     go_roundw
     case rel=>exact⟨k+1,by omega,by omega,by go_num,a,t⟩
     case measure=>exact zM
    have a:Hid (Es l1 l2=CG p q):=zH (by rw[f.o,C.o,G.o,Es,if_neg r]);generalize CG p q=z at *
    have S:(z != 0)=true:=by simpa using r
    go_wp2_with(go_at_call 185;refine(l.o _).mono ?_;rintro e w9 ⟨rfl,s⟩;have t:=zH ((v.o _).trans s);clear s)
    go_ret;exact⟨by rw[a.o];rfl,t.o⟩
   have i3:(m:Int)<=(k:Int):=zO;have a:Hid (Es l1 l2=1):=zH (by rw[f.o,C.o,zr6 (show l2.length<=k by omega)];rfl)
   go_wp2_with fail
   go_ret;exact⟨by rw[a.o];rfl,F.o⟩
  obtain rfl:k=n:=zO;by_cases g:k<m
  ·obtain⟨q,j⟩:∃q,l2[k]?=some q:=⟨_,zq0 zO⟩;have a:Hid (Es l1 l2 = -1):=zH (by rw[f.o,Nh j,zr6 (show l1.length<=k by omega)];rfl);have i3:(k:Int)<(m:Int):=zO;clear j
   go_wp2_with fail
   go_ret;exact⟨by rw[a.o];rfl,b.o⟩
  have a:Hid (Es l1 l2=0):=zH (by rw[f.o,zr6 (show l1.length<=k by omega),zr6 (show l2.length<=k by omega)];rfl);have i3:¬(k:Int)<(m:Int):=zO
  go_wp2_with fail
  go_ret;exact⟨by rw[a.o];rfl,b.o⟩
theorem ZS(A B:oA)(n c m d:Nat)(l1 l2:lP)(w:World)(j:Ab 2 Ad w A n l1)(l:Ab 2 Ad w B m l2)(L:n<=1000000)(M:m<=1000000) :
  CP 234 #[.slice A n c,.slice B m d] w λe w'=>e=.returned (.bool (decide (l1=l2)))∧Gr w w':=by
 have E:=zH j;have F:=zH l;have q:=j.len;have s:=l.len;clear j l;by_cases f:n=m
 ·subst f;go_enter func234,ntmps234
  go_wp2_with fail
  go_loopw[5,13,14,15,16,17,18,19,20,21,22,23,24,25] (λ_ i _ _ _ _ _ _ _ _ _ _ _ _ wr=>∃k:Nat,k<=n∧i=zi (k:Int)∧Hid (l1.take k=l2.take k)∧Hid (Gr w wr)) (λ_ i _ _ _ _ _ _ _ _ _ _ _ _ _=>n-(intOf i).toNat)
  case atStart=>exact⟨0,zs3 _,rfl,zH rfl,zH (Gr.refl _)⟩
  case round=>
   obtain⟨k,N,rfl,t,a⟩:=hrel;by_cases g:k<n
   ·obtain⟨b1,J,p,rfl,K,v,d0,d1⟩:=Ap (E.o.on Aa a.o.below) g;obtain⟨b2,G,r,rfl,H,x,d2,d3⟩:=Ap (F.o.on Aa a.o.below) g;have y:=zH v;have z:=zH x;have C:=λW=>CL p r W
    obtain⟨i1,i2⟩:=zI (k:=k) (n:=n) (by omega);clear v x;by_cases e:p=r
    ·simp only[zu1 e]at C;have b:Hid (l1.take (k+1)=l2.take (k+1)):=zH (by rw[List.take_add_one,List.take_add_one,t.o,y.o,z.o,e]);clear e
     go_wp2_with fail
     go_quiet (fail)
     go_wp2_with fail
     go_roundw
     case rel=>exact⟨k+1,by omega,by go_num,b,zH (a.o.drewN _)⟩
     case measure=>exact zM
    simp only[zu0 e]at C;have b:Hid (decide (l1=l2)=false):=zH (zu0 (λh=>e (by have D:=y.o;rw[h,z.o]at D;exact(zs6 D).symm)));clear e
    go_wp2_with fail
    go_quiet (fail)
    go_wp2_with fail
    go_ret;exact⟨by rw[b.o];rfl,a.o.drewN _⟩
   obtain rfl:k=n:=zO;have b:Hid (decide (l1=l2)=true):=zH (zu1 (by have:=t.o;rwa[zq4 zO,zq4 zO]at this))
   go_wp2_with fail
   go_ret;exact⟨by rw[b.o];rfl,a.o⟩
 have b:Hid (decide (l1=l2)=false):=zH (zu0 (λh=>f (by rw[<-q,<-s,h])));have I:¬(n:Int)=(m:Int):=zO;go_enter func234,ntmps234
 go_wp2_with fail
 go_ret;exact⟨by rw[b.o];rfl,Gr.refl _⟩
section
open Go.Sort
abbrev PL:=List Pt
def GO(l:List PL):List PL:=l.foldr Hm []
theorem Mb:∀x:PL,Cr x x=false
 | []=>rfl
 | a::l=>by
  unfold Cr;rw[if_pos rfl];exact Mb l
theorem JE:∀{x y z:PL},Cr x y=true->Cr y z=true->Cr x z=true
 | [],[],_,h,_=>by simp[Cr]at h
 | [],_::_,[],_,h=>by simp[Cr]at h
 | [],_::_,_::_,_,_=>rfl
 | _::_,[],_,h,_=>by simp[Cr]at h
 | _::_,_::_,[],_,h=>by simp[Cr]at h
 | a::l,b::m,c::n,h1,h2=>by
  unfold Cr at h1 h2⊢
  by_cases e1:a=b
  ·subst e1;rw[if_pos rfl]at h1;by_cases e2:a=c
   ·rw[if_pos e2]at h2⊢
    exact JE h1 h2
   rw[if_neg e2]at h2⊢
   exact h2
  rw[if_neg e1]at h1;by_cases e2:b=c
  ·subst e2;rw[if_neg e1];exact h1
  rw[if_neg e2]at h2;have f:=Rc h1 h2
  have e3:a≠c:=λe=>by
   subst e;rw[O4]at f
   cases f
  rw[if_neg e3];exact f
theorem J6:∀{x y:PL},x≠y->Cr x y=false->Cr y x=true
 | [],[],h,_=>absurd rfl h
 | [],_::_,_,h=>by simp[Cr]at h
 | _::_,[],_,_=>rfl
 | a::l,b::m,h,h2=>by
  unfold Cr at h2⊢
  by_cases e:a=b
  ·subst e;rw[if_pos rfl]at h2⊢
   exact J6 (λq=>h (by rw[q])) h2
  rw[if_neg e]at h2;rw[if_neg (λq=>e q.symm)];exact L8 e h2
theorem vB{x y z:PL}(a:Cr x y=true)(b:Cr z y=false):Cr x z=true:=by
 by_cases e:z=y
 ·rw[e];exact a
 exact JE a (J6 e b)
theorem J7:∀x y:PL,Go.Proofs.ltOf Es x y=Cr x y
 | [],[]=>rfl
 | [],_::_=>rfl
 | _::_,[]=>rfl
 | a::l,b::m=>by
  have ih:=J7 l m;have g:=IX a b;have i:=IX b a;unfold Go.Proofs.ltOf at ih g i⊢
  unfold Es Cr;by_cases e:a=b
  ·subst e;have f:CG a a=0:=by simp[CG,orL,Lib.compareInt]
   rw[if_pos f,if_pos rfl];exact ih
  have f:CG a b≠0:=λf=>e (gB a b (by unfold Go.Proofs.ltOf;rw[f];rfl) (by
    rw[IX];rw[f]at g;by_cases q:CF b a=true
    ·exfalso;have:CF a b=false:=g.symm;rw[Gc]at this;rw[GL]at q;unfold CG orL Lib.compareInt at f;by_cases r1:b.1<a.1
     ·have:¬a.1<b.1:=zO;simp[this,r1]at f
     have e1:a.1=b.1:=zO;have e2:b.2<a.2:=zO;have:¬a.2<b.2:=zO;simp[e1,this,e2]at f
    simpa using q))
  rw[if_neg f,if_neg e];exact g
theorem UH:SWO (Go.Proofs.ltOf Es) where
 irrefl x:=by rw[J7];exact Mb x
 trans x y z h1 h2:=by rw[J7]at *;exact JE h1 h2
 ntrans x y z h1 h2:=by
  rw[J7]at *
  by_cases e:x=y
  ·rw[e];exact h2
  cases h:Cr x z with
  | false=>rfl
  | true=>rw[JE (J6 e h1) h]at h2;cases h2
def BI:List PL->List PL
 | a::b::r=>if a=b then BI (b::r)else a::BI (b::r)
 | r=>r
theorem Jq(x y:PL):∀xs:List PL,BI (xs++[x,y])=if x=y then BI (xs++[x])else BI (xs++[x])++[y]
 | []=>by
  by_cases h:x=y
  ·subst h;simp[BI]
  simp[BI,h]
 | [a]=>by
  have:=Jq x y [];simp only[List.nil_append]at this;show BI (a::x :: [y])=_;rw[BI,this];show _=if x=y then BI (a::x :: [])else BI (a::x :: [])++[y]
  rw[BI];by_cases e:a=x
  ·simp only[e,if_true]
  simp only[e,if_false];split <;> simp
 | a::b::r=>by
  have:=Jq x y (b::r);simp only[List.cons_append]at this⊢
  rw[BI,this,BI];by_cases e:a=b
  ·simp only[e,if_true]
  simp only[e,if_false];split <;> simp
theorem Sh{l:List PL}{x y:PL}(e:1<=q)(a:l[q-1]?=some x)(b:l[q]?=some y):l.take (q+1)=l.take (q-1)++[x,y]∧l.take q=l.take (q-1)++[x]:=by
 have e2:l.take q=l.take (q-1)++[x]:=by
  have:l.take (q-1+1)=l.take (q-1)++(l[q-1]?).toList:=List.take_add_one;rw[show q-1+1=q by omega,a]at this;exact this
 refine⟨?_,e2⟩;rw[List.take_add_one,e2,b];simp
theorem UI{l:List PL}{x:PL}(a:1<=q)(b:l[q-1]?=some x)(e:l[q]?=some x):BI (l.take (q+1))=BI (l.take q):=by
 obtain⟨e1,e2⟩:=Sh a b e;rw[e1,e2,Jq,if_pos rfl]
theorem UJ{l:List PL}{x y:PL}(b:1<=q)(e:l[q-1]?=some x)(f:l[q]?=some y)(a:x≠y):BI (l.take (q+1))=BI (l.take q)++[y]:=by
 obtain⟨e1,e2⟩:=Sh b e f;rw[e1,e2,Jq,if_neg a]
theorem O6(x:PL):∀{l:List PL}{q:PL},q∈Hm x l↔q=x∨q∈l
 | [],q=>by simp[Hm]
 | y::l,q=>by
  unfold Hm;by_cases h:x=y
  ·rw[if_pos h];subst h;simp
  rw[if_neg h];split
  ·simp
  rw[zr3,O6 x,zr3];constructor
  ·rintro(h|h|h)
   ·exact .inr (.inl h)
   ·exact .inl h
   exact .inr (.inr h)
  rintro(h|h|h)
  ·exact .inr (.inl h)
  ·exact .inl h
  exact .inr (.inr h)
theorem On(x:PL):∀{l:List PL},l.Pairwise (λa b=>Cr a b=true)->(Hm x l).Pairwise (λa b=>Cr a b=true)
 | [],_=>by simp[Hm]
 | y::l,h=>by
  unfold Hm;obtain⟨i,j⟩:=List.pairwise_cons.1 h;by_cases e:x=y
  ·rw[if_pos e];exact h
  rw[if_neg e];split
  ·rename_i g;refine List.pairwise_cons.2 ⟨λb f=>?_,h⟩;rcases zr3.1 f with rfl|f
   ·exact g
   exact JE g (i b f)
  rename_i g;refine List.pairwise_cons.2 ⟨λb f=>?_,On x j⟩;rcases(O6 x).1 f with rfl|f
  ·exact J6 e (by simpa using g)
  exact i b f
theorem UK{l:List PL}{q:PL}:q∈GO l↔q∈l:=by
 induction l with
 | nil=>simp[GO]
 | cons x l ih=>
  show q∈Hm x (GO l)↔_;rw[O6,ih,zr3]
theorem WP(l:List PL):(GO l).Pairwise (λa b=>Cr a b=true):=by
 induction l with
 | nil=>simp[GO]
 | cons x l ih=>exact On x ih
theorem Qg:∀{l m:List PL},l.Pairwise (λa b=>Cr a b=true)->m.Pairwise (λa b=>Cr a b=true)->(∀q,q∈l↔q∈m)->l=m
 | [],[],_,_,_=>rfl
 | [],b::m,_,_,h=>by have:=(h b).2 zP;simp at this
 | a::l,[],_,_,h=>by have:=(h a).1 zP;simp at this
 | a::l,b::m,h1,h2,h=>by
  obtain⟨p1,q1⟩:=List.pairwise_cons.1 h1;obtain⟨p2,q2⟩:=List.pairwise_cons.1 h2
  have e:a=b:=by
   rcases zr3.1 ((h a).1 zP)with e|j
   ·exact e
   rcases zr3.1 ((h b).2 zP)with e|n
   ·exact e.symm
   have:=JE (p1 b n) (p2 a j);rw[Mb]at this
   cases this
  subst e;rw[Qg q1 q2 λq=>?_]
  have i:∀{k:List PL},(∀b∈k,Cr a b=true)->a∉k:=λo f=>by
   have:=o a f;rw[Mb]at this
   cases this
  constructor
  ·intro g;rcases zr3.1 ((h q).1 (List.mem_cons_of_mem _ g))with e|f
   ·subst e;exact absurd g (i p1)
   exact f
  intro g;rcases zr3.1 ((h q).2 (List.mem_cons_of_mem _ g))with e|f
  ·subst e;exact absurd g (i p2)
  exact f
theorem Ni{q:PL}:∀{l:List PL},q∈BI l↔q∈l
 | []=>by simp[BI]
 | [a]=>by simp[BI]
 | a::b::r=>by
  have ih:=Ni (q:=q) (l:=b::r);rw[BI];by_cases h:a=b
  ·rw[if_pos h,ih];subst h;simp
  rw[if_neg h,zr3,ih,zr3 (a:=q) (b:=a)]
theorem Nj:∀{l:List PL},l.Pairwise (λx y=>(!Cr y x)=true)->(BI l).Pairwise (λa b=>Cr a b=true)
 | [],_=>by simp[BI]
 | [a],_=>by simp[BI]
 | a::b::r,h=>by
  obtain⟨k,i⟩:=List.pairwise_cons.1 h;obtain⟨m,_⟩:=List.pairwise_cons.1 i;have ih:=Nj i;rw[BI];by_cases e:a=b
  ·rw[if_pos e];exact ih
  rw[if_neg e];refine List.pairwise_cons.2 ⟨λq g=>?_,ih⟩;have f:Cr a b=true:=J6 (λq=>e q.symm) (by simpa using k b zP);rcases zr3.1 (Ni.1 g)with rfl|g
  ·exact f
  have j:Cr q b=false:=by simpa using m q g
  exact vB f j
theorem UL{l m:List PL}(h:m.Pairwise (λx y=>(!Cr y x)=true))(a:∀q,q∈m↔q∈l):BI m=GO l:=Qg (Nj h) (WP l) λq=>by rw[Ni,a,UK]
end
section
open Go.Sort
theorem pR(A B:oA)(n c m d:Nat)(l1 l2:lP)(w:World)(a:Ab 2 Ad w A n l1)(b:Ab 2 Ad w B m l2)(g:n<=1000000) :
  CP 230 #[.slice A n c,.slice B m d] w λe w'=>e=.returned (zi (Es l1 l2))∧Gr w w':=by
 have i:=zH (UG A B n c m d l1 l2 w a b g);clear a b;go_enter func230,ntmps230;go_wp2_with(go_at_call 231;refine i.o.mono ?_;rintro e w1 ⟨rfl,f⟩;have j:=zH f;clear f)
 go_ret;exact⟨rfl,j.o⟩
theorem pS(A B:oA)(n c m d:Nat)(l1 l2:lP)(w:World)(a:Ab 2 Ad w A n l1)(b:Ab 2 Ad w B m l2)(g:n<=1000000)(i:m<=1000000) :
  CP 233 #[.slice A n c,.slice B m d] w λe w'=>e=.returned (.bool (decide (l1=l2)))∧Gr w w':=by
 have j:=zH (ZS A B n c m d l1 l2 w a b g i);clear a b;go_enter func233,ntmps233;go_wp2_with(go_at_call 234;refine j.o.mono ?_;rintro e w1 ⟨rfl,f⟩;have k:=zH f;clear f)
 go_ret;exact⟨rfl,k.o⟩
def PlV(w:World)(g:Nat)(x:Value×PL):Prop:=∃A n c,x.1=.slice A n c∧Ab 2 Ad w A n x.2∧n<=c∧n<=1000000∧∀b a,A=some ⟨b,a,none⟩->b≠g
theorem Qh{r:Option Nat}(h:Ab 2 Ad w A n l)(g:w.grownBy w' r)(m:∀b e,A=some ⟨b,e,none⟩->some b≠r):Ab 2 Ad w' A n l:=by
 refine⟨h.1,λo=>?_⟩;obtain⟨b,e,f,k,p⟩:=h.2 o;refine⟨b,e,f,zs1 k g.size,λj x q=>?_⟩;obtain⟨vs,s,t⟩:=p j x q;exact⟨vs,s,λi u v=>(World.cell?_of_block (a:=⟨b,e+j*2+i,none⟩) (g.block b k (m b e f))).trans (t i u v)⟩
theorem PlV.grown{x:Value×PL}(h:PlV w g x)(i:w.grownBy w' (some g)):PlV w' g x:=by
 obtain⟨A,n,c,j,k,l,m,a⟩:=h;exact⟨A,n,c,j,Qh k i (λb f e q=>a b f e (by injection q)),l,m,a⟩
theorem PlV.below{x:Value×PL}(h:PlV w g x)(a:Bw w w'):PlV w' g x:=by
 obtain⟨A,n,c,b,e,f,i,j⟩:=h;exact⟨A,n,c,b,e.on Aa a,f,i,j⟩
structure HPl(w:World)(g off:Nat)(xs:List (Value×PL)):Prop where
 cells:∀(j:Nat)(x:Value×PL),xs[j]?=some x->w.cell? (ad g (off+j))=some x.1∧w.frozen? (ad g (off+j))=false
 lt:g<w.heap.size
 val:∀x∈xs,PlV w g x
theorem ZT(enc : α->Value)(w:World)(n g a:Nat)(F:Array α)[Inhabited α]:w.grownBy (putRow enc (Go.Sort.ahead w n) g a F) (some g):=by
 refine⟨rfl,rfl,rfl,by simp[putRow,mapBlock],λk i b=>?_⟩;have f:g≠k:=λe=>b (by rw[e])
 show((Go.Sort.ahead w n).heap.modify g _)[k]?=w.heap[k]?;rw[Array.getElem?_modify,if_neg f];rfl
theorem iE{P : β->Prop}(xs:List β)(h:∀x∈xs,P x):∃ds:List { x // P x },ds.map (λx=>x.1)=xs:=⟨xs.attachWith P h,by simp⟩
theorem iF(g a c n:Nat)(xs:List (Value×PL))(w:World)(h:HPl w g a xs)(L:xs.length=n)(T:0<n)(U:n<=1000000) :
  CP 229 #[.slice (sa g a) n c,.func (.func 230) #[] #[]] w λe w'=>e=.returned (.tuple #[])∧∃ys:List (Value×PL),ys.Perm xs∧(ys.map (·.2)).Pairwise (λx y=>(!Cr y x)=true)∧HPl w' g a ys∧w.grownBy w' (some g):=by
 let α:={ x:Value×PL // PlV w g x }
 obtain⟨ds,k⟩:∃ds:List α,ds.map (λx=>x.1)=xs:=iE xs h.val;let d:Array α:=ds.toArray
 have E:ds.length=n:=by rw[<-L,<-k,zq6]
 have r:d.size=n:=E;obtain⟨x0,F⟩:∃x,xs[0]?=some x:=⟨_,zq0 zO⟩;haveI:Inhabited α:=⟨⟨x0,h.val x0 (zq2 F)⟩⟩
 let enc : α->Value:=λx=>x.1.1
 let cf : α->α->Int:=λx y=>Es x.1.2 y.1.2
 have s:OneCell enc:=λx=>by
  obtain⟨A,n,c,t,_⟩:=x.2;show(x.1.1).oneCell'=true;rw[t];rfl
 have M:SWO (ltOf cf):=⟨λx=>UH.irrefl x.1.2,λx y z=>UH.trans x.1.2 y.1.2 z.1.2,λx y z=>UH.ntrans x.1.2 y.1.2 z.1.2⟩;have l:∀m (dk:Array α) os,w.grownBy (sortWorld enc w g a m dk os) (some g):=λm dk os=>L1 (ZT enc w m g a dk) os
 have v:CmpLays1 prog 230 #[] enc cf g a d.size w:=λm os dk _ x y=>by
  obtain⟨A,n,c,t,C,_,N,_⟩:=x.2.grown (l m dk os);obtain⟨B,n2,c2,k1,k2,_,_,_⟩:=y.2.grown (l m dk os);have:=pR A B n c n2 c2 x.1.2 y.1.2 _ C k2 N;rw[<-t,<-k1]at this;exact this
 have G:Holds enc w g a d:=λj b=>by
  have H:j<xs.length:=zO;have o:xs[j]?=some xs[j]:=zq0 H;obtain⟨q1,q2⟩:=h.cells j _ o;refine⟨?_,q2⟩;rw[getElem!_pos d j b];have:ds[j].1=xs[j]:=by simp only[<-k,List.getElem_map]
  rw[<-this]at q1;exact q1
 have I:=Any.slices_SortFunc Tryz.laysSortPl enc s cf M 230 #[] g a c d w (enters_of func230 zk rfl) v G h.lt zO;rw[r]at I;refine Calls.mono (P:=prog) (f:=229) I ?_;rintro e w' ⟨rfl,d',q,os,D,O,rfl⟩;have S:d'.size=n:=by rw[D.1,r]
 have p:d'.toList.Perm d.toList:=by
  have:=D.2.2;rw[Array.extract_eq_self_of_le zO,Array.extract_eq_self_of_le zO]at this;exact this
 have J:d.toList.map (λx=>x.1)=xs:=k;have Q:=holds_sortWorld enc w g a q d d' os h.lt G D.1;refine⟨rfl,d'.toList.map (·.1),?_,?_,⟨λj x o=>?_,lt_sortWorld enc w g a q d' os h.lt,λx o=>?_⟩,l q d' os⟩
 ·have:=p.map (λx : α=>x.1);rwa[J]at this
 ·rw[List.pairwise_iff_getElem];intro i j hi b K;simp only[zq6,Array.length_toList]at hi b;have:=O i j (zs3 _) K zO;rw[getElem!_pos d' i hi,getElem!_pos d' j b]at this;have C:Cr (d'[j]).1.2 (d'[i]).1.2=false:=(J7 _ _).symm.trans this;simp[C]
 ·obtain⟨b,R⟩:=zq1.1 o;simp only[zq6,Array.length_toList]at b;obtain⟨q1,q2⟩:=Q j b;refine⟨?_,q2⟩;rw[q1,getElem!_pos d' j b,<-R];simp[enc]
 obtain⟨y,_,rfl⟩:=zr2.1 o;exact y.2.grown (l q d' os)
end
section
open Go.Sort
theorem UM(h:Gr w w')(r:Option Nat):w.grownBy w' r:=by
 obtain⟨q,os,rfl⟩:=h;have h:w.grownBy (w.drewN q) r:=⟨rfl,rfl,rfl,zs2 _,λ_ _ _=>rfl⟩;exact L1 h os
theorem HPl.below{xs:List (Value×PL)}(h:HPl w g off xs)(a:Bw w w'):HPl w' g off xs:=
 ⟨λj x b=>⟨(a.cell (p:=ad g (off+j)) h.lt).trans (h.cells j x b).1,(a.frozen (p:=ad g (off+j)) h.lt).trans (h.cells j x b).2⟩,zs1 h.lt a.size,λx b=>(h.val x b).below a⟩
theorem HPl.put{l:List (Value×PL)}{p:Value×PL}(h:HPl w g off l)(m:k<l.length)(o:PlV w g p):HPl (w.setCell (ad g (off+k)) p.1) g off (l.set k p):=by
 have b:=Bf w ⟨g,off+k,none⟩ p.1;refine⟨λj q a=>?_,by rw[World.size_setCell];exact h.lt,λx f=>?_⟩
 ·obtain⟨z,i⟩:∃z,l[j]?=some z:=by
   have:j<(l.set k p).length:=(zq1.1 a).1;rw[List.length_set]at this;exact⟨_,zq0 this⟩
  obtain⟨c0,c1⟩:=h.cells j z i;refine⟨?_,by rw[World.frozen?_setCell];exact c1⟩;by_cases e:j=k
  ·subst e;rw[List.getElem?_set_self m]at a;obtain rfl:=zs6 a;exact World.cell?_setCell_same _ _ _ c0
  rw[List.getElem?_set_ne zO,i]at a;obtain rfl:=zs6 a;rw[World.cell?_setCell_other _ _ _ _ (λq=>by injection q;omega)];exact c0
 rcases List.mem_or_eq_of_mem_set f with f|rfl
 ·exact(h.val x f).grown b
 exact o.grown b
theorem HPl.front{l:List (Value×PL)}(h:HPl w g off l)(f:∀i,i<k->w'.cell? (ad g (off+i))=w.cell? (ad g (off+i)))(m:∀a,w'.frozen? a=w.frozen? a)(e:w.grownBy w' (some g)):HPl w' g off (l.take k):=by
 refine⟨λj q b=>?_,zs1 h.lt e.size,λx o=>(h.val x (List.mem_of_mem_take o)).grown e⟩;have p:j<(l.take k).length:=(zq1.1 b).1;rw[zq7]at p;rw[List.getElem?_take_of_lt zO]at b;obtain⟨c0,c1⟩:=h.cells j q b;rw[m,f j zO];exact⟨c0,c1⟩
theorem Qi{c:Nat}{l:List (Value×PL)}(h:HPl w g off l)(f:l.length=n)(m:k<n):∃L:List Value,∀ty,(Builtin.clear_ #[51] ty #[.slice (sa g (off+k)) (n-k) c]).run prog w=.ok (.tuple #[]) (w.setCells g (off+k) L):=by
 have b:∀W,(zeroValue 64).run prog W=.ok (zn) W:=λW=>by
  have:=JD
  cases hq:prog.info? 64 with
  | none=>simp[hq]at this
  | some i=>
   rw[hq]at this;simp at this;simp[zeroValue,typeInfo,hq,this.1]
 refine⟨_,λty=>Lib.run_clear_slice w _ _ ty _ underlying51 b rfl rfl g (off+k) (n-k) c zO (λj e=>?_) (λj e=>?_)⟩
 ·obtain⟨x,a⟩:∃x,l[k+j]?=some x:=⟨_,zq0 zO⟩;rw[Nat.add_assoc,(h.cells _ x a).1];rfl
 obtain⟨x,a⟩:∃x,l[k+j]?=some x:=⟨_,zq0 zO⟩;rw[Nat.add_assoc];exact(h.cells _ x a).2
abbrev Bp(l:List (Value×PL)):List PL:=l.map (λx=>x.2)
theorem Hw{l:List (Value×PL)}{x:Value×PL}(h:l[k]?=some x):(Bp l)[k]?=some x.2:=by rw[zr5,h];rfl
structure CpJ(w wr:World)(g off n q K:Nat)(l M:List (Value×PL)):Prop where
 row:HPl wr g off M
 len:M.length=n
 kept:Bp (M.take K)=BI ((Bp l).take q)
 low:K<q
 klen:(BI ((Bp l).take q)).length=K
 high:∀i,q-1<=i->M[i]?=l[i]?
 grown:w.grownBy wr (some g)
section
variable{w wr w':World}{g off n q K:Nat}{l M:List (Value×PL)}{x y:Value×PL}
theorem CpJ.below(h:CpJ w wr g off n q K l M)(a:Gr wr w'):CpJ w w' g off n q K l M:=
 ⟨h.row.below a.below,h.len,h.kept,h.low,h.klen,h.high,FO h.grown (UM a _)⟩
theorem CpJ.skip(h:CpJ w wr g off n q K l M)(a:1<=q)(b:l[q-1]?=some x)(f:l[q]?=some y)(j:y.2=x.2):CpJ w wr g off n (q+1) K l M:=by
 have e:=UI a (Hw b) ((Hw f).trans (by rw[j]));exact⟨h.row,h.len,by rw[e];exact h.kept,by have:=h.low;omega,by rw[e];exact h.klen,λi hi=>h.high i zO,h.grown⟩
theorem CpJ.keep(h:CpJ w wr g off n q K l M)(k:1<=q)(p:q<n)(m:l[q-1]?=some x)(b:l[q]?=some y)(f:¬y.2=x.2) :
  CpJ w (wr.setCell (ad g (off+K)) y.1) g off n (q+1) (K+1) l (M.set K y):=by
 have o:=h.low;have a:K<M.length:=by rw[h.len];omega
 have e:=UJ k (Hw m) (Hw b) (λq=>f q.symm);have j:y∈M:=zq2 ((h.high q zO).trans b);refine⟨h.row.put a (h.row.val y j),by rw[List.length_set];exact h.len,?_,by omega,?_,λi hi=>?_,FO h.grown (Bf _ _ _)⟩
 ·rw[e,<-h.kept,List.take_add_one,List.getElem?_set_self a,List.take_set_of_le (zs2 _)];simp
 ·rw[e,zq5,h.klen];rfl
 rw[List.getElem?_set_ne zO];exact h.high i zO
theorem CpJ.done(h:CpJ w wr g off n n K l M)(e:l.length=n)(L:lV):HPl (wr.setCells g (off+K) L) g off (M.take K)∧Bp (M.take K)=BI (Bp l)∧w.grownBy (wr.setCells g (off+K) L) (some g):=by
 have b:=Il g L (off+K) wr;refine⟨h.row.front (λi hi=>World.cell?_setCells_out _ _ _ _ _ (λ_ _=>.inl (by simp only;omega))) (λa=>World.frozen?_setCells _ _ _ _ _) b,?_,FO h.grown b⟩;rw[h.kept,zq4 (by simp[e])]
end
end
section
open Go.Sort
theorem Oo{l:List PL}(h:l.length<2):BI l=l:=by
 match l,h with
 | [],_=>rfl
 | [a],_=>rfl
 | a::b::r,h=>exact absurd h zP
theorem XJ{x y:Value×PL}(b:PlV w g x)(f:PlV w g y):∀W,Bw w W->CP 233 #[x.1,y.1] W λe w'=>e=.returned (.bool (decide (x.2=y.2)))∧Gr W w':=λW a=>by
 obtain⟨A,n,c,i,j,_,k,_⟩:=b.below a;obtain⟨B,n2,c2,k1,k2,_,k4,_⟩:=f.below a;rw[i,k1];exact pS A B n c n2 c2 x.2 y.2 W j k2 k k4
def Aaq(g a cap:Nat)(l:List (Value×PL))(w:World)(e:Ending)(w':World):Prop:=∃ys:List (Value×PL),e=.returned (.slice (sa g a) ys.length cap)∧Bp ys=BI (Bp l)∧HPl w' g a ys∧w.grownBy w' (some g)
theorem UN(g b cap n:Nat)(l:List (Value×PL))(w:World)(h:HPl w g b l)(R:l.length=n)(hc:n<=cap)(hm:n<=1000000) :
  CP 232 #[.slice (sa g b) n cap,.func (.func 233) #[] #[]] w (Aaq g b cap l w):=by
 have X:=zH h;have s:=zH R;have eg:=enters_of func233 zk rfl;clear h;by_cases h2:n<2
 ·have S:=zH (Oo (l:=Bp l) zQ);clear R;go_enter func232,ntmps232
  go_wp2_with fail
  go_ret;exact⟨l,by rw[s.o];rfl,by rw[S.o],X.o,Gb _ _⟩
 clear R;go_enter func232,ntmps232
 go_wp2_with fail
 go_loopg [5] n (λgm s5 wr=>∃k:Nat,1<=k∧k<=n∧n-k<=gm∧s5=zi (k:Int)∧Hid (HPl wr g b l∧w.grownBy wr (some g))∧Hid (BI ((Bp l).take k)=(Bp l).take k))
 case atStart=>exact⟨1,zs2 _,by omega,by omega,rfl,zH ⟨X.o,Gb _ _⟩,zH (Oo (by rw[zq7];omega))⟩
 case round=>
  obtain⟨k,P,hk,a6,rfl,t,I⟩:=hrel;by_cases Y:k<n
  ·obtain⟨y,J⟩:∃y,l[k]?=some y:=⟨_,zq0 (by rw[s.o];exact Y)⟩;obtain⟨x,N⟩:∃x,l[k-1]?=some x:=⟨_,zq0 (by rw[s.o];omega)⟩;obtain⟨c0,_⟩:=t.o.1.cells _ _ J;obtain⟨d0,_⟩:=t.o.1.cells _ _ N;have Z:=zH N;have T:=zH J;have r:=zH (XJ (t.o.1.val y (zq2 J)) (t.o.1.val x (zq2 N)));obtain⟨i1,i2⟩:=zI (k:=k) (n:=n) (by omega);have i3:IntKind.i64.wrap ((k:Int)-1)=((k-1:Nat):Int):=by rw[zs5 _ zO];omega
   have i4:(0:Int)<=((k-1:Nat):Int):=zO;have i5:((k-1:Nat):Int)<(n:Int):=zO;clear N J;obtain⟨j,D⟩:=zG (k-1);rw[D]at d0 i3 i4 i5;have HJ:=zH D;clear D;by_cases e:y.2=x.2
   ·rw[zu1 e]at r
    have a0:Hid (CpJ w wr g b n (k+1) k l l):=zH (by
     have q:=UI P (Hw Z.o) ((Hw T.o).trans (by rw[e]));exact⟨t.o.1,s.o,by rw[q,I.o];simp[Bp],by omega,by rw[q,I.o,zq7,zq6,s.o];omega,λi hi=>rfl,t.o.2⟩)
    clear e;have i6:(k:Int)<=(cap:Int):=zO;have i7:¬cap=k:=zO
    go_wp2_with fail
    go_still_tail 10,zk
    go_wp2_with(go_at_call 233;refine(r.o _ (by exact Below.drew zJ)).mono ?_;rintro e w9 ⟨rfl,f⟩;have m:=zH (Gr.trans (Gr.drew (Gr.refl _)) f);clear f)
    go_loopg [5,7] n (λgm s5 s7 wr=>∃(k2 K:Nat)(M:List (Value×PL)),1<=k2∧k+k2<=n∧n-(k+k2)<=gm∧s5=zi (K:Int)∧s7=zi (k2:Int)∧Hid (CpJ w wr g b n (k+k2) K l M))
    case atStart=>exact⟨1,k,l,zs2 _,by omega,by omega,rfl,rfl,zH (a0.o.below m.o)⟩
    case round=>
     obtain⟨k2,K,M,a7,a8,a4,rfl,rfl,a⟩:=hrel;have a5:=a.o.low;obtain⟨z,hz⟩:∃z,M[K]?=some z:=⟨_,zq0 (by rw[a.o.len];omega)⟩;obtain⟨z0,z1⟩:=a.o.row.cells _ _ hz;obtain⟨j1,j2⟩:=zI (k:=K) (n:=n) (by omega);have j3:(K:Int)<=(n:Int):=zO;have j4:(K:Int)<=(cap:Int):=zO;have j5:¬cap=K:=zO;have j6:(0:Int)<=(k2:Int):=zO;have E:=a.o.row.lt;clear hz;by_cases F:k+k2<n
     ·obtain⟨u,O⟩:∃u,l[k+k2]?=some u:=⟨_,zq0 (by rw[s.o];exact F)⟩;obtain⟨uh,ul⟩:=u
      obtain⟨A5,n5,c5,rfl⟩:∃A5 n5 c5,uh=.slice A5 n5 c5:=by
       obtain⟨A5,n5,c5,q,_⟩:=a.o.row.val _ (zq2 ((a.o.high _ zO).trans O));exact⟨A5,n5,c5,q⟩
      obtain⟨v,U⟩:∃v,l[k+k2-1]?=some v:=⟨_,zq0 (by rw[s.o];omega)⟩;have C:=(a.o.high _ zO).trans O;have G:=(a.o.high _ (zs2 _)).trans U;obtain⟨c0,_⟩:=a.o.row.cells _ _ C;obtain⟨d0,_⟩:=a.o.row.cells _ _ G;have r:=zH (XJ (a.o.row.val _ (zq2 C)) (a.o.row.val v (zq2 G)));have HU:=zH O;have HV:=zH U;have Q:=zH (λW (B:Gr wr W)=>(a.o.row.below B.below).cells _ _ C);have a1:=zH (λW (B:Gr wr W)=>(show W.cell? (ad g (b+K))=some z.1∧W.frozen? (ad g (b+K))=false∧g<W.heap.size from⟨(B.below.cell (p:=ad g (b+K)) E).trans z0,(B.below.frozen (p:=ad g (b+K)) E).trans z1,zs1 E B.below.size⟩));have i1:(k2:Int)<((n-k:Nat):Int):=zO;have i3:IntKind.i64.wrap ((k2:Int)-1)=((k2-1:Nat):Int):=by rw[zs5 _ zO];omega
      have i4:(0:Int)<=((k2-1:Nat):Int):=zO;have i5:((k2-1:Nat):Int)<((n-k:Nat):Int):=zO;have i6:IntKind.i64.wrap ((k2:Int)+1)=((k2+1:Nat):Int):=by rw[zs5 _ zO];omega
      have i7:IntKind.i64.wrap ((K:Int)+1)=((K+1:Nat):Int):=by rw[zs5 _ zO];omega
      rw[<-Nat.add_assoc]at c0;rw[show b+(k+k2-1)=b+k+(k2-1)by omega]at d0;rw[<-Nat.add_assoc]at Q;clear O U C G;obtain⟨j,D⟩:=zG (k2-1);rw[D]at d0 i3 i4 i5;clear D;by_cases e:ul=v.2
      ·rw[zu1 e]at r;have H:=zH (a.o.skip zO HV.o HU.o e);clear e
       go_wp2_with fail
       go_still_tail 10,zk
       go_wp2_with(go_at_call 233;refine(r.o _ (by exact Below.drew zJ)).mono ?_;rintro e w9 ⟨rfl,f⟩;have m:=zH (Gr.trans (Gr.drew (Gr.refl _)) f);clear f)
       go_roundg (n-(k+(k2+1)))
       case measure=>omega
       case rel=>exact⟨k2+1,K,M,by omega,by omega,zs2 _,rfl,by go_num,zH (H.o.below m.o)⟩
      rw[zu0 e]at r;have H:=zH (λW (B:Gr wr W)=>(a.o.below B).keep zO F HV.o HU.o e);clear e
      go_wp2_with fail
      go_still_tail 10,zk
      go_wp2_with(go_at_call 233;refine(r.o _ (by exact Below.drew zJ)).mono ?_;rintro e w9 ⟨rfl,f⟩;have m:=zH (Gr.trans (Gr.drew (Gr.refl _)) f);obtain⟨w0,w1,w2⟩:=a1.o _ m.o;have w3:=(Q.o _ m.o).1;clear f)
      go_roundg (n-(k+(k2+1)))
      case measure=>omega
      case rel=>exact⟨k2+1,K+1,M.set K (.slice A5 n5 c5,ul),by omega,by omega,zs2 _,by go_num,by go_num,zH (H.o _ m.o)⟩
     obtain⟨L,a9⟩:=Qi (k:=K) (c:=cap-K) a.o.row a.o.len zO;have V:=zH (CpJ.done (by have:=a.o;rwa[show k+k2=n by omega]at this) s.o L);have a2:Hid ((M.take K).length=K):=zH (by rw[zq7,a.o.len];omega);have i1:¬(k2:Int)<((n-k:Nat):Int):=zO
     go_wp2_with fail
     go_ret;exact⟨M.take K,by rw[a2.o];rfl,V.o.2.1,V.o.1,V.o.2.2⟩
   rw[zu0 e]at r;have a3:Hid (BI ((Bp l).take (k+1))=(Bp l).take (k+1)):=zH (by rw[UJ P (Hw Z.o) (Hw T.o) (λq=>e q.symm),I.o,List.take_add_one,Hw T.o];rfl);clear e
   go_wp2_with fail
   go_still_tail 10,zk
   go_wp2_with(go_at_call 233;refine(r.o _ (by exact Below.drew zJ)).mono ?_;rintro e w9 ⟨rfl,f⟩;have m:=zH (Gr.trans (Gr.drew (Gr.refl _)) f);clear f)
   go_roundg (n-(k+1))
   case measure=>omega
   case rel=>exact⟨k+1,by omega,by omega,zs2 _,by go_num,zH ⟨t.o.1.below m.o.below,FO t.o.2 (UM m.o _)⟩,a3⟩
  obtain rfl:k=n:=zO;have S:Hid (BI (Bp l)=Bp l):=zH (by have:=I.o;rwa[zq4 (by simp[s.o])]at this)
  go_wp2_with fail
  go_ret;exact⟨l,by rw[s.o];rfl,by rw[S.o],t.o.1,t.o.2⟩
end
section
open Go.Sort
theorem GP(l:List α):AE (l.map Except.ok)=.ok l:=by
 induction l with
 | nil=>rfl
 | cons x l ih=>
  rw[List.map_cons,AE,ih]
theorem J8(l:List α)(z:Int)(r:List (Except Int α)):AE (l.map Except.ok ++ .error z::r)=.error z:=by
 induction l with
 | nil=>rfl
 | cons x l ih=>
  rw[List.map_cons,List.cons_append,AE,ih]
def Jr(s t:List PL)(k:Nat)(x:PL)(j:Nat):List (Except Int PL):=((t.drop j).map λy=>Fv x (Hl y))++(s.drop (k+1)).flatMap λx=>t.map λy=>Fv x (Hl y)
def EF(s t:List PL)(k:Nat):List (Except Int PL):=(s.drop k).flatMap λx=>t.map λy=>Fv x (Hl y)
theorem Et{α : Type}{l:List α}{p : α}(h:l[k]?=some p):l.drop k=p::l.drop (k+1):=by
 obtain⟨a,b⟩:=zq1.1 h;rw[List.drop_eq_getElem_cons a,b]
theorem pT{s t:List PL}{x:PL}(h:s[k]?=some x):EF s t k=Jr s t k x 0:=by
 unfold EF Jr;rw[Et h,List.flatMap_cons,List.drop_zero]
theorem pU{s t:List PL}{x y:PL}(h:t[j]?=some y):Jr s t k x j=Fv x (Hl y)::Jr s t k x (j+1):=by
 unfold Jr;rw[Et h,List.map_cons,List.cons_append]
theorem iG(s t:List PL)(k:Nat)(x:PL):Jr s t k x t.length=EF s t (k+1):=by
 unfold Jr EF;rw[zr6 (zs2 _)];rfl
theorem iH(s t:List PL):EF s t s.length=[]:=by
 unfold EF;rw[zr6 (zs2 _)];rfl
theorem ZU{s t:List PL}(f:BN a=.ok s)(g:BN b=.ok t):Cx a b=match AE (EF s t 0)with
 | .error e=>.error e
 | .ok l=>.ok (GO l):=by
 unfold Cx EF;rw[f,g];rfl
end
section
open Go.Sort
def PlO(w:World)(r:Option Nat)(x:Value×PL):Prop:=∃A n c,x.1=.slice A n c∧Ab 2 Ad w A n x.2∧n<=c∧n<=1000000∧∀b a,A=some ⟨b,a,none⟩->some b≠r∧b<w.heap.size
structure DS(w:World)(base:Nat)(v:Value)(rs:List (Value×PL)):Prop where
 own:w.ownsRow base 64 1 v rs.length (rs.flatMap λx=>[x.1])
 val:∀x∈rs,PlO w v.ownBlock x
section
variable{w w':World}{base:Nat}{v v':Value}{rs:List (Value×PL)}{x:Value×PL}{r:Option Nat}
theorem PlO.below(h:PlO w r x)(f:Bw w w'):PlO w' r x:=by
 obtain⟨A,n,c,i,j,k,l,g⟩:=h;exact⟨A,n,c,i,j.on Aa f,k,l,λb a e=>⟨(g b a e).1,zs1 (g b a e).2 f.size⟩⟩
theorem DS.below(h:DS w base v rs)(a:Bw w w'):DS w' base v rs:=⟨Ah h.own a,λx b=>(h.val x b).below a⟩
theorem DS.start(w:World)(base:Nat):DS w base (zn) []:=⟨World.ownsRow_nil _ _ _ _,λx h=>by cases h⟩
theorem PlO.more(h:PlO w v.ownBlock x)(g:w.grownBy w' v.ownBlock)(i:v'.ownBlock=v.ownBlock∨v'.ownBlock=some w.heap.size):PlO w' v'.ownBlock x:=by
 obtain⟨A,n,c,j,l,m,o,f⟩:=h;refine⟨A,n,c,j,Qh l g (λb a e=>(f b a e).1),m,o,λb a e=>⟨λq=>?_,zs1 (f b a e).2 g.size⟩⟩;rcases i with k|k
 ·exact(f b a e).1 (q.trans k)
 rw[k]at q;injection q with q
 have:=(f b a e).2;omega
theorem DS.more(h:DS w base v rs)(f:PlO w v.ownBlock x)(g:w'.ownsRow base 64 1 v' (rs.length+1) ((rs.flatMap λx=>[x.1])++[x.1]))(b:w.grownBy w' v.ownBlock)(e:v'.ownBlock=v.ownBlock∨v'.ownBlock=some w.heap.size):DS w' base v' (rs++[x]):=by
 refine⟨by simpa[zr7]using g,λy a=>?_⟩;rcases zr1.1 a with a|a
 ·exact(h.val y a).more b e
 obtain rfl:=zr9.1 a;exact f.more b e
theorem UO:∀l:List (Value×PL),(l.flatMap λx=>[x.1])=l.map (λx=>x.1)
 | []=>rfl
 | x::l=>by rw[List.flatMap_cons,UO l];rfl
theorem DS.done(h:DS w base v rs)(B:0<rs.length):∃g c,v=.slice (sa g 0) rs.length c∧base<=g∧rs.length<=c∧HPl w g 0 rs:=by
 rcases h.own.2 with⟨e,i⟩|⟨g,cap,cur,e,o,p,q1,q2,q3,q4⟩
 ·omega
 have a:Blk w g 64 cur:=p;refine⟨g,cap,e,o,q1,λj x f=>⟨?_,a.frozen _⟩,a.lt,λx f=>?_⟩
 ·have l:(rs.flatMap λx=>[x.1])[j]?=some x.1:=by
   have:(rs.flatMap λx=>[x.1])=rs.map (λx=>x.1):=UO rs;rw[this,zr5,f];rfl
  have:=h.own.cells (g:=g) (by rw[e];rfl) _ _ l;rw[Go.WideShapes.add_plain]at this;exact this
 obtain⟨A,n,c,i,s,t,y,z⟩:=h.val x f;exact⟨A,n,c,i,s,t,y,λb m q k=>(z b m q).1 (by rw[e,k];rfl)⟩
end
end
section
open Go.Sort
theorem XK{r:lP}(h:Fv a b=.ok r):r.length<=160∧∀p∈r,inC p:=by
 unfold Fv at h;split at h
 ·cases h
 split at h
 ·cases h
 simp only at h;split at h
 ·cases h
 rename_i e;split at h
 ·cases h
 rename_i g;injection h with h
 subst h;refine⟨by omega,λp f=>Q5.1 ?_⟩;rw[Bool.not_eq_true,List.any_eq_false]at e;simpa using e p f
theorem Si(h:Fv a b=.error z):z≠0:=by
 unfold Fv at h;split at h
 ·rename_i e f;injection h with h
  subst h;exact Kz f
 split at h
 ·rename_i e f;injection h with h
  subst h;exact Kz f
 simp only at h;split at h
 ·injection h with h;omega
 split at h
 ·injection h with h;omega
 cases h
theorem HPl.recs{ys:List (Value×PL)}(h:HPl w g 0 ys):Ab 1 plG w (sa g 0) ys.length (Bp ys):=by
 refine⟨by simp,λ_=>⟨g,0,rfl,h.lt,λj x a=>?_⟩⟩;rw[zr5]at a
 cases hy:ys[j]? with
 | none=>rw[hy]at a;cases a
 | some y=>
  rw[hy]at a;obtain rfl:=zs6 a;obtain⟨A,n,c,e,f,k,_⟩:=h.val y (zq2 hy);refine⟨[y.1],⟨A,n,c,by rw[e],f,k⟩,λi u b=>?_⟩
  match i,b with
  | 0,b=>
   obtain rfl:=zs6 b;have:=(h.cells j y hy).1;simpa using this
  | i+1,b=>simp at b
end
section
open Go.Sort
theorem KX:∀{k:Nat}{l:lP}{r r':List (List Pt)},Cq k l r=.ok r'->0<r'.length
 | 0,l,r,r',h=>by
  injection h with h
  subst h;simp
 | k+1,l,r,r',h=>by
  unfold Cq at h;split at h
  ·injection h with h
   subst h;simp
  split at h
  ·exact KX h
  split at h
  ·exact KX h
  cases h
theorem Oq{r:List (List Pt)}(h:BN l=.ok r):0<r.length:=by
 unfold BN at h;split at h
 ·cases h
 exact KX h
def Qj(x:Except Int (List (List Pt)))(w:World)(e:Ending)(w':World):Prop:=Bw w w'∧match x with
 | .ok l=>∃A c,e=.returned (.tuple #[.slice A l.length c,zi 0])∧Ab 1 plG w' A l.length l∧l.length<=c
 | .error z=>e=.returned (.tuple #[zn,zi z])
theorem Mc{rs:List PL}(h:Cx a b=.ok rs):∀r∈rs,(∀p∈r,inC p)∧r.length<=160:=by
 unfold Cx at h;split at h
 ·cases h
 split at h
 ·cases h
 split at h
 ·cases h
 rename_i l g;injection h with h
 subst h;intro r i;have e:r∈l:=UK.1 i;have j:=CE g;have f:Except.ok r∈l.map (Except.ok (ε:=Int)):=zr2.2 ⟨r,e,rfl⟩;rw[<-j]at f;obtain⟨x,_,k⟩:=List.mem_flatMap.1 f;obtain⟨y,_,m⟩:=zr2.1 k;obtain⟨q1,q2⟩:=XK m;exact⟨q2,q1⟩
end
end Go.Proofs.YteafekbddckemaaGreatDoor
