/- Parts of the proof. -/
import Derived.Test.YteafekbddckemaaGreatDoorH21
set_option maxRecDepth 100000
set_option maxHeartbeats 40000000
namespace Go.Proofs.YteafekbddckemaaGreatDoor
open Tryz Go.RowKit
open Go.Lib hiding intOf
variable{A:oA}{T:TypeId}{a c f g j k m n q:Nat}{b p x y:Pt}{l r:lP}{v:Value}{w w' w1 w2:World}{xs:lV}
theorem P5{l:List (List Pt)}(h:Ab 1 plG w A n l)(e:k<n):∃b a x B m c,A=some ⟨b,a,none⟩∧b<w.heap.size∧l[k]?=some x∧zL w b (a+k) (.slice B m c)∧Ab 2 Ad w B m x∧m<=c:=by
 obtain⟨b,a,x,vs,rfl,f,g,⟨B,m,c,rfl,i,j⟩,o⟩:=h.at_ e;refine⟨b,a,x,B,m,c,rfl,f,g,?_,i,j⟩;simpa using o 0 _ rfl
theorem Tm{l:List (List Pt)}(h:Ab 1 plS w A n l)(e:k<n):∃b a x g o m c,A=some ⟨b,a,none⟩∧b<w.heap.size∧l[k]?=some x∧zL w b (a+k) (.slice (sa g o) m c)∧Ab 2 Ad w (sa g o) m x∧m<=c:=by
 obtain⟨b,a,x,vs,rfl,f,i,⟨g,o,m,c,rfl,j,p⟩,q⟩:=h.at_ e;refine⟨b,a,x,g,o,m,c,rfl,f,i,?_,j,p⟩;simpa using q 0 _ rfl
theorem Nc:∀{k:Nat}{l:lP}{r r':List (List Pt)},Cq k l r=.ok r'->(∀p∈l,inG p)->l.length<=40->(∀t∈r,(∀p∈t,inG p)∧t.length<=40)->r'.length<=r.length+k+1∧∀t∈r',(∀p∈t,inG p)∧t.length<=40
 | 0,l,r,r',h,hl,h40,hr=>by
  injection h with h
  subst h;refine⟨by simp,λt a=>?_⟩;rcases zr1.1 a with a|a
  ·exact hr t a
  obtain rfl:=zr9.1 a;exact⟨hl,h40⟩
 | k+1,l,r,r',h,hl,h40,hr=>by
  unfold Cq at h;have b:∀i,(∀p∈l.eraseIdx i,inG p)∧(l.eraseIdx i).length<=40:=λi=>⟨λp e=>hl p (Sc e),by have:=List.length_eraseIdx_le l i;omega⟩
  split at h
  ·injection h with h
   subst h;refine⟨by simp,λt a=>?_⟩;rcases zr1.1 a with a|a
   ·exact hr t a
   obtain rfl:=zr9.1 a;exact⟨hl,h40⟩
  rename_i g;split at h
  ·rename_i i _;obtain⟨q1,q2⟩:=Nc h (b i).1 (b i).2 hr;exact⟨by omega,q2⟩
  split at h
  ·rename_i i _
   obtain⟨q1,q2⟩:=Nc h (b i).1 (b i).2 (λt a=>by
    rcases zr1.1 a with a|a
    ·exact hr t a
    obtain rfl:=zr9.1 a;refine⟨λp e=>?_,by simp⟩;have f:0<l.length:=zO;simp only[zr3,List.not_mem_nil,or_false]at e;rcases e with rfl|rfl|rfl
    ·exact Cy hl f _
    ·exact Cy hl f _
    exact Cy hl f _)
   exact⟨by simp only[zq5,zq9]at q1;omega,q2⟩
  cases h
theorem Hc{r:List (List Pt)}(h:BN l=.ok r):r.length<=41∧∀t∈r,(∀p∈t,inG p)∧t.length<=40:=by
 unfold BN at h;split at h
 ·cases h
 rename_i f b;obtain⟨_,e,a⟩:=P3 b;obtain⟨q1,q2⟩:=Nc h e a (λt g=>by cases g);exact⟨by simp only[List.length_nil]at q1;omega,q2⟩
def Nd(s t:List (List Pt))(k:Nat):Int:=((s.take k).flatMap λx=>t.map λy=>EX x y).foldl max (-1)
def O0(s t:List (List Pt))(k:Nat)(x:lP)(j:Nat):Int:=((t.take j).map λy=>EX x y).foldl max (Nd s t k)
theorem gQ(s t:List (List Pt))(k:Nat)(x:lP):O0 s t k x 0=Nd s t k:=rfl
theorem gR{s t:List (List Pt)}{x:lP}{y:lP}(h:t[j]?=some y):O0 s t k x (j+1)=max (O0 s t k x j) (EX x y):=by
 unfold O0;rw[List.take_add_one,zr0,List.foldl_append,h];rfl
theorem gS{s t:List (List Pt)}{x:lP}(h:s[k]?=some x):Nd s t (k+1)=O0 s t k x t.length:=by
 unfold O0 Nd;rw[List.take_add_one,zr7,List.foldl_append,h,zq4 (zs2 _)];simp
theorem WK{a b:lP}{s t:List (List Pt)}(e:BN a=.ok s)(f:BN b=.ok t):CM a b=.ok (Nd s t s.length):=by
 unfold CM Nd;rw[e,f,zq4 (zs2 _)]
def Jo(x:Except Int Int)(w:World)(e:Ending)(w':World):Prop:=Bw w w'∧match x with
 | .ok r=>e=.returned (.tuple #[zi r,zi 0])
 | .error z=>e=.returned (.tuple #[zi 0,zi z])
def Aap(x:Except Int Bool)(w:World)(e:Ending)(w':World):Prop:=Bw w w'∧match x with
 | .ok r=>e=.returned (.tuple #[.bool r,zi 0])
 | .error z=>e=.returned (.tuple #[zF,zi z])
theorem Uy(A1 A2:oA)(n1 c1 n2 c2:Nat)(a b:lP)(w:World)(ha:Ab 2 Ad w A1 n1 a)(hb:Ab 2 Ad w A2 n2 b)(K:n1<=c1)(L:n2<=c2)(M:n1<=1000000)(N:n2<=1000000) :
  CP 35 #[.slice A1 n1 c1,.slice A2 n2 c2] w (Jo (CM a b) w):=by
 have m:=Kx A1 n1 c1 a w ha K M;have r:=λW (h:Bw w W)=>Kx A2 n2 c2 b W (hb.on Aa h) L N
 obtain⟨Q,C⟩:=zG (Jo (CM a b) w);rw[C]
 cases hs:BN a with
 | error z=>
  rw[hs]at m;have G:=ES hs;have O:(z != 0)=true:=by simpa using G
  have E:Hid (Q=λe w'=>Bw w w'∧e=.returned (.tuple #[zi 0,zi z])):=by
   rw[Hid,<-C];unfold Jo CM;rw[hs]
  have m:=zH m;clear C hs r;go_enter func35,ntmps35;go_wp2_with(go_at_call 58;refine m.o.mono ?_;rintro e w1 ⟨l,f⟩;replace f:e=.returned (.tuple #[zn,zi z]):=f;subst f;have g:=zH l;clear l)
  rw[E.o];exact⟨g.o,rfl⟩
 | ok s=>
  rw[hs]at m;have m:=zH m;have r:=zH r
  cases ht:BN b with
  | error z=>
   rw[ht]at r;have G:=ES ht;have O:(z != 0)=true:=by simpa using G
   have E:Hid (Q=λe w'=>Bw w w'∧e=.returned (.tuple #[zi 0,zi z])):=by
    rw[Hid,<-C];unfold Jo CM;rw[hs,ht]
   clear C hs ht;go_enter func35,ntmps35
   go_wp2_with(go_at_call 58;first
    | (refine m.o.mono ?_;rintro e w1 ⟨l,f⟩;obtain⟨B1,d1,f,n,P⟩:=f;subst f;have g:=zH l;clear l m)
    | (refine(r.o _ g.o).mono ?_;rintro e w2 ⟨p,f⟩;replace f:e=.returned (.tuple #[zn,zi z]):=f;subst f;have D:=zH (zT g.o p);clear p))
   rw[E.o];exact⟨D.o,rfl⟩
  | ok t=>
   rw[ht]at r
   have E:Hid (Q=λe w'=>Bw w w'∧e=.returned (.tuple #[zi (Nd s t s.length),zi 0])):=by
    rw[Hid,<-C];unfold Jo;rw[WK hs ht]
   obtain⟨s1,s2⟩:=Hc hs;obtain⟨t1,t2⟩:=Hc ht;have R:=zH s2;have S:=zH t2;clear C hs ht s2 t2;go_enter func35,ntmps35
   go_wp2_with(go_at_call 58;first
    | (refine m.o.mono ?_;rintro e w1 ⟨l,f⟩;obtain⟨B1,d1,f,n,P⟩:=f;subst f;have g:=zH l;have T:=zH n;clear l n m)
    | (refine(r.o _ g.o).mono ?_;rintro e w2 ⟨p,f⟩;obtain⟨B2,d2,f,q,a3⟩:=f;subst f;have D:=zH (zT g.o p);have H:=zH (T.o.on Lm p);have U:=zH q;clear p q r))
   go_loopw[9,11,13,32,33,34,35,36,37,38,39,40,41,42,43,44,45,46,47,48] (λcl _ _ i _ _ _ _ _ _ _ _ _ _ _ _ _ _ _ _ wr=>∃k:Nat,k<=s.length∧i=zi (k:Int)∧cl=zi (Nd s t k)∧Hid (Bw w2 wr)) (λ_ _ _ i _ _ _ _ _ _ _ _ _ _ _ _ _ _ _ _ _=>s.length-(intOf i).toNat)
   case atStart=>exact⟨0,zs3 _,rfl,rfl,zJ⟩
   case round=>
    obtain⟨k,hk,rfl,rfl,v⟩:=hrel;by_cases V:k<s.length
    ·obtain⟨b1,o1,x,C1,O1,m1,e1,rfl,a4,I,d0,n,a5⟩:=Tm (H.o.on Lm v.o) V;obtain⟨gx,lx⟩:=R.o x (zq2 I);have X:=zH gx;have Y:=zH n;have HX:=zH I;have Z:m1<=1000000:=by rw[<-n.len];omega
     have i1:(0:Int)<=(k:Int):=zO;have i2:(k:Int)<(s.length:Int):=zO;clear gx n I
     go_wp2_with fail
     rw[<-gQ s t k x]
     go_loopw[9,13,38,39,40,41,42,43,44,45,46,47] (λcl _ i _ _ _ _ _ _ _ _ _ wq=>∃j:Nat,j<=t.length∧i=zi (j:Int)∧cl=zi (O0 s t k x j)∧Hid (Bw wr wq)) (λ_ _ i _ _ _ _ _ _ _ _ _ _=>t.length-(intOf i).toNat)
     case atStart=>exact⟨0,zs3 _,rfl,rfl,zH zB⟩
     case round=>
      rename_i wq _ _ _;obtain⟨j,hj,rfl,rfl,B⟩:=hrel;by_cases a0:j<t.length
      ·obtain⟨b2,o2,y,C2,O2,m2,e2,rfl,a6,J,f0,q,a7⟩:=Tm ((U.o.on Lm v.o).on Lm B.o) a0;obtain⟨gy,ly⟩:=S.o y (zq2 J);have HF:=zH (gR (s:=s) (k:=k) (x:=x) J);have a1:m2<=1000000:=by rw[<-q.len];omega
       have F:=WJ (sa C1 O1) (sa C2 O2) m1 e1 m2 e2 x y _ (Y.o.on Aa B.o) q X.o gy Z a1;have HC:=zH F;have i1:(0:Int)<=(j:Int):=zO;have i2:(j:Int)<(t.length:Int):=zO;clear F gy q J;go_wp2_with(go_at_call 59;refine HC.o.mono ?_;rintro e w9 ⟨rfl,hv⟩;have a2:=zH (zT B.o hv);clear hv)
       go_roundw
       case rel=>
        exact⟨j+1,by omega,by go_num,by rw[HF.o],a2⟩
       case measure=>exact zM
      obtain rfl:j=t.length:=zO
      go_wp2_with fail
      go_roundw
      case rel=>
       exact⟨k+1,by omega,by go_num,by rw[gS HX.o],zH (zT v.o B.o)⟩
      case measure=>exact zM
    obtain rfl:k=s.length:=zO
    go_wp2_with fail
    rw[E.o];exact⟨zT D.o v.o,rfl⟩
theorem Oi(A1 A2:oA)(n1 c1 n2 c2:Nat)(a b:lP)(w:World)(l:Ab 2 Ad w A1 n1 a)(m:Ab 2 Ad w A2 n2 b)(n:n1<=c1)(p:n2<=c2)(q:n1<=1000000)(s:n2<=1000000) :
  CP 14 #[.slice A1 n1 c1,.slice A2 n2 c2] w (Aap (BJ a b) w):=by
 have f:=Uy A1 A2 n1 c1 n2 c2 a b w l m n p q s
 cases hr:CM a b with
 | error z=>
  have j:BJ a b=.error z:=by unfold BJ;rw[hr]
  have t:=KN j;have v:(z == 0)=false:=by simpa using t
  rw[hr]at f;have f:=zH f;rw[j];clear hr j l m;go_enter func14,ntmps14;go_wp2_with(go_at_call 35;refine f.o.mono ?_;rintro e w1 ⟨g,i⟩;replace i:e=.returned (.tuple #[zi 0,zi z]):=i;subst i;have k:=zH g;clear g)
  (try go_ret2)
  exact⟨k.o,rfl⟩
 | ok r=>
  have j:BJ a b=.ok (decide (r=1)):=by unfold BJ;rw[hr]
  rw[hr]at f;have f:=zH f;rw[j];clear hr j l m;go_enter func14,ntmps14;go_wp2_with(go_at_call 35;refine f.o.mono ?_;rintro e w1 ⟨g,i⟩;replace i:e=.returned (.tuple #[zi r,zi 0]):=i;subst i;have k:=zH g;clear g)
  (try go_ret2)
  exact⟨k.o,rfl⟩
theorem yL(h:l[k]?=some p):(Hl l)[k]?=some (-p.1,-p.2):=by
 unfold Hl;rw[zr5,h];rfl
theorem Rb(l:lP):(Hl l).length=l.length:=by simp[Hl]
theorem ZO(A:oA)(n c:Nat)(l:lP)(w:World)(e:Ab 2 Ad w A n l)(L:n<=1000000)(x:∀p∈l,inG p) :
  CP 228 #[.slice A n c] w (IU (Hl l) w):=by
 have F:=zH e;have M:=zH e.len;have G:=zH x;have y:=λW=>E7 n zO W
 unfold IU;rw[Rb,e.len];have q:Hid (∀(k:Nat)(p:Pt),l[k]?=some p->(Hl l)[k]?=some (-p.1,-p.2)):=λk p=>yL
 obtain⟨R,s⟩:=zG (Hl l);rw[s]at q⊢
 have z:Hid (R.length=n):=by rw[Hid,<-s,Rb,e.len]
 have B:Hid (Bw w (zw w (madeCells #[zi 0,zi 0] (n*2)) 56)):=zH (zA _);have C:=zH (LR w n R);clear e x s;go_enter func228,ntmps228
 go_wp2_with fail
 clear y
 go_loopw[4,5,11,12,13,14,15,16,17,18,19,20,21,22,23,24,25,26] (λ_ _ i _ _ _ _ _ _ _ _ _ _ _ _ _ _ _ wr=>∃k:Nat,k<=n∧i=zi (k:Int)∧Ea wr w.heap.size n R (λj=>j<k)∧Hid (Bw w wr)) (λ_ _ i _ _ _ _ _ _ _ _ _ _ _ _ _ _ _ _=>n-(intOf i).toNat)
 case atStart=>exact⟨0,zs3 _,rfl,C.o.weak (λj t=>by omega),B.o⟩
 case round=>
  obtain⟨k,N,rfl,a,m⟩:=hrel;have r:=zH a;by_cases f:k<n
  ·obtain⟨b,I,p,rfl,J,v,c0,c1⟩:=Ap (F.o.on Aa m.o) f;have D:=zH (q.o k p v);obtain⟨q1,q2,q3,q4⟩:=G.o p (zq2 v);have g:Hid (Bw wr (zw wr #[zi p.1,zi p.2] 56)):=zA _;obtain⟨i1,i2⟩:=zI (k:=k) (n:=n) (by omega);have i3:IntKind.i64.wrap (-p.1) = -p.1:=zs5 _ zO;have i4:IntKind.i64.wrap (-p.2) = -p.2:=zs5 _ zO;obtain⟨z0,z1,d0,d1,d2,d3,K⟩:=(r.o.below g.o).cells f;clear v a
   go_wp2_with fail
   go_roundw
   case rel=>
    have E:=(r.o.below g.o).step D.o f;refine⟨k+1,by omega,by go_num,E.weak (λj t=>by omega),?_⟩;exact((zT m.o g.o).setCell zP _).setCell zP _
   case measure=>exact zM
  obtain rfl:k=n:=zO;have H:=zH (a.done z.o (λj t=>by exact t));clear a
  go_wp2_with fail
  go_ret;exact⟨w.heap.size,rfl,by omega,H.o,m.o⟩
def inD(p:Pt):Prop:=-8388608<=p.1∧p.1<=8388608∧-8388608<=p.2∧p.2<=8388608
theorem inC.d(h:inC p):inD p:=by
 obtain⟨a,b,e,f⟩:=h;exact⟨by omega,by omega,by omega,by omega⟩
theorem Sf{a c:Pt}(e:inD a)(f:inD b)(g:inD c):(-281474976710656<=(b.1-a.1)*(c.2-a.2)∧(b.1-a.1)*(c.2-a.2)<=281474976710656)∧(-281474976710656<=(b.2-a.2)*(c.1-a.1)∧(b.2-a.2)*(c.1-a.1)<=281474976710656):=by
 obtain⟨a1,a2,a3,a4⟩:=e;obtain⟨b1,b2,b3,b4⟩:=f;obtain⟨c1,c2,c3,c4⟩:=g;have i:=FE (a:=16777216) (b:=16777216) (x:=b.1-a.1) (y:=c.2-a.2) zO zO;have j:=FE (a:=16777216) (b:=16777216) (x:=b.2-a.2) (y:=c.1-a.1) zO zO;omega
theorem ZP(a b c:Pt)(w:World)(f:inD a)(g:inD b)(i:inD c) :
  CP 311 #[.agg #[zi a.1,zi a.2],.agg #[zi b.1,zi b.2],.agg #[zi c.1,zi c.2]] w (zR (zi (Ao a b c)) w):=by
 have j:=zH (ON w a b c);have k:=Sf f g i;have l:Hid (Ao a b c=(b.1-a.1)*(c.2-a.2)-(b.2-a.2)*(c.1-a.1)):=rfl;obtain⟨a1,a2⟩:=a;obtain⟨b1,b2⟩:=b;obtain⟨c1,c2⟩:=c;obtain⟨q1,q2,q3,q4⟩:=f;obtain⟨q5,q6,q7,q8⟩:=g;obtain⟨q9,q10,q11,q12⟩:=i;obtain⟨⟨x1,x2⟩,x3,x4⟩:=k;simp only at *
 go_enter func311,ntmps311;go_wp2;go_ret;exact⟨by rw[l.o];rfl,j.o⟩
def sU(l:lP)(w:World)(e:Ending)(w':World):Prop:=∃A c,e=.returned (.slice A l.length c)∧w'.ownsRow w.heap.size 56 2 (.slice A l.length c) l.length (l.flatMap spC)∧Bw w w'
theorem Ft(h:l[k]?=some p):BG (l.take (k+1))=p::Ev p (BG (l.take k)):=by
 unfold BG;rw[Sd h]
theorem XH{p:Pt}:∀{r:lP}{q:Pt},q∈Ev p r->q∈r
 | [],q,h=>by simp[Ev]at h
 | [a],q,h=>by simpa[Ev]using h
 | b::a::r,q,h=>by
  unfold Ev at h;split at h
  ·exact List.mem_cons_of_mem _ (XH h)
  exact h
theorem P6{q:Pt}(h:q∈BG l):q∈l:=by
 have key:∀(k:Nat),k<=l.length->∀q∈BG (l.take k),q∈l:=by
  intro k;induction k with
  | zero=>intro _ q a;simp[BG]at a
  | succ k ih=>
   intro e q a;obtain⟨p,b⟩:∃p,l[k]?=some p:=⟨_,zq0 zO⟩;rw[Ft b]at a;rcases zr3.1 a with rfl|a
   ·exact zq2 b
   exact ih zO q (XH a)
 exact key l.length (zs2 _) q (by rwa[zq4 (zs2 _)])
theorem XI(p:Pt):∀r:List Pt,(Ev p r).length<=r.length
 | []=>by simp[Ev]
 | [a]=>by simp[Ev]
 | b::a::r=>by
  unfold Ev;split
  ·have:=XI p (a::r);simp only[zt5]at this⊢
   omega
  exact zs2 _
theorem P8(l:lP):∀k,k<=l.length->(BG (l.take k)).length<=k:=by
 intro k;induction k with
 | zero=>intro _;simp[BG]
 | succ k ih=>
  intro b;obtain⟨p,a⟩:∃p,l[k]?=some p:=⟨_,zq0 zO⟩;rw[Ft a,zt5];have:=XI p (BG (l.take k));have:=ih zO;omega
def sV:Value->Nat
 | .slice _ n _=>n
 | _=>0
theorem ZQ{a:Pt}(h:w.ownsRow f T 2 (.slice A m c) m ((b::a::r).reverse.flatMap spC))(i:(b::a::r).length=m) :
  ∃g,A=some ⟨g,0,none⟩∧zL w g ((m-2)*2) (zi a.1)∧zL w g ((m-2)*2+1) (zi a.2)∧zL w g ((m-1)*2) (zi b.1)∧zL w g ((m-1)*2+1) (zi b.2)∧g<w.heap.size:=by
 have l:m≠0:=by rw[<-i];simp
 rcases h.2 with⟨e,n⟩|⟨g,cap,cur,e,q,o,q1,q2,q3,q4⟩
 ·exact absurd n l
 injection e with e e2 e3
 subst e;have j:=HSp.of_own h;have e1:m-2=r.length:=by rw[<-i];simp
 have e2:m-1=r.length+1:=by rw[<-i];simp
 have p:(b::a::r).reverse[r.length]?=some a:=by simp
 have k:(b::a::r).reverse[r.length+1]?=some b:=by simp
 have k1:=j.cells p;have k2:=j.cells k;simp only[Nat.zero_add]at k1 k2;rw[e1,e2];exact⟨g,rfl,k1.1,k1.2.1,k2.1,k2.2.1,(Array.getElem?_eq_some_iff.1 o).1⟩
theorem ZR{e:Nat}{a:Pt}(h:w.ownsRow e T 2 (.slice A m c) m ((b::a::r).reverse.flatMap spC))(g:A≠none)(f:(b::a::r).length=m):w.ownsRow e T 2 (.slice A (m-1) c) (m-1) ((a::r).reverse.flatMap spC):=by
 have:=L5 h g (show m-1<=m by omega);rw[<-Nb,List.reverse_cons,List.take_append_of_le_length (by rw[List.length_reverse,<-f];simp),zq4 (by rw[List.length_reverse,<-f];simp)]at this;exact this
theorem FN(w:World)(p:Pt)(T:TypeId):∀(j:Nat)(u:Value),(spC p)[j]?=some u->(w.alloc (.cells #[zi p.1,zi p.2] T)).cell? ((⟨w.heap.size,0,none⟩:Addr).add j)=some u:=λj u a=>by
 rw[Go.WideShapes.add_plain,Nat.zero_add];refine(Blk.new w T #[zi p.1,zi p.2]).c ?_;simpa[spC]using a
theorem Oj{rr X:lP}(h:w.ownsRow a T 2 v (rr.length+1) (rr.reverse.flatMap spC++spC p))(b:X=p::rr):∃A c,v=.slice A X.length c∧w.ownsRow a T 2 (.slice A X.length c) X.length (X.reverse.flatMap spC):=by
 subst b;obtain⟨A,c,rfl⟩:=AX h;refine⟨A,c,rfl,?_⟩;rw[List.reverse_cons,zr7];simpa using h
theorem Lo(h:w.ownsRow a T 2 (.slice A n c) n xs):n<=c:=by
 rcases h.2 with⟨e,b⟩|⟨g,cap,cur,e,f,i,q1,q2,q3,q4⟩
 ·omega
 injection e with e e2 e3
 omega
theorem P9(A:oA)(n c:Nat)(l:lP)(w:World)(ha:Ab 2 Ad w A n l)(h0:0<n)(hn:n<=1000000)(hg:∀p∈l,inD p) :
  CP 293 #[.slice A n c] w (sU (Be l) w):=by
 have HA:=zH ha;have V:=zH ha.len;have HG:=zH hg;clear ha hg;go_enter func293,ntmps293
 go_wp2_with fail
 go_loopw[3,5,8,9,10,11,12,13,14,15,16,17,18,19,20,21,22,23,24,25,26,27,28,29,30,31,32,33,34,35,36,37,38,39,40,41] (λv _ i _ _ _ _ _ _ _ _ _ _ _ _ _ _ _ _ _ _ _ _ _ _ _ _ _ _ _ _ _ _ _ _ _ wr=>∃(k:Nat)(A1:oA)(c1:Nat),k<=n∧i=zi (k:Int)∧v=.slice A1 (BG (l.take k)).length c1∧Hid (wr.ownsRow w.heap.size 56 2 (.slice A1 (BG (l.take k)).length c1) (BG (l.take k)).length ((BG (l.take k)).reverse.flatMap spC))∧Hid (Bw w wr)) (λ_ _ i _ _ _ _ _ _ _ _ _ _ _ _ _ _ _ _ _ _ _ _ _ _ _ _ _ _ _ _ _ _ _ _ _ _=>n-(intOf i).toNat)
 case atStart=>exact⟨0,none,0,zs3 _,rfl,rfl,zH (by exact World.ownsRow_nil _ _ _ _),zH (by exact zJ)⟩
 case round=>
  obtain⟨k,A1,c1,hk,rfl,rfl,I,X⟩:=hrel;have a4:=P8 l k (by rw[V.o];exact hk);by_cases a5:k<n
  ·obtain⟨b1,ai,p,rfl,aj,Y,d0,d1⟩:=Ap (HA.o.on Aa X.o) a5;have HP:=zH Y;have a0:=zH (Ft Y);have a6:=zH (HG.o p (zq2 Y));have a7:Hid (∀q∈BG (l.take k),inD q):=zH (λq J=>HG.o q (List.mem_of_mem_take (P6 J)));have K:Hid (Bw wr (zw wr #[zi p.1,zi p.2] 56)):=zH (zA _);have t:=zH (Blk.new wr 56 #[zi p.1,zi p.2]);obtain⟨i1,i2⟩:=zI (k:=k) (n:=n) (by omega);have a8:=zH (Ah I.o K.o);clear Y;generalize BG (l.take k)=R0 at *
   go_wp2_with fail
   go_loopw[3,12,13,14,15,16,17,18,19,20,21,22,23,24,25,26,27,28,29,30,31,32,33,34,35,36] (λv _ _ _ _ _ _ _ _ _ _ _ _ _ _ _ _ _ _ _ _ _ _ _ _ _ wq=>∃(rr:lP)(A2:oA)(c2:Nat),rr.length<=R0.length∧v=.slice A2 rr.length c2∧Hid (Ev p rr=Ev p R0)∧Hid (∀q∈rr,inD q)∧Hid (wq.ownsRow w.heap.size 56 2 (.slice A2 rr.length c2) rr.length (rr.reverse.flatMap spC))∧Hid (Bw (zw wr #[zi p.1,zi p.2] 56) wq)) (λv _ _ _ _ _ _ _ _ _ _ _ _ _ _ _ _ _ _ _ _ _ _ _ _ _ _=>sV v)
   case atStart=>exact⟨R0,A1,c1,zs2 _,rfl,zH rfl,a7,a8,zH zJ⟩
   case round=>
    obtain⟨rr,A2,c2,a9,rfl,L,M,s,j⟩:=hrel;have H:=t.o.below j.o;obtain⟨x0,x1⟩:=AR H;have xl:=H.lt;clear H;have z:=zH (X.o.trans ((zT K.o j.o).mono X.o.size));have a1:=Lo s.o;by_cases N:1<rr.length
    ·obtain⟨b,a,r,rfl⟩:∃b a r,rr=b::a::r:=by
      match rr,N with
      | b::a::r,_=>exact⟨b,a,r,rfl⟩
     obtain⟨m,hm⟩:=zG ((b::a::r).length);have Z:=zH hm;rw[hm]at s a9 N a1⊢
     obtain⟨g,rfl,f0,f1,f2,f3,f4⟩:=ZQ s.o Z.o;have a2:=zH (λW=>ZP a b p W (M.o a zP) (M.o b zP) a6.o);have i3:decide ((1:Int)<(m:Int))=true:=zu1 zO;have i4:IntKind.i64.wrap ((m:Int)-2)=((m-2:Nat):Int):=by rw[zs5 _ zO];omega
     have i5:(0:Int)<=((m-2:Nat):Int):=zO;have i6:((m-2:Nat):Int)<(m:Int):=zO;have i7:IntKind.i64.wrap ((m:Int)-1)=((m-1:Nat):Int):=by rw[zs5 _ zO];omega
     have i8:(0:Int)<=((m-1:Nat):Int):=zO;have i9:((m-1:Nat):Int)<(m:Int):=zO;have i10:((m-1:Nat):Int)<=(c2:Int):=zO;have E:=zH (ZR s.o zP Z.o);have F:Hid ((a::r).length=m-1):=zH (by rw[<-Z.o];simp);have aa:m-1<m:=zO;obtain⟨x,H⟩:=zG (m-2);obtain⟨y,hy⟩:=zG (m-1);rw[H]at f0 f1 i4 i5 i6;rw[hy]at f2 f3 i7 i8 i9 i10 E F aa;clear hm H hy;by_cases a3:Ao a b p<=0
     ·have ab:Hid (Ev p (a::r)=Ev p R0):=zH (by rw[<-L.o];conv=>rhs;unfold Ev;rw[if_pos a3])
      go_wp2_with fail
      go_still_tail 17,zk
      go_wp2_with(go_at_call 311;refine(a2.o _).mono ?_;rintro e w9 ⟨rfl,B⟩;have f:=zH (Below.trans (Below.drew zJ) B);have G:=zH (zT z.o f.o);have O:=zH (Ah s.o f.o);have ac:=(AR ((t.o.below j.o).below f.o)).1;have ae:=(AR ((t.o.below j.o).below f.o)).2;clear B)
      go_roundw
      case rel=>exact⟨a::r,_,c2,by rw[F.o];omega,by rw[F.o],ab,zH (λq J=>M.o q (List.mem_cons_of_mem _ J)),zH (by rw[F.o];exact Ah E.o f.o),zH (zT j.o f.o)⟩
      case measure=>simp[sV];omega
     have Q:Hid (BG (l.take (k+1))=p::b::a::r):=zH (by
      rw[a0.o,<-L.o];unfold Ev;rw[if_neg a3])
     go_wp2_with fail
     go_still_tail 17,zk
     go_upto_region 7 with(go_at_call 311;refine(a2.o _).mono ?_;rintro e w9 ⟨rfl,B⟩;have f:=zH (Below.trans (Below.drew zJ) B);have G:=zH (zT z.o f.o);have O:=zH (Ah s.o f.o);have ac:=(AR ((t.o.below j.o).below f.o)).1;have ae:=(AR ((t.o.below j.o).below f.o)).2;clear B)
     go_wp2_with(at_builtin;refine Bt (P:=prog) (by rfl) _ _ 64 (by rfl) w.heap.size 56 (.agg #[zi 0,zi 0]) 2 16 underlying64 BY rfl zD (.slice (sa g 0) m c2) m ((b::a::r).reverse.flatMap spC) (by rfl) (Ah O.o (by exact zA _)) ⟨w9.heap.size,0,none⟩ 1 1 (spC p) (by rfl) (by rfl) (FN _ _ _) (DH _) zU zO (by have:=G.o.size;simp;omega) ?_;intro v7 w7 C D R;obtain⟨A7,c7,S,T⟩:=Oj (by rw[Z.o];exact C) Q.o;subst S;have U:=zH (Ax (Below.alo G.o _) D (by have:=G.o.size;simp;omega) (λg e=>(O.o.lt g e).1));clear C D R)
     go_roundw
     case rel=>exact⟨k+1,A7,c7,by omega,by go_num,rfl,zH T,U⟩
     case measure=>exact zM
    have Q:Hid (BG (l.take (k+1))=p::rr):=zH (by
     rw[a0.o,<-L.o]
     match rr,N with
     | [],_=>rfl
     | [a],_=>rfl
     | b::a::r,h=>exact absurd zP h)
    have i3:decide ((1:Int)<(rr.length:Int))=false:=zu0 zO;clear x0 x1;have x0:=(AR (t.o.below j.o)).1;have x1:=(AR (t.o.below j.o)).2
    go_wp2_with fail
    go_quiet (fail)
    go_wp2_with(at_builtin;refine Bt (P:=prog) (by rfl) _ _ 64 (by rfl) w.heap.size 56 (.agg #[zi 0,zi 0]) 2 16 underlying64 BY rfl zD (.slice A2 rr.length c2) rr.length (rr.reverse.flatMap spC) (by rfl) (Ah s.o (by exact Below.alo (Ai zJ _) _)) ⟨wr.heap.size,0,none⟩ 1 1 (spC p) (by rfl) (by rfl) (FN _ _ _) (DH _) zU zO (by have:=z.o.size;simp;omega) ?_;intro v7 w7 C D R;obtain⟨A7,c7,S,T⟩:=Oj C Q.o;subst S;have U:=zH (Ax (Below.alo (Ai z.o _) _) D (by have:=z.o.size;simp;omega) (λg e=>(s.o.lt g e).1));clear C D R)
    go_roundw
    case rel=>exact⟨k+1,A7,c7,by omega,by go_num,rfl,zH T,U⟩
    case measure=>exact zM
  obtain rfl:k=n:=zO
  have af:BG l≠[]:=by
   obtain⟨q,J⟩:∃q,l[k-1]?=some q:=⟨_,zq0 (by rw[V.o];omega)⟩;have:=Ft J;rw[show k-1+1=k by omega,zq4 (by rw[V.o];exact zs2 _)]at this;rw[this];simp
  rw[zq4 (by rw[V.o];exact zs2 _)]at I a4⊢
  have HE:Hid ((Be l).length=(BG l).length-1∧(Be l).flatMap spC=((BG l).reverse.flatMap spC).take (((BG l).length-1)*2)):=zH (by
   unfold Be;rw[List.dropLast_eq_take,zq7,List.length_reverse,Nb];exact⟨by omega,rfl⟩)
  have ah:0<(BG l).length:=List.length_pos_iff.2 af;have a1:=Lo I.o
  have ag:Hid (wr.ownsRow w.heap.size 56 2 (.slice A1 (Be l).length c1) (Be l).length ((Be l).flatMap spC)):=zH (by
   rw[HE.o.2,HE.o.1];refine L5 I.o ?_ zO;intro e;subst e;rcases I.o.2 with⟨_,h1⟩|⟨g,cap,cur,e,_⟩
   ·omega
   cases e)
  unfold sU;have E:=zH HE.o.1;generalize(BG l).length=m at *
  have i3:IntKind.i64.wrap ((m:Int)-1)=((m-1:Nat):Int):=by rw[zs5 _ zO];omega
  have i4:(0:Int)<=((m-1:Nat):Int):=zO;have i5:((m-1:Nat):Int)<=(m:Int):=zO;have i6:((m-1:Nat):Int)<=(c1:Int):=zO
  go_wp2_with fail
  (try go_ret)
  exact⟨A1,c1,by rw[E.o];rfl,ag.o,X.o⟩
section
open Go.Sort
def Bj:List Pt->List Pt
 | a::b::r=>if a=b then Bj (b::r)else a::Bj (b::r)
 | r=>r
theorem Jp(x y:Pt):∀xs:List Pt,Bj (xs++[x,y])=if x=y then Bj (xs++[x])else Bj (xs++[x])++[y]
 | []=>by
  by_cases h:x=y
  ·subst h;simp[Bj]
  simp[Bj,h]
 | [a]=>by
  have:=Jp x y [];simp only[List.nil_append]at this;show Bj (a::x :: [y])=_;rw[Bj,this];show _=if x=y then Bj (a::x :: [])else Bj (a::x :: [])++[y]
  rw[Bj];by_cases e:a=x
  ·simp only[e,if_true]
  simp only[e,if_false];split <;> simp
 | a::b::r=>by
  have:=Jp x y (b::r);simp only[List.cons_append]at this⊢
  rw[Bj,this,Bj];by_cases e:a=b
  ·simp only[e,if_true]
  simp only[e,if_false];split <;> simp
theorem Uz(e:1<=q)(a:l[q-1]?=some x)(b:l[q]?=some y):l.take (q+1)=l.take (q-1)++[x,y]∧l.take q=l.take (q-1)++[x]:=by
 have e2:l.take q=l.take (q-1)++[x]:=by
  have:l.take (q-1+1)=l.take (q-1)++(l[q-1]?).toList:=List.take_add_one;rw[show q-1+1=q by omega,a]at this;exact this
 refine⟨?_,e2⟩;rw[List.take_add_one,e2,b];simp
theorem L7(a:1<=q)(b:l[q-1]?=some x)(e:l[q]?=some x):Bj (l.take (q+1))=Bj (l.take q):=by
 obtain⟨e1,e2⟩:=Uz a b e;rw[e1,e2,Jp,if_pos rfl]
theorem O3(b:1<=q)(e:l[q-1]?=some x)(f:l[q]?=some y)(a:x≠y):Bj (l.take (q+1))=Bj (l.take q)++[y]:=by
 obtain⟨e1,e2⟩:=Uz b e f;rw[e1,e2,Jp,if_neg a]
theorem FO{r:Option Nat}(a:w.grownBy w1 r)(b:w1.grownBy w2 r):w.grownBy w2 r:=
 ⟨b.os.trans a.os,b.tape.trans a.tape,b.output.trans a.output,zs0 a.size b.size,λk f e=>(b.block k (zs1 f a.size) e).trans (a.block k f e)⟩
theorem Il(g:Nat):∀(vs:lV)(o:Nat)(w:World),w.grownBy (w.setCells g o vs) (some g)
 | [],_,w=>Gb w _
 | v::r,o,w=>FO (Bf w ⟨g,o,none⟩ v) (Il g r (o+1) _)
theorem HSp.put(h:HSp w g f l)(r:k<l.length):HSp ((w.setCell (ad g (f+k*2)) (zi p.1)).setCell (ad g (f+k*2+1)) (zi p.2)) g f (l.set k p):=by
 refine HSp.of_cells (by rw[World.size_setCell,World.size_setCell];exact h.2) λj q i=>?_
 have n:∀a:Addr,((w.setCell (ad g (f+k*2)) (zi p.1)).setCell (ad g (f+k*2+1)) (zi p.2)).frozen? a=w.frozen? a:=λa=>by
  rw[World.frozen?_setCell,World.frozen?_setCell]
 have m:∀{a b:Nat}{v:Value}(W:World),a≠b->(W.setCell (ad g a) v).cell? (ad g b)=W.cell? (ad g b):=λW s=>World.cell?_setCell_other _ _ _ _ (λe=>s (by injection e))
 obtain⟨z,o⟩:∃z,l[j]?=some z:=by
  have:j<(l.set k p).length:=(zq1.1 i).1;rw[List.length_set]at this;exact⟨_,zq0 this⟩
 obtain⟨c0,c1,c2,c3⟩:=h.cells o;rw[n,n];refine⟨?_,?_,c2,c3⟩
 ·rw[m _ zO];by_cases e:j=k
  ·subst e;rw[List.getElem?_set_self r]at i;obtain rfl:=zs6 i;exact World.cell?_setCell_same _ _ _ c0
  rw[List.getElem?_set_ne zO,o]at i;obtain rfl:=zs6 i;rw[m _ zO];exact c0
 by_cases e:j=k
 ·subst e;rw[List.getElem?_set_self r]at i;obtain rfl:=zs6 i;exact World.cell?_setCell_same _ _ _ ((m _ zO).trans c1)
 rw[List.getElem?_set_ne zO,o]at i;obtain rfl:=zs6 i;rw[m _ zO,m _ zO];exact c1
theorem HSp.front{b:Nat}(h:HSp w g b l)(n:g<w'.heap.size)(f:∀i,i<k*2->w'.cell? (ad g (b+i))=w.cell? (ad g (b+i)))(m:∀a,w'.frozen? a=w.frozen? a):HSp w' g b (l.take k):=by
 refine HSp.of_cells n λj q e=>?_
 have o:j<(l.take k).length:=(zq1.1 e).1;rw[zq7]at o;rw[List.getElem?_take_of_lt zO]at e;obtain⟨c0,c1,c2,c3⟩:=h.cells e;rw[m,m,f _ zO,show b+j*2+1=b+(j*2+1)by omega,f _ zO];exact⟨c0,c1,c2,c3⟩
theorem Qb(h:HSp w g a l)(y:l.length=n)(z:k<n):∃L:List Value,∀ty,(Builtin.clear_ #[64] ty #[.slice (sa g (a+k*2)) (n-k) c]).run prog w=.ok (.tuple #[]) (w.setCells g (a+k*2) L):=by
 have s:∀W,(zeroValue 56).run prog W=.ok (.agg #[zi 0,zi 0]) W:=λW=>by
  have:=BY
  cases hq:prog.info? 56 with
  | none=>simp[hq]at this
  | some i=>
   rw[hq]at this;simp at this;simp[zeroValue,typeInfo,hq,this.1]
 have o:∀i,i<n*2->(w.cell? (ad g (a+i))).isSome=true∧w.frozen? (ad g (a+i))=false:=λi hi=>by
  obtain⟨p,t⟩:∃p,l[i/2]?=some p:=⟨_,zq0 zO⟩;obtain⟨c0,c1,c2,c3⟩:=h.cells t;by_cases e:i%2=0
  ·rw[show a+i=a+i/2*2 by omega,c0];exact⟨rfl,c2⟩
  rw[show a+i=a+i/2*2+1 by omega,c1];exact⟨rfl,c3⟩
 obtain⟨m,x⟩:∃m,n-k=m+1:=⟨n-k-1,by omega⟩;refine⟨(Builtin.zeroCells #[zi 0,zi 0] (n-k)).toList,λty=>?_⟩;have b:(Builtin.zeroCells #[zi 0,zi 0] (n-k)).toList.length=(n-k)*2:=by simp[Builtin.zeroCells]
 have f:=run_storeCells_cells (P:=prog) g (a+k*2) (Builtin.zeroCells #[zi 0,zi 0] (n-k)).toList 0 w
  (λj q=>by rw[b]at q;rw[show a+k*2+0+j=a+(k*2+j)by omega];exact(o _ zO).1)
  (λj q=>by rw[b]at q;rw[show a+k*2+0+j=a+(k*2+j)by omega];exact(o _ zO).2)
  (λv r=>by
   have:v=zi 0:=by
    simp only[Builtin.zeroCells,Array.toList_map,zr2]at r;obtain⟨i,_,rfl⟩:=r;have:i%2=0∨i%2=1:=zO;rcases this with e|e <;> simp[e]
   subst this;rfl)
 rw[Nat.add_zero]at f;rw[x]at f⊢
 simp[Builtin.clear_,run_underlying underlying64,s,f,Value.cells]
end
section
open Go.Sort
structure CpI(w wr:World)(g off n q K:Nat)(l M:lP):Prop where
 row:HSp wr g off M
 len:M.length=n
 kept:M.take K=Bj (l.take q)
 low:K<q
 klen:(Bj (l.take q)).length=K
 high:∀i,q-1<=i->M[i]?=l[i]?
 grown:w.grownBy wr (some g)
section
variable{w wr:World}{g off n q K:Nat}{l M:lP}{x y:Pt}
theorem CpI.skip(h:CpI w wr g off n q K l M)(a:1<=q)(b:l[q-1]?=some x)(e:l[q]?=some x):CpI w wr g off n (q+1) K l M:=
 ⟨h.row,h.len,by rw[L7 a b e];exact h.kept,by have:=h.low;omega,by rw[L7 a b e];exact h.klen,λi hi=>h.high i zO,h.grown⟩
theorem CpI.keep(h:CpI w wr g off n q K l M)(e:1<=q)(m:q<n)(f:l[q-1]?=some x)(j:l[q]?=some y)(a:x≠y) :
  CpI w ((wr.setCell (ad g (off+K*2)) (zi y.1)).setCell (ad g (off+K*2+1)) (zi y.2)) g off n (q+1) (K+1) l (M.set K y):=by
 have k:=h.low;have b:K<M.length:=by rw[h.len];omega
 refine⟨h.row.put b,by rw[List.length_set];exact h.len,?_,by omega,?_,λi hi=>?_,FO h.grown (FO (Bf _ _ _) (Bf _ _ _))⟩
 ·rw[O3 e f j a,<-h.kept,List.take_add_one,List.getElem?_set_self b,List.take_set_of_le (zs2 _)];rfl
 ·rw[O3 e f j a,zq5,h.klen];rfl
 rw[List.getElem?_set_ne zO];exact h.high i zO
theorem CpI.drewN(h:CpI w wr g off n q K l M)(m:Nat):CpI w (wr.drewN m) g off n q K l M:=
 ⟨by exact h.row,h.len,h.kept,h.low,h.klen,h.high,⟨h.grown.os,h.grown.tape,h.grown.output,h.grown.size,h.grown.block⟩⟩
theorem CpI.done(h:CpI w wr g off n n K l M)(f:l.length=n)(L:lV):HSp (wr.setCells g (off+K*2) L) g off (Bj l)∧w.grownBy (wr.setCells g (off+K*2) L) (some g):=by
 have e:Bj l=M.take K:=by rw[h.kept,<-f,zq4 (zs2 _)]
 rw[e];have b:=Il g L (off+K*2) wr;refine⟨h.row.front (zs1 h.row.2 b.size) (λi hi=>World.cell?_setCells_out _ _ _ _ _ (λ_ _=>.inl (by simp only;omega))) (λa=>World.frozen?_setCells _ _ _ _ _),FO h.grown b⟩
end
theorem Ok(h:l.length<2):Bj l=l:=by
 match l,h with
 | [],_=>rfl
 | [a],_=>rfl
 | a::b::r,h=>exact absurd h zP
theorem WL(g off cap n:Nat)(l:lP)(w:World)(h:HSp w g off l)(F:l.length=n)(hc:n<=cap)(hm:n<=1000000) :
  CP 292 #[.slice (sa g off) n cap] w λe w'=>e=.returned (.slice (sa g off) (Bj l).length cap)∧HSp w' g off (Bj l)∧w.grownBy w' (some g):=by
 have O:=zH h;have f:=zH F;clear h;by_cases h2:n<2
 ·have r:=zH (Ok (l:=l) zO);clear F;go_enter func292,ntmps292
  go_wp2_with fail
  go_ret;exact⟨by rw[r.o,f.o];rfl,by rw[r.o];exact O.o,Gb _ _⟩
 clear F;go_enter func292,ntmps292
 go_wp2_with fail
 go_loopg [3] n (λgm s3 wr=>∃k:Nat,1<=k∧k<=n∧n-k<=gm∧s3=zi (k:Int)∧Hid (HSp wr g off l∧w.grownBy wr (some g))∧Hid (Bj (l.take k)=l.take k))
 case atStart=>exact⟨1,zs2 _,by omega,by omega,rfl,zH ⟨O.o,Gb _ _⟩,zH (Ok (by rw[zq7];omega))⟩
 case round=>
  obtain⟨k,s,hk,Z,rfl,b,D⟩:=hrel;by_cases a0:k<n
  ·obtain⟨y,G⟩:∃y,l[k]?=some y:=⟨_,zq0 (by rw[f.o];omega)⟩;obtain⟨x,H⟩:∃x,l[k-1]?=some x:=⟨_,zq0 (by rw[f.o];omega)⟩;obtain⟨c0,c1,_,_⟩:=b.o.1.cells G;obtain⟨d0,d1,_,_⟩:=b.o.1.cells H;have I:=zH H;have E:=zH G;have t:=λW=>CL y x W
   obtain⟨i1,i2⟩:=zI (k:=k) (n:=n) (by omega);have i3:IntKind.i64.wrap ((k:Int)-1)=((k-1:Nat):Int):=by rw[zs5 _ zO];omega
   have i4:(0:Int)<=((k-1:Nat):Int):=zO;have i5:((k-1:Nat):Int)<(n:Int):=zO;clear H G;obtain⟨j,p⟩:=zG (k-1);rw[p]at d0 d1 i3 i4 i5;have HJ:=zH p;clear p;by_cases e:y=x
   ·simp only[zu1 e]at t;have P:Hid (CpI w wr g off n (k+1) k l l):=zH ⟨b.o.1,f.o,by rw[L7 s (by rw[I.o,e]) E.o,D.o],by omega,by rw[L7 s (by rw[I.o,e]) E.o,D.o,zq7,f.o];omega,λi hi=>rfl,b.o.2⟩;clear e;have i6:(k:Int)<=(cap:Int):=zO;have i7:¬cap=k:=zO
    go_wp2_with fail
    go_quiet (fail)
    go_wp2_with fail
    go_loopg [3,5] n (λgm s3 s5 wr=>∃(k2 K:Nat)(M:lP),1<=k2∧k+k2<=n∧n-(k+k2)<=gm∧s3=zi (K:Int)∧s5=zi (k2:Int)∧Hid (CpI w wr g off n (k+k2) K l M))
    case atStart=>exact⟨1,k,l,zs2 _,by omega,by omega,rfl,rfl,zH (P.o.drewN _)⟩
    case round=>
     obtain⟨k2,K,M,a1,a2,X,rfl,rfl,a⟩:=hrel;have Y:=a.o.low;obtain⟨z,Q⟩:∃z,M[K]?=some z:=⟨_,zq0 (by rw[a.o.len];omega)⟩;obtain⟨z0,z1,z2,z3⟩:=a.o.row.cells Q;obtain⟨j1,j2⟩:=zI (k:=K) (n:=n) (by omega);have j3:(K:Int)<=(n:Int):=zO;have j4:(K:Int)<=(cap:Int):=zO;have j5:¬cap=K:=zO;have j6:(0:Int)<=(k2:Int):=zO;have a3:=a.o.row.2;clear Q;by_cases B:k+k2<n
     ·obtain⟨u,J⟩:∃u,l[k+k2]?=some u:=⟨_,zq0 (by rw[f.o];exact B)⟩;obtain⟨v,N⟩:∃v,l[k+k2-1]?=some v:=⟨_,zq0 (by rw[f.o];omega)⟩;obtain⟨c0,c1,_,_⟩:=a.o.row.cells ((a.o.high _ zO).trans J);obtain⟨d0,d1,_,_⟩:=a.o.row.cells ((a.o.high _ (zs2 _)).trans N);have R:=zH J;have S:=zH N;have t:=λW=>CL u v W
      have i1:(k2:Int)<((n-k:Nat):Int):=zO;have i3:IntKind.i64.wrap ((k2:Int)-1)=((k2-1:Nat):Int):=by rw[zs5 _ zO];omega
      have i4:(0:Int)<=((k2-1:Nat):Int):=zO;have i5:((k2-1:Nat):Int)<((n-k:Nat):Int):=zO;have i6:IntKind.i64.wrap ((k2:Int)+1)=((k2+1:Nat):Int):=by rw[zs5 _ zO];omega
      have i7:IntKind.i64.wrap ((K:Int)+1)=((K+1:Nat):Int):=by rw[zs5 _ zO];omega
      rw[show off+(k+k2)*2=off+k*2+k2*2 by omega]at c0 c1;rw[show off+(k+k2-1)*2=off+k*2+(k2-1)*2 by omega]at d0 d1;clear J N;obtain⟨j,p⟩:=zG (k2-1);rw[p]at d0 d1 i3 i4 i5;clear p;by_cases e:u=v
      ·simp only[zu1 e]at t;have C:=zH (a.o.skip zO (S.o.trans (by rw[e])) R.o);clear e
       go_wp2_with fail
       go_quiet (fail)
       go_wp2_with fail
       go_roundg (n-(k+(k2+1)))
       case measure=>omega
       case rel=>exact⟨k2+1,K,M,by omega,by omega,zs2 _,rfl,by go_num,zH (C.o.drewN _)⟩
      simp only[zu0 e]at t;have C:=zH (λm=>(a.o.drewN m).keep zO B S.o R.o (λq=>e q.symm));clear e
      go_wp2_with fail
      go_quiet (fail)
      go_wp2_with fail
      go_roundg (n-(k+(k2+1)))
      case measure=>omega
      case rel=>exact⟨k2+1,K+1,M.set K u,by omega,by omega,zs2 _,by go_num,by go_num,zH (C.o _)⟩
     obtain⟨L,a4⟩:=Qb (k:=K) (c:=cap-K) a.o.row a.o.len zO;have T:Hid (HSp (wr.setCells g (off+K*2) L) g off (Bj l)∧w.grownBy (wr.setCells g (off+K*2) L) (some g)):=zH (CpI.done (by have:=a.o;rwa[show k+k2=n by omega]at this) f.o L);have U:Hid ((Bj l).length=K):=zH (by have:=a.o.klen;rwa[show k+k2=n by omega,zq4 (by rw[f.o];exact zs2 _)]at this);have i1:¬(k2:Int)<((n-k:Nat):Int):=zO
     go_wp2_with fail
     go_ret;exact⟨by rw[U.o];rfl,T.o.1,T.o.2⟩
   simp only[zu0 e]at t;have V:Hid (Bj (l.take (k+1))=l.take (k+1)):=zH (by rw[O3 s I.o E.o (λq=>e q.symm),D.o,List.take_add_one,E.o];rfl);clear e
   go_wp2_with fail
   go_quiet (fail)
   go_wp2_with fail
   go_roundg (n-(k+1))
   case measure=>omega
   case rel=>exact⟨k+1,by omega,by omega,zs2 _,by go_num,zH (by exact⟨b.o.1,⟨b.o.2.os,b.o.2.tape,b.o.2.output,b.o.2.size,b.o.2.block⟩⟩),V⟩
  obtain rfl:k=n:=zO;have r:Hid (Bj l=l):=zH (by have:=D.o;rwa[zq4 (by rw[f.o];exact zs2 _)]at this)
  go_wp2_with fail
  go_ret;exact⟨by rw[r.o,f.o];rfl,by rw[r.o];exact b.o.1,b.o.2⟩
end
end Go.Proofs.YteafekbddckemaaGreatDoor
