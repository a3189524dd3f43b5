/- Parts of the proof. -/
import Derived.Test.YteafekbddckemaaGreatDoorH26
set_option maxRecDepth 100000
set_option maxHeartbeats 40000000
namespace Go.Proofs.YteafekbddckemaaGreatDoor
open Tryz Go.RowKit
open Go.Lib hiding intOf
variable{L l:lP}{T U e:TypeId}{W W0 w w' w1 w2 w6 w7 wa:World}{a b g k mb n p q size:Nat}{cs:aV}{done:List PL}{r x:Pt}{s:Ae}{t:Az}{v v' v7:Value}{xs:lV}{α:Type}
theorem vE(h:∀t∈done,t≠[])(a:done≠[]):done.flatMap id≠[]:=by
 cases done with
 | nil=>exact absurd rfl a
 | cons t l=>
  intro e;rw[List.flatMap_cons]at e;exact h t zP (List.append_eq_nil_iff.1 e).1
theorem vF{t:PL}(a:k<=t.length)(b:k≠0):t.take k≠[]:=by
 intro e;have:=congrArg List.length e;rw[zq7]at this;simp only[List.length_nil]at this;omega
theorem Qm(A:oA)(n c:Nat)(ss:List Ae)(P:oA)(m d:Nat)(puts:List Am)(w:World)(ha:Ab 5 D6 w A n ss)(hp:Ab 5 Hs w P m puts)(hm:m<=1000000)(hs:∀s∈ss,s.poly.length<=1000000)(U:∀q∈puts,Q4 q.turn) :
  CP 21 #[.slice A n c,.slice P m d] w (Jo (De ss puts) w):=by
 obtain⟨Q,S⟩:=zG (Jo (De ss puts) w);rw[S];have a5:Hid (∀z,AE (puts.map (Af ss))=.error z->Q=Jo (.error z) w):=zH (λz h=>by rw[<-S,WT h]);have a6:Hid (∀l,AE (puts.map (Af ss))=.ok l->Q=Jo (.ok (I6 (l.flatMap id))) w):=zH (λl h=>by rw[<-S,Z1 h]);have HA:=zH ha;have HP:=zH hp;have a7:=zH hs;have a8:=zH U;clear S ha hp hs U;go_enter func21,ntmps21
 go_wp2_with fail
 go_loopw[6,7,8,9,10,11,12,15,16,17,18,19,20,21,22,23,24,25,26,27,28,29,30,31,32,33,34,35,36,37,38,39,40,41,42,43,44,45,46,47,48,49,50,51] (λe _ _ _ _ _ _ i _ _ _ _ _ _ _ _ _ _ _ _ _ _ _ _ _ _ _ _ _ _ _ _ _ _ _ _ _ _ _ _ _ _ _ _ wr=>∃(j:Nat)(done:List PL)(x:Int),j<=m∧i=zi (j:Int)∧e=zi x∧Hid (x=I6 (done.flatMap id))∧Hid (done.length=j∧∀t∈done,t≠[])∧Hid (AE (puts.map (Af ss))=AE (done.map Except.ok++(puts.drop j).map (Af ss)))∧Hid (Bw w wr)) (λ_ _ _ _ _ _ _ i _ _ _ _ _ _ _ _ _ _ _ _ _ _ _ _ _ _ _ _ _ _ _ _ _ _ _ _ _ _ _ _ _ _ _ _ _=>m-(intOf i).toNat)
 case atStart=>exact⟨0,[],0,zs3 _,rfl,rfl,zH rfl,zH ⟨rfl,λt h=>by cases h⟩,zH zP,zH zJ⟩
 case round=>
  obtain⟨j,done,x,hj,rfl,rfl,E,N,HE,a⟩:=hrel;by_cases a9:j<m
  ·obtain⟨b2,b,q,rfl,r,L,f0',f1',f2',f3',f4'⟩:=Ik HP.o a9;have f0:=(a.o.cell (p:=ad b2 (b+j*5)) r).trans f0';have f1:=(a.o.cell (p:=ad b2 (b+j*5+1)) r).trans f1';have f2:=(a.o.cell (p:=ad b2 (b+j*5+2)) r).trans f2';have f3:=(a.o.cell (p:=ad b2 (b+j*5+3)) r).trans f3';have f4:=(a.o.cell (p:=ad b2 (b+j*5+4)) r).trans f4';have H:=zH (λW (h:Bw w W)=>FL A n c ss q W (HA.o.on Bz h) a7.o (a8.o q (zq2 L)));have f:=zH (Below.alo a.o (.cells #[zi q.shape,.bool q.turn.flip,zi q.turn.quarter,zi q.at_.1,zi q.at_.2] 87));obtain⟨i1,i2⟩:=zI (k:=j) (n:=m) (by omega);have HV:=zH L;clear L f0' f1' f2' f3' f4'
   cases hqp:Af ss q with
   | error z=>
    have M:=Ey hqp;have ai:(z != 0)=true:=by simpa using M
    have T:=zH (a5.o z (by rw[HE.o];exact Np HV.o hqp));rw[hqp]at H;clear hqp M;go_wp2_with(go_at_call 33;refine(H.o _ f.o).mono ?_;rintro e w5 ⟨y,G⟩;replace G:e=.returned (.tuple #[zn,zi z]):=G;subst G;have I:=zH (zT f.o y);clear y)
    rw[T.o];exact⟨I.o,rfl⟩
   | ok t=>
    have aa:=zH (HE.o.trans (congrArg AE (No (done:=done) HV.o hqp)));rw[hqp]at H;obtain⟨_,t2,t3,_⟩:=Ht hqp
    have ab:Hid ((done++[t]).length=j+1∧∀u∈done++[t],u≠[]):=zH ⟨by rw[zq5,N.o.1];rfl,λu O=>by
     rcases zr1.1 O with O|O
     ·exact N.o.2 u O
     obtain rfl:=zr9.1 O;intro e;subst e;simp at t3⟩
    have V:Hid ((done++[t]).flatMap id=done.flatMap id++t):=zH zP;have X:Hid (j≠0->done.flatMap id≠[]):=zH (λh=>vE N.o.2 (λe=>h (by rw[<-N.o.1,e];rfl)))
    have Y:Hid (j=0->done.flatMap id=[]):=zH (λh=>by
     have:done=[]:=zt7 (by rw[N.o.1];exact h);rw[this];rfl)
    clear hqp t3;obtain⟨F,hF⟩:=zG (done.flatMap id);rw[hF]at E V X Y;clear hF;go_wp2_with(go_at_call 33;refine(H.o _ f.o).mono ?_;rintro e w5 ⟨y,G⟩;obtain⟨g5,G,ac,Z⟩:=G;subst G;have I:=zH (zT f.o y);have ae:=zH Z;clear y Z ac)
    go_loopw[6,11,12,31,32,33,34,35,36,37,38,39,40,41,42,43,44,45,46,47,48,49,50] (λe _ _ i _ _ _ _ _ _ _ _ _ _ _ _ _ _ _ _ _ _ _ wr=>∃(k:Nat)(x:Int),k<=t.length∧i=zi (k:Int)∧e=zi x∧Hid (x=I6 (F++t.take k))∧Hid (Bw w5 wr)) (λ_ _ _ i _ _ _ _ _ _ _ _ _ _ _ _ _ _ _ _ _ _ _ _=>t.length-(intOf i).toNat)
    case atStart=>exact⟨0,x,zs3 _,rfl,rfl,zH (by simpa using E.o),zH zJ⟩
    case round=>
     clear E;obtain⟨k,x,hk,rfl,rfl,E,J⟩:=hrel;by_cases a4:k<t.length
     ·obtain⟨b3,ah,v,R,a0,L,g0',g1'⟩:=Ap ae.o a4;injection R with R
      injection R with e1 e2
      subst e1;subst e2;have g0:=(J.o.cell (p:=ad g5 (0+k*2)) a0).trans g0';have g1:=(J.o.cell (p:=ad g5 (0+k*2+1)) a0).trans g1';simp only[Nat.zero_add]at g0 g1;have a1:Hid (I6 (F++t.take (k+1))=if F++t.take k=[]then v.1 else max x v.1):=zH (by rw[J9 L,<-List.append_assoc,iM,E.o]);have B:=zH (Below.alo J.o (.cells #[zi v.1,zi v.2] 56));have i3:(0:Int)<=(k:Int):=zO;have i4:(k:Int)<(t.length:Int):=zO;clear L g0' g1';by_cases M:j=0∧k=0
      ·obtain⟨C,a2⟩:=M;have K:Hid (v.1=I6 (F++t.take (k+1))):=zH (by rw[a1.o,Y.o C,a2];rfl);subst C;subst a2
       go_wp2_with fail
       go_roundw
       case rel=>exact⟨0+1,v.1,by omega,by go_num,rfl,K,B⟩
       case measure=>exact zM
      have a3:F++t.take k≠[]:=by
       intro e;obtain⟨e1,e2⟩:=List.append_eq_nil_iff.1 e;by_cases C:j=0
       ·exact vF hk (λh=>M ⟨C,h⟩) e2
       exact X.o C e1
      have K:Hid (max x v.1=I6 (F++t.take (k+1))):=zH (by rw[a1.o,if_neg a3])
      have g:((j:Int) == 0)=false∨(((j:Int) == 0)=true∧((k:Int) == 0)=false):=by
       simp;omega
      clear a3 M;by_cases hx:x<v.1
      ·have D:Hid (v.1=I6 (F++t.take (k+1))):=zH (by rw[<-K.o];omega);rcases g with g|⟨g,af⟩
       ·go_wp2_with fail
        go_roundw
        case rel=>exact⟨k+1,v.1,by omega,by go_num,rfl,D,B⟩
        case measure=>exact zM
       go_wp2_with fail
       go_roundw
       case rel=>exact⟨k+1,v.1,by omega,by go_num,rfl,D,B⟩
       case measure=>exact zM
      have D:Hid (x=I6 (F++t.take (k+1))):=zH (by rw[<-K.o];omega);rcases g with g|⟨g,af⟩
      ·go_wp2_with fail
       go_roundw
       case rel=>exact⟨k+1,x,by omega,by go_num,rfl,D,B⟩
       case measure=>exact zM
      go_wp2_with fail
      go_roundw
      case rel=>exact⟨k+1,x,by omega,by go_num,rfl,D,B⟩
      case measure=>exact zM
     obtain rfl:k=t.length:=zO;have ag:Hid (x=I6 ((done++[t]).flatMap id)):=zH (by rw[V.o,E.o,zq4 (zs2 _)])
     go_wp2_with fail
     go_roundw
     case rel=>exact⟨j+1,done++[t],x,by omega,by go_num,rfl,ag,ab,aa,zH (zT I.o J.o)⟩
     case measure=>exact zM
  obtain rfl:j=m:=zO;have T:=zH (a6.o done (by rw[HE.o,zr6 (by rw[HP.o.len];exact zs2 _),List.map_nil,zt3,GP]));rw[<-E.o]at T
  go_wp2_with fail
  rw[T.o];exact⟨a.o,rfl⟩
structure Dp(w:World)(base p:Nat)(mo:Option Nat)(v:Value)(l:lP):Prop where
 box:Blk w p 197 #[.map mo,v]
 row:w.ownsRow base 56 2 v l.length (l.flatMap spC)
 mp:∀mb,mo=some mb->Bv spK w mb (DI l)∧base<=mb
 no:mo=none->l=[]
 low:base<=p
theorem Dp.below{mo:Option Nat}(h:Dp w a p mo v l)(b:Bw w w'):Dp w' a p mo v l:=
 ⟨h.box.below b,Ah h.row b,λmb e=>⟨(h.mp mb e).1.below b,(h.mp mb e).2⟩,h.no,h.low⟩
def Dq(p:Nat)(mo:Option Nat)(v:Value)(i:Nat):Prop:=i=p∨mo=some i∨v.ownBlock=some i
def Qn(a p:Nat)(mo:Option Nat)(v:Value)(L:lP)(w:World)(e:Ending)(w':World):Prop:=e=.returned (.tuple #[])∧∃mb v',Dp w' a p (some mb) v' L∧(mo=some mb∨w.heap.size<=mb)∧(∀g,v'.ownBlock=some g->v.ownBlock=some g∨w.heap.size<=g)∧Off (Dq p mo v) w w'
theorem Off.step{S:Nat->Prop}{r:Option Nat}(h:Off S w w1)(a:w1.grownBy w2 r)(f:∀k,r=some k->S k∨w.heap.size<=k):Off S w w2:=
 ⟨a.os.trans h.os,a.tape.trans h.tape,a.output.trans h.output,zs0 h.size a.size,λi hi b=>(a.block i (zs1 hi h.size) λe=>by
  rcases f i e.symm with k|k
  ·exact b k
  omega).trans (h.block i hi b)⟩
theorem Off.step_below{S:Nat->Prop}(h:Off S w w1)(a:Bw w1 w2):Off S w w2:=h.trans (Off.of_below a)
theorem Fb{rb:Nat}{t:TypeId}(h:w.ownsRow b e size v n xs)(j:Blk w rb t cs)(f:t≠e):v.ownBlock≠some rb:=by
 intro e2;rcases h.2 with⟨rfl,_⟩|⟨g,cap,cur,rfl,_,i,_⟩
 ·simp[Value.ownBlock]at e2
 obtain rfl:g=rb:=by simpa[Value.ownBlock]using e2
 have a:w.heap[g]?=some (.cells cs t (0,0)):=j;rw[i]at a;injection a with a
 injection a with _ e3
 exact f e3.symm
theorem Lp{κ : Type}{mk : κ->Value}{m:List (κ × Value)}(h:Bv mk w b m)(i:Blk w g T cs):b≠g:=by
 intro e;subst e;obtain⟨es,clock,a,_⟩:=h;have f:w.heap[b]?=some (.cells cs T (0,0)):=i;rw[f]at a
 cases a
theorem NZ{κ : Type}{mk : κ->Value}{m:List (κ × Value)}(h:Bv mk w b m)(j:w.ownsRow a e size v n xs):v.ownBlock≠some b:=by
 intro e2;rcases j.2 with⟨rfl,_⟩|⟨g,cap,cur,rfl,_,f,_⟩
 ·simp[Value.ownBlock]at e2
 obtain rfl:g=b:=by simpa[Value.ownBlock]using e2
 obtain⟨es,clock,i,_⟩:=h;rw[f]at i
 cases i
section
variable{α : Type}[DecidableEq α]
theorem UV{xs:List α}{x : α}{l:List α}(h:xs[k]?=some x):AJ l (xs.take (k+1))=if x∈AJ l (xs.take k)then AJ l (xs.take k)else AJ l (xs.take k)++[x]:=by
 rw[List.take_add_one,h];exact Sm _ _ _
def inB(x : α)(l:List α):Bool:=decide (x∈l)
theorem Ri{x : α}{l:List α}(h:x∈l):inB x l=true:=zu1 h
theorem UW{x : α}{l:List α}(h:x∉l):inB x l=false:=zu0 h
theorem XM(l:List α)(x : α):(Cz (DI l) x).getD (zF)=.bool (inB x l):=by
 rw[pV];by_cases h:x∈l
 ·rw[if_pos h,Ri h];rfl
 rw[if_neg h,UW h];rfl
end
def iN(w:World)(a p:Nat)(mo:Option Nat)(v:Value)(L:lP)(wr:World):Prop:=∃mb v',Dp wr a p (some mb) v' L∧(mo=some mb∨w.heap.size<=mb)∧(∀g,v'.ownBlock=some g->v.ownBlock=some g∨w.heap.size<=g)∧Off (Dq p mo v) w wr
theorem Dp.more(h:Dp w a p (some mb) v L)(i:Bv spK w6 mb (DI (L++[x])))(j:w.grownBy w6 (some mb))(k:Bw w6 wa)(b:w7.ownsRow a 56 2 v7 (L.length+1) (L.flatMap spC++spC x))(f:wa.grownBy w7 v.ownBlock):Blk w7 p 197 #[.map (some mb),v]∧Dp (w7.setCell (ad p 1) v7) a p (some mb) v7 (L++[x]):=by
 obtain⟨g,l⟩:=h.mp mb rfl;have m:mb≠p:=Lp g h.box;have n:v.ownBlock≠some p:=Fb h.row h.box zD;have o:v.ownBlock≠some mb:=NZ g h.row;have b7:=((h.box.grown j (λe=>m (zs6 e).symm)).below k).grown f (λe=>n e.symm);have q:v7.ownBlock≠some p:=Fb b b7 zD;refine⟨b7,⟨?_,?_,λmb' e=>?_,(λe=>by cases e),h.low⟩⟩
 ·have:=b7.set_ 1 v7;simpa using this
 ·rw[zr7,zq5];have:=b.kept (Bf w7 ⟨p,1,none⟩ v7) (.inr q);simpa using this
 injection e with e
 subst e;exact⟨((i.below k).kept f (λe=>o e.symm)).kept (Bf w7 ⟨p,1,none⟩ v7) (λe=>m (zs6 e)),l⟩
theorem Dp.start(h:Dp w a p none v l)(b:a<=w.heap.size):Dp ((w.setCell (ad p 0) (.map (some w.heap.size))).alloc (.map #[] 0)) a p (some w.heap.size) v l:=by
 have f:l=[]:=h.no rfl;subst f;have g:(w.setCell (ad p 0) (.map (some w.heap.size))).heap.size=w.heap.size:=World.size_setCell _ _ _;refine⟨?_,?_,λmb e=>?_,(λe=>by cases e),h.low⟩
 ·have:=(h.box.set_ 0 (.map (some w.heap.size))).alloc (.map #[] 0);simpa using this
 ·exact Ah (h.row.kept (Bf w ⟨p,0,none⟩ (.map (some w.heap.size))) (.inr (Fb h.row h.box zD))) (zA _)
 injection e with e
 subst e;have:=Bv.made spK (w.setCell (ad p 0) (.map (some w.heap.size)));rw[g]at this;exact⟨this,b⟩
theorem UX[DecidableEq α]{l:List α}{x : α}(h:x∉l):Ec (DI l) x (zY)=DI (l++[x]):=by rw[UT,if_neg h]
theorem vG(h:Dp W a p (some mb) v L)(i:Blk W q T #[zi x.1,zi x.2])(f:W.drew.grownBy w6 (some mb)):w6.ownsRow a 56 2 v L.length (L.flatMap spC)∧Blk w6 p 197 #[.map (some mb),v]∧Blk w6 q T #[zi x.1,zi x.2]:=by
 have hd:=h.below (w':=W.drew) (Below.drew zJ);have b:=i.below (w':=W.drew) (Below.drew zJ);have g:=(hd.mp mb rfl).1;exact⟨hd.row.kept f (.inr (NZ g hd.row)),hd.box.grown f (λe=>Lp g hd.box (zs6 e).symm),b.grown f (λe=>Lp g b (zs6 e).symm)⟩
theorem UY{mo:Option Nat}(h:Off (Dq p mo v) w W)(b:W.drew.grownBy w6 (some mb))(f:mo=some mb∨w.heap.size<=mb)(i:Bw w6 wa)(a:wa.grownBy w7 v'.ownBlock)(j:∀g,v'.ownBlock=some g->v.ownBlock=some g∨w.heap.size<=g):Off (Dq p mo v) w (w7.setCell (ad p 1) v7):=by
 refine((((h.step_below (Below.drew zJ)).step b λk e=>?_).step_below i).step a λk e=>?_).step (Bf w7 ⟨p,1,none⟩ v7) λk e=>.inl (.inl (zs6 e).symm)
 ·injection e with e
  subst e;rcases f with e|e
  ·exact .inl (.inr (.inl e))
  exact .inr e
 rcases j k e with e|e
 ·exact .inl (.inr (.inr e))
 exact .inr e
theorem iO{P:World->Prop}(b:Blk W0 p T #[.map (some mb),v])(a:Blk W0 q U #[zi x.1,zi x.2])(e:∀W,Bw W0 W->P W):∀W,Bw W0 W->(zL W p 0 (.map (some mb))∧zL W q 0 (zi x.1)∧zL W q 1 (zi x.2))∧P W:=λW h=>⟨⟨(b.below h).c rfl,(a.below h).c rfl,(a.below h).c rfl⟩,e W h⟩
theorem Pb(a p:Nat)(mo:Option Nat)(v:Value)(l:lP)(A:oA)(n c:Nat)(xs:lP)(w:World)(t:Dp w a p mo v l)(ha:Ab 2 Ad w A n xs)(hA:∀b a0,A=some ⟨b,a0,none⟩->¬Dq p mo v b)(hn:n<=1000)(hl:l.length<=10000000000)(hs:a<=w.heap.size) :
  CP 102 #[.pointer (sa p 0),.slice A n c] w (Qn a p mo v (AJ l xs) w):=by
 have HA:=zH ha;have aa:=zH hA;have HL:=zH ha.len;have HS:=zH hs;have ar:Hid (Dq p mo v p):=zH (.inl rfl);have c0:=t.box.c (i:=0) rfl;have y0:=t.box.frozen 0;have ab:=t.box.lt;have V:=zH t;have qT:∀(w:World)(r:Option Nat),(binOp .eql 195 (.map r) (.map none)).run prog w=.ok (.bool r.isNone) w:=λw r=>run_eql_map_nil w _ _ _ r underlying195
 have ac:=@run_makeMap prog;clear ha hA t;go_enter func102,ntmps102
 go_upto_if 10 with fail
 go_cut [11,12,13,14] (λ_ _ _ _ wx=>Hid (iN w a p mo v (AJ l []) wx))
 case first=>
  cases mo with
  | none=>
   go_wp2_with fail
   go_meet;exact zH ⟨_,v,V.o.start hs,.inr (zs2 _),λg e=>.inl e,((Off.refl _ _).step (Bf _ ⟨p,0,none⟩ _) (λk e=>.inl (.inl (zs6 e).symm))).step_below (zA _)⟩
  | some mb0=>
   go_wp2_with fail
   go_meet;exact zH ⟨mb0,v,V.o,.inl rfl,λg e=>.inl e,Off.refl _ _⟩
 case rest=>
  have a6:=hcut;clear hcut V c0 y0 ab qT ac
  go_wp2_with fail
  go_loopw[5,17,18,19,20,21,22,23,24,25,26,27,28,29,30,31,32,33,34,35,36,37,38,39,40,41,42,43] (λ_ i _ _ _ _ _ _ _ _ _ _ _ _ _ _ _ _ _ _ _ _ _ _ _ _ _ _ wr=>∃k:Nat,k<=n∧i=zi (k:Int)∧Hid (iN w a p mo v (AJ l (xs.take k)) wr)) (λ_ i _ _ _ _ _ _ _ _ _ _ _ _ _ _ _ _ _ _ _ _ _ _ _ _ _ _ _=>n-(intOf i).toNat)
  case atStart=>exact⟨0,zs3 _,rfl,a6⟩
  case round=>
   obtain⟨k,hk,rfl,HR⟩:=hrel;obtain⟨mb,v',I,a1,a2,f⟩:=HR.o;by_cases a7:k<n
   ·obtain⟨b,a0,x,rfl,au,hx,d0,d1⟩:=Ap (f.recs HA.o aa.o) a7;have C:=zH (UV (l:=l) hx)
    have a8:(AJ l (xs.take k)).length<=10000001000:=by
     have:=FP l (xs.take k);rw[zq7]at this;omega
    obtain⟨L,hL⟩:=zG (AJ l (xs.take k));rw[hL]at C I a8;have K:Bw wr (wr.alloc (.cells #[zi x.1,zi x.2] 56)):=zA _;obtain⟨W0,D⟩:=zG (wr.alloc (.cells #[zi x.1,zi x.2] 56));have X:Blk W0 wr.heap.size 56 #[zi x.1,zi x.2]:=by rw[<-D];exact Blk.new _ _ _
    rw[D]at K;have ae:W0.heap.size=wr.heap.size+1:=by rw[<-D];simp
    have M:=I.below K
    have U:=zH (iO (P:=λW=>(Instr.lookup 195 (.map (some mb)) (.agg #[zi x.1,zi x.2]) false).run prog W=.ok (.bool (inB x L)) W) M.box X (λW h=>by
     have:=(((M.mp mb rfl).1.below h).lookupF Pa underlying195 (z:=zF) (Kt W) x false);rw[if_neg zD,XM]at this;exact this))
    have y:=zH M;have HX:=zH X;have N:=zH (f.step_below K);have s:=zH (zu2 a1 a2);have av:=zH (zs0 HS.o f.size);have aw:=zH f.size;obtain⟨i1,i2⟩:=zI (k:=k) (n:=n) (by omega);clear hx I a1 a2 f M X K;rw[<-D]at U y HX N;clear D ae W0 hL;by_cases j:x∈L
    ·rw[Ri j]at U;rw[if_pos j]at C
     go_wp2_with fail
     go_region_held3(λw'=>(w'.cell? (ad p 0)=some (.map (some mb))∧w'.cell? (ad wr.heap.size 0)=some (zi x.1)∧w'.cell? (ad wr.heap.size 1)=some (zi x.2))∧(Instr.lookup 195 (.map (some mb)) (.agg #[zi x.1,zi x.2]) false).run prog w'=.ok (zY) w')
      ((refine U.o _ ?_;repeat(first|(with_reducible exact zJ)|(with_reducible refine Below.drew ?_))))
      (fail)
     all_goals
      go_wp2_with fail
      go_roundw
      case rel=>exact⟨k+1,by omega,by go_num,by rw[C.o];exact⟨mb,v',y.o.below zB,s.o.1,s.o.2,N.o.step_below zB⟩⟩
      case measure=>exact zM
    rw[UW j]at U;rw[if_neg j]at C
    go_wp2_with fail
    go_region_held3(λw'=>(w'.cell? (ad p 0)=some (.map (some mb))∧w'.cell? (ad wr.heap.size 0)=some (zi x.1)∧w'.cell? (ad wr.heap.size 1)=some (zi x.2))∧(Instr.lookup 195 (.map (some mb)) (.agg #[zi x.1,zi x.2]) false).run prog w'=.ok (zF) w')
     ((refine U.o _ ?_;repeat(first|(with_reducible exact zJ)|(with_reducible refine Below.drew ?_))))
     (fail)
    all_goals
     go_wp2_with fail
     have O:=y.o.below (Below.drew zJ);have E:=HX.o.below (Below.drew zJ);have F:=N.o.step_below (Below.drew zJ);obtain⟨W1,a3⟩:=zG ((wr.alloc (.cells #[zi x.1,zi x.2] 56)).drew);rw[a3]at O E F⊢
     have Y:=zH O;have af:=zH E;have ag:=zH F;have c0:=O.box.c (i:=0) rfl;have e0:=E.c (i:=0) rfl;have e1:=E.c (i:=1) rfl;have ah:a<=W1.heap.size:=zs0 HS.o F.size;have ai:=zH F.size;have uM:=underlying195;clear O E F a3 y HX N U;go_still_tail 5,zk
     go_wp2_with(at_mapUpdate;refine IH (by rfl) _ _ _ _ (by rfl) Pa uM (by rfl) (by exact((Y.o.below (Below.drew zJ)).mp mb rfl).1) x (by rfl) (zY) (by rfl) ?_;intro w6 Z a4;rw[UX j]at Z;have aj:=zH Z;have G:=zH (show W1.drew.grownBy w6 (some mb)from a4);clear Z a4)
     have a9:=zH (λ(wa w7:World)(v7:Value)(t:Bw w6 wa)(H:w7.ownsRow a 56 2 v7 (L.length+1) (L.flatMap spC++spC x))(m:wa.grownBy w7 v'.ownBlock)=>Dp.more (Y.o.below (Below.drew zJ)) aj.o G.o t H m);have ak:=zH (λ(wa w7:World)(v7:Value)(t:Bw w6 wa)(m:wa.grownBy w7 v'.ownBlock)=>UY (v7:=v7) ag.o G.o s.o.1 t m s.o.2);obtain⟨Q,B,J⟩:=vG Y.o af.o G.o;have al:=zH Q;have c1:=B.c (i:=1) rfl;have p6:=B.lt;have e0:=J.c (i:=0) rfl;have e1:=J.c (i:=1) rfl;have ax:a<=w6.heap.size:=zs0 ah G.o.size;have am:Hid (w.heap.size<=w6.heap.size):=zH (zs0 ai.o G.o.size);clear Q B J
     go_region_law (first
      | ((refine GH (by rfl) _ _ 64 (by rfl) a 56 (.agg #[zi 0,zi 0]) 2 16 underlying64 BY rfl zD v' L.length (L.flatMap spC) (by rfl) (Ah al.o zB) ⟨w6.heap.size,0,none⟩ 1 1 (spC x) (by rfl) (by rfl) (FN _ _ _) (DH _) zU zO (by first|(simp;omega)|omega) ?_);go_must(intro v7 w7 H m a5;obtain⟨R,S⟩:=a9.o _ _ _ zB H m;have T:=ak.o _ _ v7 zB m;have t1:=R.c (i:=1) rfl;have z1:=R.frozen 1;have l1:=R.lt;obtain⟨A7,c7,an⟩:=AX H;subst an;have ao:=zH S;have ap:=zH T;have aq:=zH a5;clear R S T H m a5))
      | fail)
     all_goals
      go_wp2_with fail
      go_roundw
      case rel=>
       refine⟨k+1,by omega,by go_num,?_⟩;rw[C.o];refine⟨mb,_,ao.o,s.o.1,λg e=>?_,ap.o⟩;rcases aq.o with q|q
       ·exact s.o.2 g (q.symm.trans e)
       rw[q]at e;injection e with e
       have h1:=am.o;simp at e;omega
      case measure=>exact zM
   obtain rfl:k=n:=zO;rw[zq4 (by rw[HL.o];exact zs2 _)]at HR
   go_wp2_with fail
   go_end0;exact⟨rfl,HR.o⟩
def AaQ:Option Pt->Value
 | some q=>.tuple #[.agg #[zi q.1,zi q.2],zY]
 | none=>.tuple #[.agg #[zi 0,zi 0],zF]
theorem Sn{p:Pt}(h:s.match_=false):Df r s t p=some p:=by unfold Df;rw[if_pos h]
theorem Qo{p:Pt}(h:s.match_=true)(a:Av s.anchor=true):Df r s t p=none:=by unfold Df;rw[if_neg (by rw[h];decide),if_pos a]
theorem Qp{p a:Pt}(h:s.match_=true)(b:Av s.anchor=false)(e:BU t s.anchor=a)(f:Av (a.1+p.1,a.2+p.2)=true):Df r s t p=none:=by unfold Df;rw[if_neg (by rw[h];decide),if_neg (by rw[b];decide)];simp only[e];rw[if_pos f]
theorem Qq{p a:Pt}(h:s.match_=true)(b:Av s.anchor=false)(e:BU t s.anchor=a)(f:Av (a.1+p.1,a.2+p.2)=false):Df r s t p=some ((EY r (a.1+p.1,a.2+p.2) (0,0)).1-a.1,(EY r (a.1+p.1,a.2+p.2) (0,0)).2-a.2):=by unfold Df;rw[if_neg (by rw[h];decide),if_neg (by rw[b];decide)];simp only[e];rw[if_neg (by rw[f];decide)]
theorem XN(r a b:Pt):(-1048576<=(EY r a b).1∧(EY r a b).1<=2097152)∧-1048576<=(EY r a b).2∧(EY r a b).2<=2097152:=by
 have e:=Ha a.1;have f:=Ha a.2;have p1:=Ga r.1;have p2:=Ga r.2;have m1:=Q3 (n:=BC b.1-BC a.1) p1.1 p1.2;have m2:=Q3 (n:=BC b.2-BC a.2) p2.1 p2.2;unfold EY;simp only;omega
theorem Rj{a b:Value}(h:Blk W g T #[a,b])(m n:Value):zL (W.setCell (ad g 0) m) g 0 m∧zL ((W.setCell (ad g 0) m).setCell (ad g 1) n) g 1 n:=⟨(h.set_ 0 m).c zP,((h.set_ 0 m).set_ 1 n).c zP⟩
theorem Nq{a b:Value}(h:Blk w g T #[a,b])(e:Bw w w'):zL w' g 0 a∧zL w' g 1 b∧w'.frozen? (ad g 0)=false∧w'.frozen? (ad g 1)=false∧g<w'.heap.size:=⟨(h.below e).c rfl,(h.below e).c rfl,(h.below e).frozen 0,(h.below e).frozen 1,(h.below e).lt⟩
theorem Z2(r:Pt)(s:Ae)(A:oA)(n c:Nat)(t:Az)(p:Pt)(w:World)(I:Q4 t)(hp:inD p) :
  CP 101 #[.agg #[zi r.1,zi r.2],.agg #[.slice A n c,zi s.grain,.bool s.match_,zi s.anchor.1,zi s.anchor.2],.agg #[.bool t.flip,zi t.quarter],.agg #[zi p.1,zi p.2]] w (zR (AaQ (Df r s t p)) w):=by
 obtain⟨R,y⟩:=zG (Df r s t p);rw[y];obtain⟨W0,l⟩:=zG (((((w.alloc (.cells #[zi r.1,zi r.2] 31)).alloc (.cells #[.slice A n c,zi s.grain,.bool s.match_,zi s.anchor.1,zi s.anchor.2] 79)).alloc (.cells #[.bool t.flip,zi t.quarter] 55)).alloc (.cells #[zi p.1,zi p.2] 56)).alloc (.cells #[zi 0,zi 0] 56));have Q:W0.heap.size=w.heap.size+1+1+1+1+1:=by rw[<-l];simp
 have X1:Blk W0 w.heap.size 31 #[zi r.1,zi r.2]:=by rw[<-l];exact((((Blk.new _ _ _).alloc _).alloc _).alloc _).alloc _
 have X2:Blk W0 (w.heap.size+1) 79 #[.slice A n c,zi s.grain,.bool s.match_,zi s.anchor.1,zi s.anchor.2]:=by rw[<-l];exact(((Blk.new' _ _ _ zP).alloc _).alloc _).alloc _
 have X3:Blk W0 (w.heap.size+1+1) 55 #[.bool t.flip,zi t.quarter]:=by rw[<-l];exact((Blk.new' _ _ _ zP).alloc _).alloc _
 have X4:Blk W0 (w.heap.size+1+1+1) 56 #[zi p.1,zi p.2]:=by rw[<-l];exact(Blk.new' _ _ _ zP).alloc _
 have X5:Blk W0 (w.heap.size+1+1+1+1) 56 #[zi 0,zi 0]:=by rw[<-l];exact Blk.new' _ _ _ zP
 have S:Bw w W0:=by rw[<-l];exact Below.alo (Below.alo (Below.alo (Below.alo (zA _) _) _) _) _
 have P:=zH (λW (h:Bw W0 W)=>Nq X1 h);have J:=zH (λW (h:Bw W0 W)=>zu2 (Dm (X2.below h)) (X2.below h).lt);have K:=zH (λW (h:Bw W0 W)=>Nq X3 h);have L:=zH (λW (h:Bw W0 W)=>Nq X4 h);have H:=zH (λW (h:Bw W0 W)=>X5.below h);have z:=zH S;have M:=zH Q;rw[<-l]at P J K L H z M;clear Q l X1 X2 X3 X4 X5 S
 cases hm:s.match_ with
 | false=>
  have B:Hid (R=some p):=zH (by rw[<-y,Sn hm]);rw[hm]at P J K L H z M;clear y hm I;go_enter func101,ntmps101
  go_wp2_with fail
  rw[B.o];refine bodyPost_ret (v:=.tuple #[.agg #[zi p.1,zi p.2],zY]) (by simp[results,results101,go_sem]) rfl ⟨rfl,?_⟩
  repeat(first|(with_reducible exact zJ)|(with_reducible refine Ai ?_ _)|(with_reducible refine Below.drew ?_)|(with_reducible refine Below.alo ?_ _)|(with_reducible refine Below.setCell ?_ (by dsimp only;omega) _))
 | true=>
  have D:=zH (λW=>PU s.anchor W);rw[hm]at P J K L H z M
  cases hout:Av s.anchor with
  | true=>
   have B:Hid (R=none):=zH (by rw[<-y,Qo hm hout]);rw[hout]at D;clear y hm I hout;go_enter func101,ntmps101;go_wp2_with(go_at_call 142;refine(D.o _).mono ?_;rintro e w1 ⟨rfl,f⟩;have b:=H.o _ f;have k5:=b.c (i:=0) rfl;have k6:=b.c (i:=1) rfl;have k7:=b.frozen 0;have k8:=b.frozen 1;have k9:=b.lt;obtain⟨u0,u1⟩:=Rj b (zi 0) (zi 0);have k:=zH (zT z.o f);clear f b)
   rw[B.o];refine bodyPost_ret (v:=.tuple #[.agg #[zi 0,zi 0],zF]) (by simp[results,results101,go_sem,u0,u1]) rfl ⟨rfl,?_⟩
   repeat(first|(with_reducible exact k.o)|(with_reducible exact zJ)|(with_reducible refine Ai ?_ _)|(with_reducible refine Below.drew ?_)|(with_reducible refine Below.alo ?_ _)|(with_reducible refine Below.setCell ?_ (by dsimp only;omega) _))
  | false=>
   have E:inG s.anchor:=DZ.1 hout;have V:=zH (λW=>Kn t s.anchor W I E);obtain⟨a,N⟩:=zG (BU t s.anchor);obtain⟨a1,a2,a3,a4⟩:=JY t s.anchor E;obtain⟨t1,t2,t3,t4⟩:=hp;rw[N]at V a1 a2 a3 a4;have i1:IntKind.i64.wrap (a.1+p.1)=a.1+p.1:=zs5 _ zO;have i2:IntKind.i64.wrap (a.2+p.2)=a.2+p.2:=zs5 _ zO;have F:=zH (λW=>PU (a.1+p.1,a.2+p.2) W);rw[hout]at D
   cases hj:Av (a.1+p.1,a.2+p.2)with
   | true=>
    have B:Hid (R=none):=zH (by rw[<-y,Qp hm hout N hj]);rw[hj]at F;clear y hm I hout E N a1 a2 a3 a4 t1 t2 t3 t4 hj;go_enter func101,ntmps101
    go_wp2_with(first
     | (go_at_call 142;first
       | (refine(D.o _).mono ?_;rintro e w1 ⟨rfl,f⟩;have k:=zH f;obtain⟨k0,k1,_,_,k2⟩:=K.o _ f;obtain⟨⟨j0,j1,j2,j3,j4⟩,j5⟩:=J.o _ f;clear f D)
       | (refine(F.o _).mono ?_;rintro e w3 ⟨rfl,m⟩;have j:=(Below.alo C.o _).trans (m.mono (Below.alo C.o _).size);have G:=zH (zT z.o j);have b:=H.o _ j;have k5:=b.c (i:=0) rfl;have k6:=b.c (i:=1) rfl;have k7:=b.frozen 0;have k8:=b.frozen 1;have k9:=b.lt;obtain⟨u0,u1⟩:=Rj b (zi 0) (zi 0);clear m j b))
     | (go_at_call 62;refine(V.o _).mono ?_;rintro e w2 ⟨rfl,q⟩;have C:=zH (Below.alo (zT k.o q) (.cells #[zi a.1,zi a.2] 56));obtain⟨m0,m1,_,_,m2⟩:=L.o _ (zT k.o q);clear q))
    rw[B.o];refine bodyPost_ret (v:=.tuple #[.agg #[zi 0,zi 0],zF]) (by simp[results,results101,go_sem,u0,u1]) rfl ⟨rfl,?_⟩
    repeat(first|(with_reducible exact G.o)|(with_reducible exact zJ)|(with_reducible refine Ai ?_ _)|(with_reducible refine Below.drew ?_)|(with_reducible refine Below.alo ?_ _)|(with_reducible refine Below.setCell ?_ (by dsimp only;omega) _))
   | false=>
    have X:=zH (λW=>fZ r (a.1+p.1,a.2+p.2) (0,0) W);obtain⟨⟨n1,n2⟩,n3,n4⟩:=XN r (a.1+p.1,a.2+p.2) (0,0);have B:Hid (R=some ((EY r (a.1+p.1,a.2+p.2) (0,0)).1-a.1,(EY r (a.1+p.1,a.2+p.2) (0,0)).2-a.2)):=zH (by rw[<-y,Qq hm hout N hj]);obtain⟨x,Y⟩:=zG (EY r (a.1+p.1,a.2+p.2) (0,0));rw[Y]at X B n1 n2 n3 n4;have i3:IntKind.i64.wrap (x.1-a.1)=x.1-a.1:=zs5 _ zO;have i4:IntKind.i64.wrap (x.2-a.2)=x.2-a.2:=zs5 _ zO;rw[hj]at F;clear y hm I hout E N a1 a2 a3 a4 t1 t2 t3 t4 hj Y n1 n2 n3 n4;go_enter func101,ntmps101
    go_wp2_with(first
     | (go_at_call 142;first
       | (refine(D.o _).mono ?_;rintro e w1 ⟨rfl,f⟩;have k:=zH f;obtain⟨k0,k1,_,_,k2⟩:=K.o _ f;obtain⟨⟨j0,j1,j2,j3,j4⟩,j5⟩:=J.o _ f;clear f D)
       | (refine(F.o _).mono ?_;rintro e w3 ⟨rfl,m⟩;have j:=(Below.alo C.o (.cells #[zi (a.1+p.1),zi (a.2+p.2)] 56)).trans (m.mono (Below.alo C.o _).size);have G:=zH j;obtain⟨l0,l1,_,_,l2⟩:=P.o _ j;obtain⟨v0,v1⟩:=AR ((Blk.new' (w2.alloc (.cells #[zi a.1,zi a.2] 56)) 56 #[zi (a.1+p.1),zi (a.2+p.2)] (g:=w2.heap.size+1) zP).below m);have T:=zH (((Blk.new w2 56 #[zi a.1,zi a.2]).alloc (.cells #[zi (a.1+p.1),zi (a.2+p.2)] 56)).below m);clear m j))
     | (go_at_call 62;refine(V.o _).mono ?_;rintro e w2 ⟨rfl,q⟩;have C:=zH (Below.alo (zT k.o q) (.cells #[zi a.1,zi a.2] 56));obtain⟨m0,m1,_,_,m2⟩:=L.o _ (zT k.o q);clear q)
     | (go_at_call 143;refine(X.o _).mono ?_;rintro e w4 ⟨rfl,j⟩;have O:=Below.alo (zT G.o j) (.cells #[zi x.1,zi x.2] 56);have Z:=zH (zT z.o O);have b:=H.o _ O;have k5:=b.c (i:=0) rfl;have k6:=b.c (i:=1) rfl;have k7:=b.frozen 0;have k8:=b.frozen 1;have k9:=b.lt;obtain⟨u0,u1⟩:=Rj b (zi (x.1-a.1)) (zi (x.2-a.2));have U:=(T.o.below j).alloc (.cells #[zi x.1,zi x.2] 56);obtain⟨y0,y1⟩:=AR U;have y2:=(T.o.below j).lt;clear j O b U))
    rw[B.o];refine bodyPost_ret (v:=.tuple #[.agg #[zi (x.1-a.1),zi (x.2-a.2)],zY]) (by simp[results,results101,go_sem,u0,u1]) rfl ⟨rfl,?_⟩
    repeat(first|(with_reducible exact Z.o)|(with_reducible exact zJ)|(with_reducible refine Ai ?_ _)|(with_reducible refine Below.drew ?_)|(with_reducible refine Below.alo ?_ _)|(with_reducible refine Below.setCell ?_ (by dsimp only;omega) _))
end Go.Proofs.YteafekbddckemaaGreatDoor
