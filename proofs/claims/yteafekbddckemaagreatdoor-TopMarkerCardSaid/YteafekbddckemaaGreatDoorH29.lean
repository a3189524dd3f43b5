/- Parts of the proof. -/
import Derived.Test.YteafekbddckemaaGreatDoorH28
set_option maxRecDepth 100000
set_option maxHeartbeats 40000000
namespace Go.Proofs.YteafekbddckemaaGreatDoor
open Tryz Go.RowKit
open Go.Lib hiding intOf
variable{A:oA}{T U:TypeId}{W W0 w w' w0 w6:World}{a g mb n p q:Nat}{b:AG}{k z:Int}{l:List PL}{puts:List Am}{r:lP}{ss:List Ae}{t:Az}{v v7:Value}
def DD(b:AG)(ss:List Ae)(puts:List Am)(k:Int)(t:Az):Except Int (List Pt×List PL):=
 if BV b=true then .error 3 else match Af ss ⟨k,t,(0,0)⟩with
 | .error z=>.error z
 | .ok r=>match AE (puts.map (Af ss))with
  | .error z=>.error z
  | .ok l=>.ok (r,l)
theorem qC(h:BV b=true):DD b ss puts k t=.error 3:=by unfold DD;rw[if_pos h]
theorem vK(h:BV b=false)(a:Af ss ⟨k,t,(0,0)⟩=.error z):DD b ss puts k t=.error z:=by unfold DD;rw[if_neg (by rw[h];decide),a]
theorem vL(h:BV b=false)(a:Af ss ⟨k,t,(0,0)⟩=.ok r)(e:AE (puts.map (Af ss))=.error z):DD b ss puts k t=.error z:=by unfold DD;rw[if_neg (by rw[h];decide),a];simp only[e]
theorem vM(h:BV b=false)(a:Af ss ⟨k,t,(0,0)⟩=.ok r)(e:AE (puts.map (Af ss))=.ok l):DD b ss puts k t=.ok (r,l):=by unfold DD;rw[if_neg (by rw[h];decide),a];simp only[e]
def Lr(x:Except Int (List Pt×List PL))(w:World)(e:Ending)(w':World):Prop:=Bw w w'∧match x with
 | .ok (r,l)=>∃g A c,e=.returned (.tuple #[.slice (sa g 0) r.length r.length,.slice A l.length c,zi 0])∧Ab 2 Ad w' (sa g 0) r.length r∧Ab 1 plG w' A l.length l
 | .error z=>e=.returned (.tuple #[zn,zn,zi z])
theorem DS.all{rs:List (Value×PL)}(h:DS w a v rs):∃A c,v=.slice A (Bp rs).length c∧Ab 1 plG w A (Bp rs).length (Bp rs):=by
 have b:(Bp rs).length=rs.length:=by simp[Bp]
 by_cases e:0<rs.length
 ·obtain⟨g,c,rfl,_,_,f⟩:=h.done e;have:=f.recs;rw[<-b]at this⊢
  exact⟨_,c,rfl,this⟩
 have i:rs=[]:=zt7 zO;subst i;obtain⟨A,c,rfl⟩:=AX h.own;exact⟨A,c,rfl,Ab.nil _ _ _ _⟩
theorem XV(a:Ab 2 Ad w (sa g 0) r.length r)(i:0<r.length)(j:r.length<=1000000)(l:∀k,v.ownBlock=some k->k<w0.heap.size)(n:w0.heap.size<=g):PlO w v.ownBlock (.slice (sa g 0) r.length r.length,r):=by
 refine⟨_,_,_,rfl,a,zs2 _,j,λb f e=>?_⟩;injection e with e
 injection e with e1 _
 subst e1;obtain⟨b,f,e,m,_⟩:=a.2 i;injection e with e
 injection e with e1 _
 subst e1;exact⟨λq=>by have:=l g q.symm;omega,m⟩
theorem WU(b:AG)(A:oA)(n c:Nat)(ss:List Ae)(P:oA)(m d:Nat)(puts:List Am)(k:Int)(t:Az)(w:World)(O:Ab 5 D6 w A n ss)(Y:Ab 5 Hs w P m puts)(hm:m<=1000000)(R:∀s∈ss,s.poly.length<=1000000)(Z:Q4 t)(K:∀q∈puts,Q4 q.turn) :
  CP 66 #[.agg #[zi b.length,zi b.width,zi b.rx,zi b.ry],.slice A n c,.slice P m d,zi k,.agg #[.bool t.flip,zi t.quarter]] w (Lr (DD b ss puts k t) w):=by
 obtain⟨Q,E⟩:=zG (Lr (DD b ss puts k t) w);rw[E];have f:Hid (Bw w (zw (zw w #[zi b.length,zi b.width,zi b.rx,zi b.ry] 33) #[.bool t.flip,zi t.quarter] 55)):=zH (Below.alo (zA _) _);by_cases a:BV b=true
 ·have D:Hid (Q=Lr (.error 3) w):=zH (by rw[<-E,qC a]);clear E O Y R Z K;obtain⟨bl,bw,rx,ry⟩:=b;simp only at *
  by_cases h1:bl<1
  ·go_enter func66,ntmps66;go_wp2;refine bodyPost_ret (v:=.tuple #[zn,zn,zi 3]) (by simp[results,results66,go_sem]) rfl ?_;rw[D.o];exact⟨f.o,rfl⟩
  by_cases h2:1048576<bl
  ·go_enter func66,ntmps66;go_wp2;refine bodyPost_ret (v:=.tuple #[zn,zn,zi 3]) (by simp[results,results66,go_sem]) rfl ?_;rw[D.o];exact⟨f.o,rfl⟩
  by_cases h3:bw<1
  ·go_enter func66,ntmps66;go_wp2;refine bodyPost_ret (v:=.tuple #[zn,zn,zi 3]) (by simp[results,results66,go_sem]) rfl ?_;rw[D.o];exact⟨f.o,rfl⟩
  have h4:1048576<bw:=by
   unfold BV at a;simp only[Bool.or_eq_true,decide_eq_true_eq]at a;omega
  go_enter func66,ntmps66;go_wp2;refine bodyPost_ret (v:=.tuple #[zn,zn,zi 3]) (by simp[results,results66,go_sem]) rfl ?_;rw[D.o];exact⟨f.o,rfl⟩
 have y:BV b=false:=by simpa using a
 have ab:¬b.length<1∧¬1048576<b.length∧¬b.width<1∧¬1048576<b.width:=by
  unfold BV at a;simp only[Bool.or_eq_true,decide_eq_true_eq]at a;omega
 obtain⟨i1,i2,i3,i4⟩:=ab;have HA:=zH O;have HP:=zH Y;have ac:=zH R;have ae:=zH K;have F:=zH (λW (h:Bw w W)=>FL A n c ss ⟨k,t,(0,0)⟩ W (O.on Bz h) R Z);simp only at F
 cases hpp:Af ss ⟨k,t,(0,0)⟩with
 | error z=>
  have S:=Ey hpp;have af:(z != 0)=true:=by simpa using S
  have D:Hid (Q=Lr (.error z) w):=zH (by rw[<-E,vK y hpp]);rw[hpp]at F;clear E O Y R Z K a y hpp S;go_enter func66,ntmps66;go_wp2_with(go_at_call 33;refine(F.o _ f.o).mono ?_;rintro e w1 ⟨G,g⟩;replace g:e=.returned (.tuple #[zn,zi z]):=g;subst g;have L:=zH (zT f.o G);clear G)
  refine bodyPost_ret (v:=.tuple #[zn,zn,zi z]) (by simp[results,results66,go_sem]) rfl ?_;rw[D.o];exact⟨L.o,rfl⟩
 | ok r=>
  rw[hpp]at F;have ag:Hid (∀z,AE (puts.map (Af ss))=.error z->Q=Lr (.error z) w):=zH (λz h=>by rw[<-E,vL y hpp h]);have ah:Hid (∀l,AE (puts.map (Af ss))=.ok l->Q=Lr (.ok (r,l)) w):=zH (λl h=>by rw[<-E,vM y hpp h]);clear E O Y R Z K a y hpp;go_enter func66,ntmps66;go_wp2_with(go_at_call 33;refine(F.o _ f.o).mono ?_;rintro e w1 ⟨G,g⟩;obtain⟨g1,g,ai,a0⟩:=g;subst g;have L:=zH (zT f.o G);have aj:=zH a0;clear G a0 ai)
  go_loopw[15,17,18,19,51,52,53,54,55,56,57,58,59,60,61,62,63,64,65,66,67,68] (λv _ _ _ i _ _ _ _ _ _ _ _ _ _ _ _ _ _ _ _ _ wr=>∃(j:Nat)(rs:List (Value×PL)),j<=m∧i=zi (j:Int)∧Hid (DS wr w1.heap.size v rs)∧Hid (rs.length=j)∧Hid (AE (puts.map (Af ss))=AE ((Bp rs).map Except.ok++(puts.drop j).map (Af ss)))∧Hid (Bw w1 wr)) (λ_ _ _ _ i _ _ _ _ _ _ _ _ _ _ _ _ _ _ _ _ _ _=>m-(intOf i).toNat)
  case atStart=>exact⟨0,[],zs3 _,rfl,zH (DS.start _ _),zH rfl,zH (by simp[Bp]),zH zJ⟩
  case round=>
   obtain⟨j,rs,hj,rfl,HG,a1,HE,H⟩:=hrel;have B:=zH (zT L.o H.o);by_cases ak:j<m
   ·obtain⟨b2,C,q,rfl,I,hv,f0',f1',f2',f3',f4'⟩:=Ik HP.o ak;have f0:=(B.o.cell (p:=ad b2 (C+j*5)) I).trans f0';have f1:=(B.o.cell (p:=ad b2 (C+j*5+1)) I).trans f1';have f2:=(B.o.cell (p:=ad b2 (C+j*5+2)) I).trans f2';have f3:=(B.o.cell (p:=ad b2 (C+j*5+3)) I).trans f3';have f4:=(B.o.cell (p:=ad b2 (C+j*5+4)) I).trans f4';have M:=zH (λW (h:Bw w W)=>FL A n c ss q W (HA.o.on Bz h) ac.o (ae.o q (zq2 hv)));have T:Bw wr (zw wr #[zi q.shape,.bool q.turn.flip,zi q.turn.quarter,zi q.at_.1,zi q.at_.2] 87):=zA _;have N:=zH (zT B.o T);have HV:=zH hv;have U:=zH T;obtain⟨j1,j2⟩:=zI (k:=j) (n:=m) (by omega);clear hv f0' f1' f2' f3' f4' T
    cases hqp:Af ss q with
    | error z=>
     have S:=Ey hqp;have af:(z != 0)=true:=by simpa using S
     have D:=zH (ag.o z (by rw[HE.o];exact Np HV.o hqp));rw[hqp]at M;clear hqp S;go_wp2_with(go_at_call 33;refine(M.o _ N.o).mono ?_;rintro e w5 ⟨J,g⟩;replace g:e=.returned (.tuple #[zn,zi z]):=g;subst g;have al:=zH (zT N.o J);clear J)
     refine bodyPost_ret (v:=.tuple #[zn,zn,zi z]) (by simp[results,results66,go_sem]) rfl ?_;rw[D.o];exact⟨al.o,rfl⟩
    | ok u=>
     have am:=zH (HE.o.trans (congrArg AE (No (done:=Bp rs) HV.o hqp)));rw[hqp]at M;obtain⟨_,u2,u3,_⟩:=Ht hqp;have ar:=a1.o;have a2:=zH (zu2 u2 u3);clear hqp u3
     go_wp2_with(first
      | (go_at_call 33;refine(M.o _ N.o).mono ?_;rintro e w5 ⟨J,g⟩;obtain⟨g5,g,a3,a4⟩:=g;subst g;have a5:=zT U.o J;have V:=zH (Below.alo a5 (.cells #[.slice (sa g5 0) u.length u.length] 64));have an:=zH ((XV a4 (zV a2.o) (zV a2.o) (λk e=>(HG.o.own.lt k e).2) (zs0 U.o.size a3)).below (zA (.cells #[.slice (sa g5 0) u.length u.length] 64)));have a6:=zH (HG.o.below V.o);have a7:=zH (zs0 H.o.size V.o.size);clear J a5 a4 a3)
      | (at_builtin;refine Bt (P:=prog) (by rfl) _ _ 51 (by rfl) w1.heap.size 64 (zn) 1 24 underlying51 JD rfl zD u15 rs.length (rs.flatMap λx=>[x.1]) (by rfl) a6.o.own ⟨w5.heap.size,0,none⟩ 1 1 [.slice (sa g5 0) u.length u.length] (by rfl) (by rfl) (EV (Blk.new w5 64 _)) (λu hu=>by obtain rfl:=zr9.1 hu;rfl) zU zO a7.o ?_;intro v7 w7 a8 X a9;have ao:=zH (a6.o.more an.o a8 X a9);have ap:=zH (Ax (zT H.o V.o) X a7.o (λk e=>(HG.o.own.lt k e).1));clear a8 X a9))
     go_roundw
     case rel=>exact⟨j+1,rs++[(.slice (sa g5 0) u.length u.length,u)],by omega,by go_num,ao,zH (by rw[zq5,a1.o];rfl),zH (by rw[am.o];simp[Bp]),ap⟩
     case measure=>exact zM
   obtain rfl:j=m:=zO;have D:=zH (ah.o (Bp rs) (by rw[HE.o,zr6 (by rw[HP.o.len];exact zs2 _),List.map_nil,zt3,GP]));obtain⟨A7,c7,rfl,aa⟩:=HG.o.all;have aq:=zH aa;clear aa
   go_wp2_with fail
   refine bodyPost_ret (v:=.tuple #[.slice (sa g1 0) r.length r.length,.slice A7 (Bp rs).length c7,zi 0]) (by simp[results,results66,go_sem]) rfl ?_;rw[D.o];exact⟨B.o,g1,A7,c7,rfl,aj.o.on Aa H.o,aq.o⟩
abbrev AY:=Am×Int
def enC(x:AY):List Value:=[zi x.1.shape,.bool x.1.turn.flip,zi x.1.turn.quarter,zi x.1.at_.1,zi x.1.at_.2,zi x.2]
theorem vN(x:AY):(enC x).length=6:=rfl
theorem vO(x:AY):∀v∈enC x,v.oneCell'=true:=λv a=>by
 simp only[enC,zr3,List.not_mem_nil,or_false]at a;rcases a with rfl|rfl|rfl|rfl|rfl|rfl <;> rfl
def enG(_:World)(x:AY)(vs:lV):Prop:=vs=enC x
theorem vP:GC enG:=λ_ _ _ _ _ h=>h
def enK(x:AY):Value:=.agg #[zi x.1.shape,.bool x.1.turn.flip,zi x.1.turn.quarter,zi x.1.at_.1,zi x.1.at_.2,zi x.2]
theorem vQ:(prog.info? 163).map (λi=>(i.zero,i.size,i.bytes))=some (some (.agg #[zi 0,zF,zi 0,zi 0,zi 0,zi 0]),6,48):=zk
theorem iW{k:Nat}{l:List AY}(h:Ab 6 enG w A n l)(f:k<n):∃b a x,A=some ⟨b,a,none⟩∧b<w.heap.size∧l[k]?=some x∧zL w b (a+k*6) (zi x.1.shape)∧zL w b (a+k*6+1) (.bool x.1.turn.flip)∧zL w b (a+k*6+2) (zi x.1.turn.quarter)∧zL w b (a+k*6+3) (zi x.1.at_.1)∧zL w b (a+k*6+4) (zi x.1.at_.2)∧zL w b (a+k*6+5) (zi x.2):=by
 obtain⟨b,a,x,vs,rfl,g,i,rfl,e⟩:=h.at_ f;exact⟨b,a,x,rfl,g,i,e 0 _ rfl,e 1 _ rfl,e 2 _ rfl,e 3 _ rfl,e 4 _ rfl,e 5 _ rfl⟩
theorem Off.recsE{S:Nat->Prop}{l:List AY}(h:Off S w w')(g:Ab 6 enG w A n l)(k:∀b a,A=some ⟨b,a,none⟩->¬S b):Ab 6 enG w' A n l:=by
 refine⟨g.1,λm=>?_⟩;obtain⟨b,a,e,f,o⟩:=g.2 m;refine⟨b,a,e,zs1 f h.size,λj x p=>?_⟩;obtain⟨vs,q,r⟩:=o j x p;refine⟨vs,q,λi u s=>?_⟩;rw[<-r i u s];unfold World.cell?;simp only;rw[h.block b f (k b a e)]
theorem In{a0 a1 a2 a3 a4 a5:Value}(h:Blk w g T #[a0,a1,a2,a3,a4,a5]):zL w g 0 a0∧zL w g 1 a1∧zL w g 2 a2∧zL w g 3 a3∧zL w g 4 a4∧zL w g 5 a5:=⟨h.c rfl,h.c rfl,h.c rfl,h.c rfl,h.c rfl,h.c rfl⟩
theorem U5(d:Nat)(x y:Az)(w:World):(Op.equalIn (d+2) 55 (.agg #[.bool x.flip,zi x.quarter]) (.agg #[.bool y.flip,zi y.quarter])).run prog w=.ok (decide (x=y)) w:=by
 have ui:=underlying3;have ai:=isAgg3;have zi:=sizeOf3;have ub:=underlying4;have ab:=isAgg4;have zb:=sizeOf4;have f:prog.underlying 55=some (.struct (prog.fieldsOf 55)):=zk;have g:prog.stoodInHeld 55=false:=zk;rw[show d+2=(d+1)+1 from rfl,run_equalIn_agg w (d+1) _ _ _ f g];simp only[Program.fieldsOf,underlying55];go_simp
 obtain⟨a,b⟩:=x;obtain⟨c,e⟩:=y;by_cases i:a=c <;> by_cases j:b=e <;> simp[i,j]
theorem U6(d:Nat)(x y:Pt)(w:World):(Op.equalIn (d+2) 56 (.agg #[zi x.1,zi x.2]) (.agg #[zi y.1,zi y.2])).run prog w=.ok (decide (x=y)) w:=by
 have ui:=underlying3;have ai:=isAgg3;have zi:=sizeOf3;have ub:=underlying4;have ab:=isAgg4;have zb:=sizeOf4;have f:prog.underlying 56=some (.struct (prog.fieldsOf 56)):=zk;have g:prog.stoodInHeld 56=false:=zk;rw[show d+2=(d+1)+1 from rfl,run_equalIn_agg w (d+1) _ _ _ f g];simp only[Program.fieldsOf,underlying56];go_simp
 obtain⟨a,b⟩:=x;obtain⟨c,e⟩:=y;by_cases i:a=c <;> by_cases j:b=e <;> simp[i,j]
theorem vR(d:Nat)(x y:Am)(w:World):(Op.equalIn (d+3) 87 (.agg #[zi x.shape,.bool x.turn.flip,zi x.turn.quarter,zi x.at_.1,zi x.at_.2]) (.agg #[zi y.shape,.bool y.turn.flip,zi y.turn.quarter,zi y.at_.1,zi y.at_.2])).run prog w=.ok (decide (x=y)) w:=by
 have ui:=underlying3;have ai:=isAgg3;have zi:=sizeOf3;have ub:=underlying4;have ab:=isAgg4;have zb:=sizeOf4;have ut:=underlying55;have aT:=isAgg55;have zt:=sizeOf55;have us:=underlying56;have aS:=isAgg56;have zs:=sizeOf56;have up:=underlying87;have ap:=isAgg87;have zp:=sizeOf87;have a:prog.underlying 87=some (.struct (prog.fieldsOf 87)):=zk;have b:prog.stoodInHeld 87=false:=zk;have i:=U5 d x.turn y.turn;have j:=U6 d x.at_ y.at_;rw[show d+3=(d+2)+1 from rfl,run_equalIn_agg w (d+2) _ _ _ a b];simp only[Program.fieldsOf,underlying87];go_simp
 obtain⟨s1,t1,p1⟩:=x;obtain⟨s2,t2,p2⟩:=y;by_cases e:s1=s2 <;> by_cases f:t1=t2 <;> by_cases g:p1=p2 <;> simp[e,f,g]
theorem vS(d:Nat)(x y:AY)(w:World):(Op.equalIn (d+4) 163 (enK x) (enK y)).run prog w=.ok (decide (x=y)) w:=by
 have ui:=underlying3;have ai:=isAgg3;have zi:=sizeOf3;have ub:=underlying4;have ab:=isAgg4;have zb:=sizeOf4;have ut:=underlying55;have aT:=isAgg55;have zt:=sizeOf55;have us:=underlying56;have aS:=isAgg56;have zs:=sizeOf56;have up:=underlying87;have ap:=isAgg87;have zp:=sizeOf87;have a:prog.underlying 163=some (.struct (prog.fieldsOf 163)):=zk;have b:prog.stoodInHeld 163=false:=zk;have g:=vR d x.1 y.1;simp only[enK];rw[show d+4=(d+3)+1 from rfl,run_equalIn_agg w (d+3) _ _ _ a b];simp only[Program.fieldsOf,underlying163];go_simp
 obtain⟨p1,r1⟩:=x;obtain⟨p2,r2⟩:=y;by_cases e:p1=p2 <;> by_cases f:r1=r2 <;> simp[e,f]
theorem Z8(e:Bool)(n:Nat)(a:Bool)(w:World):(Instr.checkKey e (n+1) 4 (.bool a)).run prog w=.ok () w:=by
 rw[Instr.checkKey];simp[Sem.run_bind,underlying,underlying4,Result.andThen_ok]
theorem qD(e:Bool)(d:Nat)(x:Az)(w:World):(Instr.checkKey e (d+2) 55 (.agg #[.bool x.flip,zi x.quarter])).run prog w=.ok () w:=by
 have ui:=underlying3;have ai:=isAgg3;have zi:=sizeOf3;have ub:=underlying4;have ab:=isAgg4;have zb:=sizeOf4;have uT:=underlying55;have aT:=isAgg55;have zT:=sizeOf55;have uS:=underlying56;have aS:=isAgg56;have zS:=sizeOf56;have uP:=underlying87;have aP:=isAgg87;have zP:=sizeOf87;have c1:=λy=>G7 ui e d y w
 have c2:=λy=>Z8 e d y w
 rw[show d+2=(d+1)+1 from rfl,Instr.checkKey];go_simp
theorem qE(e:Bool)(d:Nat)(x:Pt)(w:World):(Instr.checkKey e (d+2) 56 (.agg #[zi x.1,zi x.2])).run prog w=.ok () w:=by
 have ui:=underlying3;have ai:=isAgg3;have zi:=sizeOf3;have ub:=underlying4;have ab:=isAgg4;have zb:=sizeOf4;have uT:=underlying55;have aT:=isAgg55;have zT:=sizeOf55;have uS:=underlying56;have aS:=isAgg56;have zS:=sizeOf56;have uP:=underlying87;have aP:=isAgg87;have zP:=sizeOf87;have c1:=λy=>G7 ui e d y w
 rw[show d+2=(d+1)+1 from rfl,Instr.checkKey];go_simp
theorem vT(e:Bool)(d:Nat)(x:Am)(w:World):(Instr.checkKey e (d+3) 87 (.agg #[zi x.shape,.bool x.turn.flip,zi x.turn.quarter,zi x.at_.1,zi x.at_.2])).run prog w=.ok () w:=by
 have ui:=underlying3;have ai:=isAgg3;have zi:=sizeOf3;have ub:=underlying4;have ab:=isAgg4;have zb:=sizeOf4;have uT:=underlying55;have aT:=isAgg55;have zT:=sizeOf55;have uS:=underlying56;have aS:=isAgg56;have zS:=sizeOf56;have uP:=underlying87;have aP:=isAgg87;have zP:=sizeOf87;have c1:=λy=>G7 ui e (d+1) y w
 have c2:=qD e d x.turn w;have c3:=qE e d x.at_ w;rw[show d+3=(d+2)+1 from rfl,Instr.checkKey];go_simp
theorem vU(e:Bool)(d:Nat)(x:AY)(w:World):(Instr.checkKey e (d+4) 163 (enK x)).run prog w=.ok () w:=by
 have ui:=underlying3;have ai:=isAgg3;have zi:=sizeOf3;have ub:=underlying4;have ab:=isAgg4;have zb:=sizeOf4;have uT:=underlying55;have aT:=isAgg55;have zT:=sizeOf55;have uS:=underlying56;have aS:=isAgg56;have zS:=sizeOf56;have uP:=underlying87;have aP:=isAgg87;have zP:=sizeOf87;have c1:=λy=>G7 ui e (d+2) y w
 have c2:=vT e d x.1 w;simp only[enK];rw[show d+4=(d+3)+1 from rfl,Instr.checkKey];go_simp
theorem iX(n:Nat)(a:Bool):Instr.sameBits n (.bool a) (.bool a)=true:=by
 unfold Instr.sameBits;simp
theorem XW:I5 prog 163 enK:=by
 refine I5.of_equal underlying163 (λa b w=>vS 9996 a b w) (λe a w=>vU e 9996 a w) (λa=>?_);unfold Instr.sameBits;simp[enK,OR,iX]
structure DT(w:World)(base p:Nat)(mo:Option Nat)(v:Value)(l:List AY):Prop where
 box:Blk w p 152 #[.map mo,v]
 row:w.ownsRow base 163 6 v l.length (l.flatMap enC)
 mp:∀mb,mo=some mb->Bv enK w mb (DI l)∧base<=mb
 no:mo=none->l=[]
 low:base<=p
theorem DT.below{mo:Option Nat}{l:List AY}(h:DT w a p mo v l)(b:Bw w w'):DT w' a p mo v l:=
 ⟨h.box.below b,Ah h.row b,λmb e=>⟨(h.mp mb e).1.below b,(h.mp mb e).2⟩,h.no,h.low⟩
def iY(a p:Nat)(mo:Option Nat)(v:Value)(L:List AY)(w:World)(e:Ending)(w':World):Prop:=e=.returned (.tuple #[])∧∃mb v',DT w' a p (some mb) v' L∧(mo=some mb∨w.heap.size<=mb)∧(∀g,v'.ownBlock=some g->v.ownBlock=some g∨w.heap.size<=g)∧Off (Dq p mo v) w w'
def XX(w:World)(a p:Nat)(mo:Option Nat)(v:Value)(L:List AY)(wr:World):Prop:=∃mb v',DT wr a p (some mb) v' L∧(mo=some mb∨w.heap.size<=mb)∧(∀g,v'.ownBlock=some g->v.ownBlock=some g∨w.heap.size<=g)∧Off (Dq p mo v) w wr
theorem DT.more{wa w7:World}{L:List AY}{x:AY}(h:DT w a p (some mb) v L)(i:Bv enK w6 mb (DI (L++[x])))(j:w.grownBy w6 (some mb))(k:Bw w6 wa)(b:w7.ownsRow a 163 6 v7 (L.length+1) (L.flatMap enC++enC x))(f:wa.grownBy w7 v.ownBlock):Blk w7 p 152 #[.map (some mb),v]∧DT (w7.setCell (ad p 1) v7) a p (some mb) v7 (L++[x]):=by
 obtain⟨g,l⟩:=h.mp mb rfl;have m:mb≠p:=Lp g h.box;have n:v.ownBlock≠some p:=Fb h.row h.box zD;have o:v.ownBlock≠some mb:=NZ g h.row;have b7:=((h.box.grown j (λe=>m (zs6 e).symm)).below k).grown f (λe=>n e.symm);have q:v7.ownBlock≠some p:=Fb b b7 zD;refine⟨b7,⟨?_,?_,λmb' e=>?_,(λe=>by cases e),h.low⟩⟩
 ·have:=b7.set_ 1 v7;simpa using this
 ·rw[zr7,zq5];have:=b.kept (Bf w7 ⟨p,1,none⟩ v7) (.inr q);simpa using this
 injection e with e
 subst e;exact⟨((i.below k).kept f (λe=>o e.symm)).kept (Bf w7 ⟨p,1,none⟩ v7) (λe=>m (zs6 e)),l⟩
theorem DT.start{l:List AY}(h:DT w a p none v l)(b:a<=w.heap.size):DT ((w.setCell (ad p 0) (.map (some w.heap.size))).alloc (.map #[] 0)) a p (some w.heap.size) v l:=by
 have f:l=[]:=h.no rfl;subst f;have g:(w.setCell (ad p 0) (.map (some w.heap.size))).heap.size=w.heap.size:=World.size_setCell _ _ _;refine⟨?_,?_,λmb e=>?_,(λe=>by cases e),h.low⟩
 ·have:=(h.box.set_ 0 (.map (some w.heap.size))).alloc (.map #[] 0);simpa using this
 ·exact Ah (h.row.kept (Bf w ⟨p,0,none⟩ (.map (some w.heap.size))) (.inr (Fb h.row h.box zD))) (zA _)
 injection e with e
 subst e;have:=Bv.made enK (w.setCell (ad p 0) (.map (some w.heap.size)));rw[g]at this;exact⟨this,b⟩
theorem qF{L:List AY}{x:AY}(h:DT W a p (some mb) v L)(i:Blk W q T #[zi x.1.shape,.bool x.1.turn.flip,zi x.1.turn.quarter,zi x.1.at_.1,zi x.1.at_.2,zi x.2])(f:W.drew.grownBy w6 (some mb)):w6.ownsRow a 163 6 v L.length (L.flatMap enC)∧Blk w6 p 152 #[.map (some mb),v]∧Blk w6 q T #[zi x.1.shape,.bool x.1.turn.flip,zi x.1.turn.quarter,zi x.1.at_.1,zi x.1.at_.2,zi x.2]:=by
 have hd:=h.below (w':=W.drew) (Below.drew zJ);have b:=i.below (w':=W.drew) (Below.drew zJ);have g:=(hd.mp mb rfl).1;exact⟨hd.row.kept f (.inr (NZ g hd.row)),hd.box.grown f (λe=>Lp g hd.box (zs6 e).symm),b.grown f (λe=>Lp g b (zs6 e).symm)⟩
theorem iZ{P:World->Prop}{x:AY}(a:Blk W0 p T #[.map (some mb),v])(b:Blk W0 q U #[zi x.1.shape,.bool x.1.turn.flip,zi x.1.turn.quarter,zi x.1.at_.1,zi x.1.at_.2,zi x.2])(e:∀W,Bw W0 W->P W):∀W,Bw W0 W->(zL W p 0 (.map (some mb))∧zL W q 0 (zi x.1.shape)∧zL W q 1 (.bool x.1.turn.flip)∧zL W q 2 (zi x.1.turn.quarter)∧zL W q 3 (zi x.1.at_.1)∧zL W q 4 (zi x.1.at_.2)∧zL W q 5 (zi x.2))∧P W:=λW h=>⟨⟨(a.below h).c rfl,In (b.below h)⟩,e W h⟩
theorem qG(a p:Nat)(mo:Option Nat)(v:Value)(l:List AY)(A:oA)(n c:Nat)(xs:List AY)(w:World)(t:DT w a p mo v l)(ha:Ab 6 enG w A n xs)(hA:∀b a0,A=some ⟨b,a0,none⟩->¬Dq p mo v b)(hn:n<=1000)(hl:l.length<=10000000000)(hs:a<=w.heap.size) :
  CP 71 #[.pointer (sa p 0),.slice A n c] w (iY a p mo v (AJ l xs) w):=by
 have HA:=zH ha;have aa:=zH hA;have HL:=zH ha.len;have HS:=zH hs;have ar:Hid (Dq p mo v p):=zH (.inl rfl);have c0:=t.box.c (i:=0) rfl;have y0:=t.box.frozen 0;have ab:=t.box.lt;have U:=zH t;have qT:∀(w:World)(r:Option Nat),(binOp .eql 149 (.map r) (.map none)).run prog w=.ok (.bool r.isNone) w:=λw r=>run_eql_map_nil w _ _ _ r underlying149
 have ac:=@run_makeMap prog;clear ha hA t;go_enter func71,ntmps71
 go_upto_if 10 with fail
 go_cut [11,12,13,14] (λ_ _ _ _ wx=>Hid (XX w a p mo v (AJ l []) wx))
 case first=>
  cases mo with
  | none=>
   go_wp2_with fail
   go_meet;exact zH ⟨_,v,U.o.start hs,.inr (zs2 _),λg e=>.inl e,((Off.refl _ _).step (Bf _ ⟨p,0,none⟩ _) (λk e=>.inl (.inl (zs6 e).symm))).step_below (zA _)⟩
  | some mb0=>
   go_wp2_with fail
   go_meet;exact zH ⟨mb0,v,U.o,.inl rfl,λg e=>.inl e,Off.refl _ _⟩
 case rest=>
  have a6:=hcut;clear hcut U c0 y0 ab qT ac
  go_wp2_with fail
  go_loopw[5,17,18,19,20,21,22,23,24,25,26,27,28,29,30,31,32,33,34,35,36,37,38,39,40,41,42,43] (λ_ i _ _ _ _ _ _ _ _ _ _ _ _ _ _ _ _ _ _ _ _ _ _ _ _ _ _ wr=>∃k:Nat,k<=n∧i=zi (k:Int)∧Hid (XX w a p mo v (AJ l (xs.take k)) wr)) (λ_ i _ _ _ _ _ _ _ _ _ _ _ _ _ _ _ _ _ _ _ _ _ _ _ _ _ _ _=>n-(intOf i).toNat)
  case atStart=>exact⟨0,zs3 _,rfl,a6⟩
  case round=>
   obtain⟨k,hk,rfl,HR⟩:=hrel;obtain⟨mb,v',H,a1,a2,f⟩:=HR.o;by_cases a7:k<n
   ·obtain⟨b,a0,x,rfl,au,hx,d0,d1,d2,d3,d4,d5⟩:=iW (f.recsE HA.o aa.o) a7;have C:=zH (UV (l:=l) hx)
    have a8:(AJ l (xs.take k)).length<=10000001000:=by
     have:=FP l (xs.take k);rw[zq7]at this;omega
    obtain⟨L,hL⟩:=zG (AJ l (xs.take k));rw[hL]at C H a8;have I:Bw wr (wr.alloc (.cells #[zi x.1.shape,.bool x.1.turn.flip,zi x.1.turn.quarter,zi x.1.at_.1,zi x.1.at_.2,zi x.2] 163)):=zA _;obtain⟨W0,D⟩:=zG (wr.alloc (.cells #[zi x.1.shape,.bool x.1.turn.flip,zi x.1.turn.quarter,zi x.1.at_.1,zi x.1.at_.2,zi x.2] 163));have V:Blk W0 wr.heap.size 163 #[zi x.1.shape,.bool x.1.turn.flip,zi x.1.turn.quarter,zi x.1.at_.1,zi x.1.at_.2,zi x.2]:=by rw[<-D];exact Blk.new _ _ _
    rw[D]at I;have ae:W0.heap.size=wr.heap.size+1:=by rw[<-D];simp
    have J:=H.below I
    have T:=zH (iZ (P:=λW=>(Instr.lookup 149 (.map (some mb)) (.agg #[zi x.1.shape,.bool x.1.turn.flip,zi x.1.turn.quarter,zi x.1.at_.1,zi x.1.at_.2,zi x.2]) false).run prog W=.ok (.bool (inB x L)) W) J.box V (λW h=>by
     have:=(((J.mp mb rfl).1.below h).lookupF XW underlying149 (z:=zF) (Kt W) x false);rw[if_neg zD,XM]at this;exact this))
    have y:=zH J;have HX:=zH V;have K:=zH (f.step_below I);have s:=zH (zu2 a1 a2);have av:=zH (zs0 HS.o f.size);have aw:=zH f.size;obtain⟨i1,i2⟩:=zI (k:=k) (n:=n) (by omega);clear hx H a1 a2 f J V I;rw[<-D]at T y HX K;clear D ae W0 hL;by_cases j:x∈L
    ·rw[Ri j]at T;rw[if_pos j]at C
     go_wp2_with fail
     go_region_held3(λw'=>(w'.cell? (ad p 0)=some (.map (some mb))∧w'.cell? (ad wr.heap.size 0)=some (zi x.1.shape)∧w'.cell? (ad wr.heap.size 1)=some (.bool x.1.turn.flip)∧w'.cell? (ad wr.heap.size 2)=some (zi x.1.turn.quarter)∧w'.cell? (ad wr.heap.size 3)=some (zi x.1.at_.1)∧w'.cell? (ad wr.heap.size 4)=some (zi x.1.at_.2)∧w'.cell? (ad wr.heap.size 5)=some (zi x.2))∧(Instr.lookup 149 (.map (some mb)) (.agg #[zi x.1.shape,.bool x.1.turn.flip,zi x.1.turn.quarter,zi x.1.at_.1,zi x.1.at_.2,zi x.2]) false).run prog w'=.ok (zY) w')
      ((refine T.o _ ?_;repeat(first|(with_reducible exact zJ)|(with_reducible refine Below.drew ?_))))
      (fail)
     all_goals
      go_wp2_with fail
      go_roundw
      case rel=>exact⟨k+1,by omega,by go_num,by rw[C.o];exact⟨mb,v',y.o.below zB,s.o.1,s.o.2,K.o.step_below zB⟩⟩
      case measure=>exact zM
    rw[UW j]at T;rw[if_neg j]at C
    go_wp2_with fail
    go_region_held3(λw'=>(w'.cell? (ad p 0)=some (.map (some mb))∧w'.cell? (ad wr.heap.size 0)=some (zi x.1.shape)∧w'.cell? (ad wr.heap.size 1)=some (.bool x.1.turn.flip)∧w'.cell? (ad wr.heap.size 2)=some (zi x.1.turn.quarter)∧w'.cell? (ad wr.heap.size 3)=some (zi x.1.at_.1)∧w'.cell? (ad wr.heap.size 4)=some (zi x.1.at_.2)∧w'.cell? (ad wr.heap.size 5)=some (zi x.2))∧(Instr.lookup 149 (.map (some mb)) (.agg #[zi x.1.shape,.bool x.1.turn.flip,zi x.1.turn.quarter,zi x.1.at_.1,zi x.1.at_.2,zi x.2]) false).run prog w'=.ok (zF) w')
     ((refine T.o _ ?_;repeat(first|(with_reducible exact zJ)|(with_reducible refine Below.drew ?_))))
     (fail)
    all_goals
     go_wp2_with fail
     have M:=y.o.below (Below.drew zJ);have N:=HX.o.below (Below.drew zJ);have E:=K.o.step_below (Below.drew zJ);obtain⟨W1,a3⟩:=zG ((wr.alloc (.cells #[zi x.1.shape,.bool x.1.turn.flip,zi x.1.turn.quarter,zi x.1.at_.1,zi x.1.at_.2,zi x.2] 163)).drew);rw[a3]at M N E⊢
     have X:=zH M;have af:=zH N;have ag:=zH E;have c0:=M.box.c (i:=0) rfl;obtain⟨e0,e1,e2,e3,e4,e5⟩:=In N;have ah:a<=W1.heap.size:=zs0 HS.o E.size;have ai:=zH E.size;have uM:=underlying149;clear M N E a3 y HX K T;go_still_tail 5,zk
     go_wp2_with(at_mapUpdate;refine IH (by rfl) _ _ _ _ (by rfl) XW uM (by rfl) (by exact((X.o.below (Below.drew zJ)).mp mb rfl).1) x (by rfl) (zY) (by rfl) ?_;intro w6 Y a4;rw[UX j]at Y;have aj:=zH Y;have F:=zH (show W1.drew.grownBy w6 (some mb)from a4);clear Y a4)
     have a9:=zH (λ(wa w7:World)(v7:Value)(t:Bw w6 wa)(G:w7.ownsRow a 163 6 v7 (L.length+1) (L.flatMap enC++enC x))(m:wa.grownBy w7 v'.ownBlock)=>DT.more (X.o.below (Below.drew zJ)) aj.o F.o t G m);have ak:=zH (λ(wa w7:World)(v7:Value)(t:Bw w6 wa)(m:wa.grownBy w7 v'.ownBlock)=>UY (v7:=v7) ag.o F.o s.o.1 t m s.o.2);obtain⟨O,B,Z⟩:=qF X.o af.o F.o;have al:=zH O;have c1:=B.c (i:=1) rfl;have p6:=B.lt;clear e0 e1 e2 e3 e4 e5;obtain⟨e0,e1,e2,e3,e4,e5⟩:=In Z;have ax:a<=w6.heap.size:=zs0 ah F.o.size;have am:Hid (w.heap.size<=w6.heap.size):=zH (zs0 ai.o F.o.size);clear O B Z
     go_region_law (first
      | ((refine GH (by rfl) _ _ 150 (by rfl) a 163 (.agg #[zi 0,zF,zi 0,zi 0,zi 0,zi 0]) 6 48 underlying150 vQ rfl zD v' L.length (L.flatMap enC) (by rfl) (Ah al.o zB) ⟨w6.heap.size,0,none⟩ 1 1 (enC x) (by rfl) (by rfl) (EV (Blk.new' _ _ _ rfl)) (vO _) zU zO (by first|(simp;omega)|omega) ?_);go_must(intro v7 w7 G m a5;obtain⟨Q,R⟩:=a9.o _ _ _ zB G m;have S:=ak.o _ _ v7 zB m;have t1:=Q.c (i:=1) rfl;have z1:=Q.frozen 1;have l1:=Q.lt;obtain⟨A7,c7,an⟩:=AX G;subst an;have ao:=zH R;have ap:=zH S;have aq:=zH a5;clear Q R S G m a5))
      | fail)
     all_goals
      go_wp2_with fail
      go_roundw
      case rel=>
       refine⟨k+1,by omega,by go_num,?_⟩;rw[C.o];refine⟨mb,_,ao.o,s.o.1,λg e=>?_,ap.o⟩;rcases aq.o with q|q
       ·exact s.o.2 g (q.symm.trans e)
       rw[q]at e;injection e with e
       have h1:=am.o;simp at e;omega
      case measure=>exact zM
   obtain rfl:k=n:=zO;rw[zq4 (by rw[HL.o];exact zs2 _)]at HR
   go_wp2_with fail
   go_end0;exact⟨rfl,HR.o⟩
end Go.Proofs.YteafekbddckemaaGreatDoor
