/- Parts of the proof. -/
import Derived.Test.YteafekbddckemaaGreatDoorH29
set_option maxRecDepth 100000
set_option maxHeartbeats 40000000
namespace Go.Proofs.YteafekbddckemaaGreatDoor
open Tryz Go.RowKit
open Go.Lib hiding intOf
variable{A:oA}{L l:List AY}{T t:TypeId}{W W1 w w' w0 wr:World}{a g h i j k k2 mb' n p q:Nat}{a0 a1 a2 a3 a4 a5 v v':Value}{b:AG}{cs:aV}{e m x:AY}{f:Bool}{placed:List PL}{r:lP}{s:Ae}{ts:List Az}{z:Int}
def Nr(a b:AY):Int:=orL [Lib.compareInt a.2 b.2,Lib.compareInt a.1.at_.2 b.1.at_.2,Lib.compareInt a.1.at_.1 b.1.at_.1,Lib.compareInt a.1.turn.quarter b.1.turn.quarter]
theorem XY(a b:AY):decide (Nr a b<0)=Hn a b:=by
 unfold Nr Hn orL Lib.compareInt;by_cases e:a.2<b.2
 ·simp[e];omega
 by_cases j:a.2>b.2
 ·have n1:a.2≠b.2:=zO;simp[e,j,n1]
 have e1:a.2=b.2:=zO;by_cases f:a.1.at_.2<b.1.at_.2
 ·have n3:a.1.at_.2≠b.1.at_.2:=zO;simp[e1,f,n3]
 by_cases k:a.1.at_.2>b.1.at_.2
 ·have n3:a.1.at_.2≠b.1.at_.2:=zO;simp[e1,f,k,n3]
 have e2:a.1.at_.2=b.1.at_.2:=zO;by_cases g:a.1.at_.1<b.1.at_.1
 ·have n5:a.1.at_.1≠b.1.at_.1:=zO;simp[e1,e2,g,n5]
 by_cases l:a.1.at_.1>b.1.at_.1
 ·have n5:a.1.at_.1≠b.1.at_.1:=zO;simp[e1,e2,g,l,n5]
 have e3:a.1.at_.1=b.1.at_.1:=zO;by_cases i:a.1.turn.quarter<b.1.turn.quarter
 ·simp[e1,e2,e3,i]
 by_cases m:a.1.turn.quarter>b.1.turn.quarter
 ·simp[e1,e2,e3,i,m]
 have e4:a.1.turn.quarter=b.1.turn.quarter:=zO;simp[e1,e2,e3,e4]
theorem jA{a b c d:Int}(h:Blk w g t #[zi a,zi b,zi c,zi d]):Sl w w.heap.size (sa g 0) 4 (Ar [a,b,c,d]):=by
 refine⟨rfl,λ_=>⟨g,0,rfl,h.lt,λj u e=>?_⟩⟩;rw[Nat.zero_add]
 match j,e with
 | 0,e=>obtain rfl:zi a=u:=(by simpa[Ar]using e);exact h.c rfl
 | 1,e=>obtain rfl:zi b=u:=(by simpa[Ar]using e);exact h.c rfl
 | 2,e=>obtain rfl:zi c=u:=(by simpa[Ar]using e);exact h.c rfl
 | 3,e=>obtain rfl:zi d=u:=(by simpa[Ar]using e);exact h.c rfl
 | j+4,e=>simp[Ar]at e
theorem qH(a b:AY)(w:World) :
  CP 73 #[.agg #[zi a.1.shape,.bool a.1.turn.flip,zi a.1.turn.quarter,zi a.1.at_.1,zi a.1.at_.2,zi a.2],.agg #[zi b.1.shape,.bool b.1.turn.flip,zi b.1.turn.quarter,zi b.1.at_.1,zi b.1.at_.2,zi b.2]] w (zR (zi (Nr a b)) w):=by
 have j:Hid (∀W,CP 107 #[zi a.2,zi b.2] W λe w'=>e=.returned (zi (Lib.compareInt (a.2) (b.2)))∧W=w'):=λW=>(Tryz.cmp_Compare_int (a.2) (b.2) W).mono λ_ _ h=>⟨h.1,h.2.symm⟩
 have k:Hid (∀W,CP 107 #[zi a.1.at_.2,zi b.1.at_.2] W λe w'=>e=.returned (zi (Lib.compareInt (a.1.at_.2) (b.1.at_.2)))∧W=w'):=λW=>(Tryz.cmp_Compare_int (a.1.at_.2) (b.1.at_.2) W).mono λ_ _ h=>⟨h.1,h.2.symm⟩
 have l:Hid (∀W,CP 107 #[zi a.1.at_.1,zi b.1.at_.1] W λe w'=>e=.returned (zi (Lib.compareInt (a.1.at_.1) (b.1.at_.1)))∧W=w'):=λW=>(Tryz.cmp_Compare_int (a.1.at_.1) (b.1.at_.1) W).mono λ_ _ h=>⟨h.1,h.2.symm⟩
 have m:Hid (∀W,CP 107 #[zi a.1.turn.quarter,zi b.1.turn.quarter] W λe w'=>e=.returned (zi (Lib.compareInt (a.1.turn.quarter) (b.1.turn.quarter)))∧W=w'):=λW=>(Tryz.cmp_Compare_int (a.1.turn.quarter) (b.1.turn.quarter) W).mono λ_ _ h=>⟨h.1,h.2.symm⟩
 have q:Hid (Nr a b=orL [Lib.compareInt a.2 b.2,Lib.compareInt a.1.at_.2 b.1.at_.2,Lib.compareInt a.1.at_.1 b.1.at_.1,Lib.compareInt a.1.turn.quarter b.1.turn.quarter]):=rfl;generalize Lib.compareInt a.2 b.2=x0 at *
 generalize Lib.compareInt a.1.at_.2 b.1.at_.2=x1 at *
 generalize Lib.compareInt a.1.at_.1 b.1.at_.1=x2 at *
 generalize Lib.compareInt a.1.turn.quarter b.1.turn.quarter=x3 at *
 obtain⟨W0,f⟩:=zG ((w.alloc (.cells #[zi a.1.shape,.bool a.1.turn.flip,zi a.1.turn.quarter,zi a.1.at_.1,zi a.1.at_.2,zi a.2] 163)).alloc (.cells #[zi b.1.shape,.bool b.1.turn.flip,zi b.1.turn.quarter,zi b.1.at_.1,zi b.1.at_.2,zi b.2] 163));have X1:Blk W0 w.heap.size 163 #[zi a.1.shape,.bool a.1.turn.flip,zi a.1.turn.quarter,zi a.1.at_.1,zi a.1.at_.2,zi a.2]:=by rw[<-f];exact(Blk.new _ _ _).alloc _
 have X2:Blk W0 (w.heap.size+1) 163 #[zi b.1.shape,.bool b.1.turn.flip,zi b.1.turn.quarter,zi b.1.at_.1,zi b.1.at_.2,zi b.2]:=by rw[<-f];exact Blk.new' _ _ _ zP
 have i:Bw w W0:=by rw[<-f];exact Below.alo (zA _) _
 have n:=zH (λW (h:Bw W0 W)=>zu2 (In (X1.below h)) (In (X2.below h)));have p:=zH i;rw[<-f]at n p;clear f X1 X2 i;have r:=zH (λW g (h:Sl W W.heap.size (sa g 0) 4 (Ar [x0,x1,x2,x3]))=>PV (sa g 0) 4 4 [x0,x1,x2,x3] W h zO);go_enter func73,ntmps73
 go_wp2_with fail
 go_region_held3(λw'=>(w'.cell? (ad w.heap.size 0)=some (zi a.1.shape)∧w'.cell? (ad w.heap.size 1)=some (.bool a.1.turn.flip)∧w'.cell? (ad w.heap.size 2)=some (zi a.1.turn.quarter)∧w'.cell? (ad w.heap.size 3)=some (zi a.1.at_.1)∧w'.cell? (ad w.heap.size 4)=some (zi a.1.at_.2)∧w'.cell? (ad w.heap.size 5)=some (zi a.2))∧(w'.cell? (ad (w.heap.size+1) 0)=some (zi b.1.shape)∧w'.cell? (ad (w.heap.size+1) 1)=some (.bool b.1.turn.flip)∧w'.cell? (ad (w.heap.size+1) 2)=some (zi b.1.turn.quarter)∧w'.cell? (ad (w.heap.size+1) 3)=some (zi b.1.at_.1)∧w'.cell? (ad (w.heap.size+1) 4)=some (zi b.1.at_.2)∧w'.cell? (ad (w.heap.size+1) 5)=some (zi b.2)))
  ((refine n.o _ ?_;repeat(first|(with_reducible exact zJ)|(with_reducible refine Below.drew ?_)|(with_reducible refine Below.alo ?_ _))))
  (first
   | (go_at_call 107;go_must((first|(with_reducible refine(j.o _).mono ?_)|(with_reducible refine(k.o _).mono ?_)|(with_reducible refine(l.o _).mono ?_)|(with_reducible refine(m.o _).mono ?_));rintro e w1 ⟨rfl,rfl⟩))
   | (go_at_call 106;go_must((refine(r.o _ _ (by exact jA (Blk.new' _ _ _ zP))).mono ?_);rintro e w1 ⟨rfl,rfl⟩)))
 all_goals
  go_wp2_with fail
  go_ret;exact⟨by rw[q.o];rfl,by repeat(first|(with_reducible exact p.o)|(with_reducible refine Ai ?_ _)|(with_reducible refine Below.drew ?_)|(with_reducible refine Below.alo ?_ _))⟩
theorem WV(h:l[0]?=some x):Eo (l.take 1)=some x:=by
 cases l with
 | nil=>cases h
 | cons y l=>
  injection h with h
  subst h;rfl
theorem Z9(h:l[k]?=some x)(b:k≠0)(a:Eo (l.take k)=some m):Eo (l.take (k+1))=some (if Hn x m=true then x else m):=by
 rw[List.take_add_one,h]
 cases l with
 | nil=>simp at h
 | cons y l=>
  cases k with
  | zero=>exact absurd rfl b
  | succ k=>
   rw[List.take_succ_cons]at a⊢
   simp only[Eo]at a;injection a with a
   show some ((l.take k++[x]).foldl _ y)=_;rw[List.foldl_append,a];rfl
def U7:Option AY->Value
 | some x=>.tuple #[.agg #[zi x.1.shape,.bool x.1.turn.flip,zi x.1.turn.quarter,zi x.1.at_.1,zi x.1.at_.2,zi x.2],zY]
 | none=>.tuple #[.agg #[zi 0,zF,zi 0,zi 0,zi 0,zi 0],zF]
theorem KA(h:Blk w g T #[a0,a1,a2,a3,a4,a5])(a:Bw w w'):(zL w' g 0 a0∧zL w' g 1 a1∧zL w' g 2 a2∧zL w' g 3 a3∧zL w' g 4 a4∧zL w' g 5 a5)∧(w'.frozen? (ad g 0)=false∧w'.frozen? (ad g 1)=false∧w'.frozen? (ad g 2)=false∧w'.frozen? (ad g 3)=false∧w'.frozen? (ad g 4)=false∧w'.frozen? (ad g 5)=false)∧g<w'.heap.size:=⟨In (h.below a),⟨(h.below a).frozen 0,(h.below a).frozen 1,(h.below a).frozen 2,(h.below a).frozen 3,(h.below a).frozen 4,(h.below a).frozen 5⟩,(h.below a).lt⟩
theorem Blk.put6{e0 e1 e2 e3 e4 e5:Value}(h:Blk w g t #[e0,e1,e2,e3,e4,e5])(u0 u1 u2 u3 u4 u5:Value):Blk ((((((w.setCell (ad g 0) u0).setCell (ad g 1) u1).setCell (ad g 2) u2).setCell (ad g 3) u3).setCell (ad g 4) u4).setCell (ad g 5) u5) g t #[u0,u1,u2,u3,u4,u5]:=(((((h.set_ 0 u0).set_ 1 u1).set_ 2 u2).set_ 3 u3).set_ 4 u4).set_ 5 u5
theorem Blk.far6(b:Blk w g t cs)(a:g≠h)(u0 u1 u2 u3 u4 u5:Value):Blk ((((((w.setCell (ad h 0) u0).setCell (ad h 1) u1).setCell (ad h 2) u2).setCell (ad h 3) u3).setCell (ad h 4) u4).setCell (ad h 5) u5) g t cs:=
 (((((b.far (p:=ad h 0) a u0).far (p:=ad h 1) a u1).far (p:=ad h 2) a u2).far (p:=ad h 3) a u3).far (p:=ad h 4) a u4).far (p:=ad h 5) a u5
theorem KB(h:Below n w0 w)(a:n<=g)(u0 u1 u2 u3 u4 u5:Value):Below n w0 ((((((w.setCell (ad g 0) u0).setCell (ad g 1) u1).setCell (ad g 2) u2).setCell (ad g 3) u3).setCell (ad g 4) u4).setCell (ad g 5) u5):=
 (((((h.setCell (p:=ad g 0) a u0).setCell (p:=ad g 1) a u1).setCell (p:=ad g 2) a u2).setCell (p:=ad g 3) a u3).setCell (p:=ad g 4) a u4).setCell (p:=ad g 5) a u5
theorem XZ(h:Blk W g T #[a0,a1,a2,a3,a4,a5])(u0 u1 u2 u3 u4 u5:Value):zL (W.setCell (ad g 0) u0) g 0 u0∧zL ((W.setCell (ad g 0) u0).setCell (ad g 1) u1) g 1 u1∧zL (((W.setCell (ad g 0) u0).setCell (ad g 1) u1).setCell (ad g 2) u2) g 2 u2∧zL ((((W.setCell (ad g 0) u0).setCell (ad g 1) u1).setCell (ad g 2) u2).setCell (ad g 3) u3) g 3 u3∧zL (((((W.setCell (ad g 0) u0).setCell (ad g 1) u1).setCell (ad g 2) u2).setCell (ad g 3) u3).setCell (ad g 4) u4) g 4 u4∧zL ((((((W.setCell (ad g 0) u0).setCell (ad g 1) u1).setCell (ad g 2) u2).setCell (ad g 3) u3).setCell (ad g 4) u4).setCell (ad g 5) u5) g 5 u5:=
 ⟨(h.set_ 0 u0).c zP,((h.set_ 0 u0).set_ 1 u1).c zP,(((h.set_ 0 u0).set_ 1 u1).set_ 2 u2).c zP,((((h.set_ 0 u0).set_ 1 u1).set_ 2 u2).set_ 3 u3).c zP,(((((h.set_ 0 u0).set_ 1 u1).set_ 2 u2).set_ 3 u3).set_ 4 u4).c zP,((((((h.set_ 0 u0).set_ 1 u1).set_ 2 u2).set_ 3 u3).set_ 4 u4).set_ 5 u5).c zP⟩
structure LsR(w wr:World)(l:List AY)(k:Nat)(m:AY):Prop where
 res:Blk wr w.heap.size 163 #[zi 0,zF,zi 0,zi 0,zi 0,zi 0]
 best:Blk wr (w.heap.size+1) 163 #[zi m.1.shape,.bool m.1.turn.flip,zi m.1.turn.quarter,zi m.1.at_.1,zi m.1.at_.2,zi m.2]
 low:Bw w wr
 min:k≠0->Eo (l.take k)=some m
 zero:k=0->m=⟨⟨0,⟨false,0⟩,(0,0)⟩,0⟩
theorem LsR.below(h:LsR w wr l k m)(a:Bw wr w'):LsR w w' l k m:=⟨h.res.below a,h.best.below a,h.low.trans (a.mono h.low.size),h.min,h.zero⟩
theorem LsR.put(h:LsR w wr l k m)(a:k2≠0->Eo (l.take k2)=some x)(b:k2≠0):LsR w (((((((wr).setCell (ad (w.heap.size+1) 0) (zi x.1.shape)).setCell (ad (w.heap.size+1) 1) (.bool x.1.turn.flip)).setCell (ad (w.heap.size+1) 2) (zi x.1.turn.quarter)).setCell (ad (w.heap.size+1) 3) (zi x.1.at_.1)).setCell (ad (w.heap.size+1) 4) (zi x.1.at_.2)).setCell (ad (w.heap.size+1) 5) (zi x.2)) l k2 x:=
 ⟨h.res.far6 (Nat.ne_of_lt (zs7 _)) _ _ _ _ _ _,h.best.put6 _ _ _ _ _ _,KB h.low (zt1 _) _ _ _ _ _ _,a,λe=>absurd e b⟩
theorem jB(A:oA)(n c:Nat)(l:List AY)(w:World)(E:Ab 6 enG w A n l)(T:n<=1000000) :
  CP 72 #[.slice A n c,.func (.func 73) #[] #[]] w (zR (U7 (Eo l)) w):=by
 obtain⟨R,F⟩:=zG (Eo l);rw[F];have G:=zH F;have L:=zH E;have H:=zH E.len;have I:Hid (LsR w (zw (zw w #[zi 0,zF,zi 0,zi 0,zi 0,zi 0] 163) #[zi 0,zF,zi 0,zi 0,zi 0,zi 0] 163) l 0 ⟨⟨0,⟨false,0⟩,(0,0)⟩,0⟩):=zH ⟨(Blk.new _ _ _).alloc _,Blk.new' _ _ _ zP,Below.alo (zA _) _,λh=>absurd rfl h,λ_=>rfl⟩;have eg:=enters_of func73 zk rfl;clear E F;go_enter func72,ntmps72
 go_wp2_with fail
 go_loopw[7,8,11,12,13,14,15,16,17,18,19,20,21,22,23,24,25,26] (λ_ _ i _ _ _ _ _ _ _ _ _ _ _ _ _ _ _ wr=>∃(k:Nat)(m:AY),k<=n∧i=zi (k:Int)∧Hid (LsR w wr l k m)) (λ_ _ i _ _ _ _ _ _ _ _ _ _ _ _ _ _ _ _=>n-(intOf i).toNat)
 case atStart=>exact⟨0,_,zs3 _,rfl,I⟩
 case round=>
  obtain⟨k,m,U,rfl,f⟩:=hrel;by_cases J:k<n
  ·obtain⟨b,O,x,rfl,P,s,d0,d1,d2,d3,d4,d5⟩:=iW (L.o.on vP f.o.low) J;have q:Bw wr (zw wr #[zi x.1.shape,.bool x.1.turn.flip,zi x.1.turn.quarter,zi x.1.at_.1,zi x.1.at_.2,zi x.2] 163):=zA _;have D:=zH (f.o.below q);obtain⟨⟨k0,k1,k2,k3,k4,k5⟩,⟨z0,z1,z2,z3,z4,z5⟩,kl⟩:=KA f.o.best zJ;have M:=zH (Blk.new wr 163 #[zi x.1.shape,.bool x.1.turn.flip,zi x.1.turn.quarter,zi x.1.at_.1,zi x.1.at_.2,zi x.2]);obtain⟨i1,i2⟩:=zI (k:=k) (n:=n) (by omega);by_cases a:k=0
   ·subst a;have r:=zH (WV s);simp only[Nat.zero_mul,Nat.add_zero]at d0 d1 d2 d3 d4 d5;clear s q
    go_wp2_with fail
    go_roundw
    case rel=>exact⟨0+1,x,by omega,by go_num,zH ((f.o.put (k2:=0+1) (x:=x) (λ_=>r.o) zO).below (zA _))⟩
    case measure=>exact zM
   have N:((k:Int) == 0)=false:=by simpa using a
   have r:=zH (Z9 s a (f.o.min a));have C:=zH (λW=>qH x m W)
   cases hle:Hn x m with
   | true=>
    have t:Nr x m<0:=by have:=XY x m;rw[hle]at this;exact of_decide_eq_true this
    rw[hle]at r;obtain⟨z,y⟩:=zG (Nr x m);rw[y]at t C;clear s q hle y a;go_wp2_with(go_at_call 73;refine(C.o _).mono ?_;rintro e w5 ⟨rfl,g⟩;have j:=zH (D.o.below g);obtain⟨⟨y0,y1,y2,y3,y4,y5⟩,⟨v0,v1,v2,v3,v4,v5⟩,vl⟩:=KA j.o.best zJ;obtain⟨t0,t1,t2,t3,t4,t5⟩:=In (M.o.below g);clear g)
    go_roundw
    case rel=>exact⟨k+1,x,by omega,by go_num,zH (j.o.put (λ_=>by rw[r.o];rfl) zO)⟩
    case measure=>exact zM
   | false=>
    have t:¬Nr x m<0:=by have:=XY x m;rw[hle]at this;exact of_decide_eq_false this
    rw[hle]at r;obtain⟨z,y⟩:=zG (Nr x m);rw[y]at t C;clear s q hle y a;go_wp2_with(go_at_call 73;refine(C.o _).mono ?_;rintro e w5 ⟨rfl,g⟩;have j:=zH (D.o.below g);clear g)
    go_roundw
    case rel=>exact⟨k+1,m,by omega,by go_num,zH ⟨j.o.res,j.o.best,j.o.low,(λ_=>by rw[r.o];rfl),λe=>by omega⟩⟩
    case measure=>exact zM
  obtain rfl:k=n:=zO;obtain⟨⟨k0,k1,k2,k3,k4,k5⟩,⟨z0,z1,z2,z3,z4,z5⟩,kl⟩:=KA f.o.best zJ;obtain⟨⟨y0,y1,y2,y3,y4,y5⟩,⟨v0,v1,v2,v3,v4,v5⟩,vl⟩:=KA f.o.res zJ;by_cases a:k=0
  ·subst a;have K:l=[]:=zt7 H.o;have B:Hid (R=none):=zH (by rw[<-G.o,K];rfl);obtain rfl:=f.o.zero rfl;obtain⟨u0,u1,u2,u3,u4,u5⟩:=XZ f.o.res (zi 0) (zF) (zi 0) (zi 0) (zi 0) (zi 0)
   go_wp2_with fail
   rw[B.o];refine bodyPost_ret (v:=U7 none) (by simp[results,results72,go_sem,U7,u0,u1,u2,u3,u4,u5]) rfl ⟨rfl,?_⟩;exact KB f.o.low (zs2 _) _ _ _ _ _ _
  have p:=f.o.min a;rw[zq4 (by rw[H.o];exact zs2 _)]at p;have B:Hid (R=some m):=zH (by rw[<-G.o,p]);have Q:(0:Int)<(k:Int):=zO;clear p;obtain⟨u0,u1,u2,u3,u4,u5⟩:=XZ f.o.res (zi m.1.shape) (.bool m.1.turn.flip) (zi m.1.turn.quarter) (zi m.1.at_.1) (zi m.1.at_.2) (zi m.2);have S:0<k:=zO
  go_wp2_with fail
  rw[B.o];refine bodyPost_ret (v:=U7 (some m)) (by simp[results,results72,go_sem,U7,u0,u1,u2,u3,u4,u5]) rfl ⟨rfl,?_⟩;exact KB f.o.low (zs2 _) _ _ _ _ _ _
section
variable{b:AG}{ss:List Ae}{puts:List Am}{placed:List PL}{k:Nat}{s:Ae}{t:Az}
theorem jC(h:Af ss ⟨k,t,(0,0)⟩=.error z):B8 b ss puts placed k s t=.error z:=by unfold B8;rw[h]
theorem jD{x:QO}(h:Af ss ⟨k,t,(0,0)⟩=.ok r)(a:EK r=.ok x)(e:Fx b s t r placed=.error z):B8 b ss puts placed k s t=.error z:=by unfold B8;rw[h];simp only[a,e]
theorem jE{l:lP}{x:QO}(h:Af ss ⟨k,t,(0,0)⟩=.ok r)(e:EK r=.ok x)(f:Fx b s t r placed=.ok l):B8 b ss puts placed k s t=.ok ((l.find? λa=>decide (Bh b ss puts ⟨k,t,a⟩=0)).map λa=>(⟨k,t,a⟩,a.1+x.x+x.w)):=by unfold B8;rw[h];simp only[e,f]
theorem U8(h:B8 b ss puts placed k s t=.ok (some e)):e.1.turn=t:=by
 unfold B8 at h;split at h
 ·cases h
 split at h
 ·cases h
 split at h
 ·cases h
 injection h with h
 simp only[Option.map_eq_some_iff]at h;obtain⟨a,_,rfl⟩:=h;rfl
theorem U9(h:DD b ss puts k ⟨false,0⟩=.error z):DM b ss puts k=.error z:=by
 unfold DD at h;unfold DM;split at h
 ·rename_i a;rw[if_pos a];injection h with h
  rw[h]
 rename_i a;rw[if_neg a];split at h
 ·rename_i e f;rw[f];injection h with h
  rw[h]
 rename_i r g;rw[g];split at h
 ·rename_i e f;simp only[f];injection h with h
  rw[h]
 cases h
theorem Ya(a:ss[k]?=some s)(h:DD b ss puts k ⟨false,0⟩=.ok (r,placed)):DM b ss puts k=match AE ((Cp s.grain false).map (B8 b ss puts placed k s))with
  | .error e=>.error e
  | .ok l=>match Eo (l.filterMap id)with
   | none=>.error 18
   | some x=>.ok x.1:=by
 unfold DD at h;unfold DM;split at h
 ·cases h
 rename_i f;rw[if_neg f];split at h
 ·cases h
 rename_i r' g;rw[g];split at h
 ·cases h
 rename_i l i;injection h with h
 injection h with h1 h2
 subst h2;simp only[i,zq3,a,Option.getD_some];rfl
theorem Qt(h:DD b ss puts k ⟨false,0⟩=.ok (r,placed)):BV b=false∧(∃r',Af ss ⟨k,⟨false,0⟩,(0,0)⟩=.ok r')∧AE (puts.map (Af ss))=.ok placed:=by
 unfold DD at h;split at h
 ·cases h
 rename_i a;split at h
 ·cases h
 rename_i r' e;split at h
 ·cases h
 rename_i l f;injection h with h
 injection h with h1 h2
 subst h2;exact⟨by simpa using a,⟨r',e⟩,f⟩
theorem Sq(h:DD b ss puts k ⟨false,0⟩=.error z):z≠0:=by
 unfold DD at h;split at h
 ·injection h with h
  omega
 split at h
 ·rename_i e a;injection h with h
  subst h;exact Ey a
 split at h
 ·rename_i e a;injection h with h
  subst h;obtain⟨q,_,f⟩:=zr2.1 (FQ a);exact Ey f
 cases h
theorem Sr{a:lP}(h:Fx b s t a placed=.error z):z≠0:=by
 cases hb:BO b a placed with
 | error y=>
  rw[Mh hb]at h;injection h with h
  rw[<-h];exact U4 hb
 | ok l=>rw[N3 hb]at h;cases h
theorem vV{f l:lP}(m:1<=b.width∧b.width<=1048576)(h:Fx b s t f placed=.ok l):∀p∈l,inD p:=by
 cases hbp:BO b f placed with
 | error y=>rw[Mh hbp]at h;cases h
 | ok l0=>
  rw[N3 hbp]at h;injection h with h
  subst h;intro p i;rw[Hd]at i;obtain⟨q,n,e⟩:=List.mem_filterMap.1 i;have j:=iV m hbp q n
  cases hm:s.match_ with
  | false=>
   rw[Sn hm]at e;injection e with e
   rw[<-e];exact j
  | true=>
   cases ho:Av s.anchor with
   | true=>rw[Qo hm ho]at e;cases e
   | false=>
    obtain⟨a,g⟩:=zG (BU t s.anchor);obtain⟨a1,a2,a3,a4⟩:=JY t s.anchor (DZ.1 ho);rw[g]at a1 a2 a3 a4
    cases hj:Av (a.1+q.1,a.2+q.2)with
    | true=>rw[Qp hm ho g hj]at e;cases e
    | false=>
     rw[Qq hm ho g hj]at e;injection e with e
     obtain⟨⟨n1,n2⟩,n3,n4⟩:=XN (b.rx,b.ry) (a.1+q.1,a.2+q.2) (0,0);subst e;exact⟨by simp only;omega,by simp only;omega,by simp only;omega,by simp only;omega⟩
end
theorem qI{t:Az}{a l:lP}(e:placed.length<=1000)(h:Fx b s t a placed=.ok l):l.length<=2000000002:=by
 cases hbp:BO b a placed with
 | error y=>rw[Mh hbp]at h;cases h
 | ok l0=>
  rw[N3 hbp]at h;injection h with h
  subst h;have f:=NV (l0.filterMap (Df (b.rx,b.ry) s t));have g:=List.length_filterMap_le (Df (b.rx,b.ry) s t) l0;have i:=XU e hbp;omega
theorem Va{α : Type}[DecidableEq α]:∀{xs l:List α},(l++xs).Nodup->AJ l xs=l++xs
 | [],l,_=>by simp[AJ]
 | x::xs,l,h=>by
  have a:x∉l:=λe=>by
   have:=List.nodup_append.1 h;exact this.2.2 x e x zP rfl
  show AJ (if x∈l then l else l++[x]) xs=_;rw[if_neg a,Va (by simpa using h)];simp
theorem WW(g:Int)(m:Bool):(Cp g m).Nodup:=by
 unfold Cp;refine List.Pairwise.filter _ ?_
 cases m <;> decide
theorem Vb{g:Int}{m:Bool}{t:Az}(h:t∈Cp g m):Q4 t:=by
 unfold Cp at h;have:=(List.mem_filter.1 h).1;simp only[List.map_cons,List.map_nil,zr3,List.not_mem_nil,or_false]at this;rcases this with rfl|rfl|rfl|rfl <;> simp[Q4]
theorem jF(g:Int)(m:Bool):(Cp g m).length<=4:=by
 unfold Cp;exact zs0 (List.length_filter_le _ _) zP
theorem Vc{f:Az->Except Int (Option AY)}(a:∀t e,f t=.ok (some e)->e.1.turn=t):∀{ts:List Az}{done:List (Option AY)},ts.map f=done.map Except.ok->((done.filterMap id).map λe=>e.1.turn).Sublist ts
 | [],[],_=>List.Sublist.refl _
 | [],_::_,h=>by simp at h
 | _::_,[],h=>by simp at h
 | t::ts,d::done,h=>by
  simp only[List.map_cons,List.cons.injEq]at h;have ih:=Vc a h.2
  cases d with
  | none=>simpa using ih.cons t
  | some e=>
   have:=a t e h.1;simp only[List.filterMap_cons,id,List.map_cons];rw[this];exact ih.cons_cons t
theorem aA{f:Az->Except Int (Option AY)}(i:∀t e,f t=.ok (some e)->e.1.turn=t){done:List (Option AY)}(h:ts.map f=done.map Except.ok)(j:ts.Nodup):(done.filterMap id).Nodup:=by
 have a:=(Vc i h).nodup j;rw[List.nodup_iff_pairwise_ne,List.pairwise_map]at a;rw[List.nodup_iff_pairwise_ne];exact a.imp λg e=>g (by rw[e])
def KD(x:Except Int Am)(w:World)(e:Ending)(w':World):Prop:=Bw w w'∧match x with
 | .ok p=>e=.returned (.tuple #[.agg #[zi p.shape,.bool p.turn.flip,zi p.turn.quarter,zi p.at_.1,zi p.at_.2],zi 0])
 | .error z=>e=.returned (.tuple #[.agg #[zi 0,zF,zi 0,zi 0,zi 0],zi z])
theorem Ls(h:Blk W g T #[a0,a1,a2,a3,a4])(u0 u1 u2 u3 u4:Value):(zL W g 0 a0∧zL W g 1 a1∧zL W g 2 a2∧zL W g 3 a3∧zL W g 4 a4)∧(W.frozen? (ad g 0)=false∧W.frozen? (ad g 1)=false∧W.frozen? (ad g 2)=false∧W.frozen? (ad g 3)=false∧W.frozen? (ad g 4)=false)∧g<W.heap.size∧zL (W.setCell (ad g 0) u0) g 0 u0∧zL ((W.setCell (ad g 0) u0).setCell (ad g 1) u1) g 1 u1∧zL (((W.setCell (ad g 0) u0).setCell (ad g 1) u1).setCell (ad g 2) u2) g 2 u2∧zL ((((W.setCell (ad g 0) u0).setCell (ad g 1) u1).setCell (ad g 2) u2).setCell (ad g 3) u3) g 3 u3∧zL (((((W.setCell (ad g 0) u0).setCell (ad g 1) u1).setCell (ad g 2) u2).setCell (ad g 3) u3).setCell (ad g 4) u4) g 4 u4:=
 ⟨Dm h,⟨h.frozen 0,h.frozen 1,h.frozen 2,h.frozen 3,h.frozen 4⟩,h.lt,(h.set_ 0 u0).c zP,((h.set_ 0 u0).set_ 1 u1).c zP,(((h.set_ 0 u0).set_ 1 u1).set_ 2 u2).c zP,((((h.set_ 0 u0).set_ 1 u1).set_ 2 u2).set_ 3 u3).c zP,(((((h.set_ 0 u0).set_ 1 u1).set_ 2 u2).set_ 3 u3).set_ 4 u4).c zP⟩
theorem Hx(h:Below n w0 w)(a:n<=g)(u0 u1 u2 u3 u4:Value):Below n w0 (((((w.setCell (ad g 0) u0).setCell (ad g 1) u1).setCell (ad g 2) u2).setCell (ad g 3) u3).setCell (ad g 4) u4):=
 ((((h.setCell (p:=ad g 0) a u0).setCell (p:=ad g 1) a u1).setCell (p:=ad g 2) a u2).setCell (p:=ad g 3) a u3).setCell (p:=ad g 4) a u4
theorem qJ(w:World):DT (zw w #[.map none,zn] 152) w.heap.size w.heap.size none (zn) []:=
 ⟨Blk.new _ _ _,World.ownsRow_nil _ _ _ _,λmb e=>(by cases e),λ_=>rfl,zs2 _⟩
theorem Yb{mo:Option Nat}(h:DT w a p mo v L):∀i,Dq p mo v i->a<=i∧i<w.heap.size:=λi hi=>by
 rcases hi with rfl|e|e
 ·exact⟨h.low,h.box.lt⟩
 ·subst e;exact⟨(h.mp _ rfl).2,(h.mp _ rfl).1.lt⟩
 have:=h.row.lt i e;exact⟨this.1,this.2⟩
theorem qK(h:Blk w g T (enC x).toArray):Ab 6 enG w (sa g 0) 1 [x]:=by
 refine⟨rfl,λ_=>⟨g,0,rfl,h.lt,λj y a=>⟨_,rfl,λi u e=>?_⟩⟩⟩
 match j,a with
 | 0,a=>
  injection a with a
  subst a;have:=h.c (i:=i) (v:=u) (by simpa using e);simpa using this
theorem vW{mo:Option Nat}(h:DT w a p mo v L)(f:a<=w.heap.size)(g:L.length<=10000000000)(x:AY) :
  CP 71 #[.pointer (sa p 0),.slice (sa w.heap.size 0) 1 1] (zw w #[zi x.1.shape,.bool x.1.turn.flip,zi x.1.turn.quarter,zi x.1.at_.1,zi x.1.at_.2,zi x.2] 163) (iY a p mo v (AJ L [x]) (zw w #[zi x.1.shape,.bool x.1.turn.flip,zi x.1.turn.quarter,zi x.1.at_.1,zi x.1.at_.2,zi x.2] 163)):=by
 refine qG a p mo v L (sa w.heap.size 0) 1 1 [x] _ (h.below (zA _)) (qK (Blk.new _ _ _)) (λb' i e f=>?_) zO g zQ;injection e with e
 injection e with e1 e2
 have:=(Yb h b' f).2;omega
theorem aB{mo:Option Nat}(h:Below a W1 w)(e:Off (Dq p mo v) w w')(f:DT w a p mo v L)(g:a<=w.heap.size):Below a W1 w':=
 h.trans (e.below g λi hi=>(Yb f i hi).1)
theorem Ss{l:lP}{f:Pt->Bool}{p:Pt}(h:l[q]?=some p)(a:(l.take q).find? f=none):(l.take (q+1)).find? f=if f p=true then some p else none:=by
 rw[J9 h,List.find?_append,a];simp[List.find?_cons]
 cases f p <;> rfl
theorem vX{l:lP}{f:Pt->Bool}{p:Pt}(h:l[q]?=some p)(e:(l.take q).find? f=none)(g:f p=true):l.find? f=some p:=by
 have a:=Ss h e;rw[if_pos g]at a;have i:l=l.take (q+1)++l.drop (q+1):=(List.take_append_drop _ _).symm;rw[i,List.find?_append,a];rfl
theorem Vd{l:List Az}(h:Ab 2 Ji w A n l)(f:k<n):∃b a t,A=some ⟨b,a,none⟩∧b<w.heap.size∧l[k]?=some t∧zL w b (a+k*2) (.bool t.flip)∧zL w b (a+k*2+1) (zi t.quarter):=by
 obtain⟨b,a,x,vs,rfl,g,i,rfl,e⟩:=h.at_ f;exact⟨b,a,x,rfl,g,i,e 0 _ rfl,e 1 _ rfl⟩
theorem vY{b:Nat}(h:Blk w p T #[.map none,zn])(a:w.cell? (ad b g)=some (.bool f)):b≠p:=by
 intro e;subst e;rw[h.cell g]at a
 match g,a with
 | 0,a=>simp at a
 | 1,a=>simp at a
 | k+2,a=>simp at a
theorem Off.recsT{S:Nat->Prop}{l:List Az}(h:Off S w w')(g:Ab 2 Ji w A n l)(o:0<n->∀b a,A=some ⟨b,a,none⟩->¬S b):Ab 2 Ji w' A n l:=by
 refine⟨g.1,λm=>?_⟩;obtain⟨b,a,e,f,p⟩:=g.2 m;refine⟨b,a,e,zs1 f h.size,λj x q=>?_⟩;obtain⟨vs,r,v⟩:=p j x q;refine⟨vs,r,λi u y=>?_⟩;rw[<-v i u y];unfold World.cell?;simp only;rw[h.block b f (o m b a e)]
theorem jG{l:List Az}(h:Ab 2 Ji w A n l)(f:Blk w p T #[.map none,zn]):0<n->∀b a,A=some ⟨b,a,none⟩->¬Dq p none (zn) b:=λg b a e i=>by
 obtain⟨b',off',t,e',j,_,f0,_⟩:=Vd h g;rw[e]at e';injection e' with e'
 injection e' with e1 e2
 subst e1;rcases i with e3|e3|e3
 ·exact vY f f0 e3
 ·cases e3
 simp[Value.ownBlock]at e3
theorem qL{mo:Option Nat}(h:¬Dq p mo v i)(hi:i<w.heap.size)(a:mo=some mb'∨w.heap.size<=mb')(f:∀g,v'.ownBlock=some g->v.ownBlock=some g∨w.heap.size<=g):¬Dq p (some mb') v' i:=λj=>by
 rcases j with rfl|e|e
 ·exact h (.inl rfl)
 ·injection e with e
  subst e;rcases a with e|e
  ·exact h (.inr (.inl e))
  omega
 rcases f i e with e|e
 ·exact h (.inr (.inr e))
 omega
theorem qM{c:Nat}(h:w.ownsRow a T 6 (.slice A n c) n (l.flatMap enC))(i:l.length=n):Ab 6 enG w A n l:=by
 obtain⟨A',c',e,f,j⟩:=CJ (G:=enG) (g:=λx:AY=>x) vN h i (λt _=>rfl);rw[List.map_id']at f;injection e with e _ _
 rw[e];exact f
theorem St{f:Az->Except Int (Option AY)}{done:List (Option AY)}{t:Az}{d:Option AY}(h:(ts.take j).map f=done.map Except.ok)(a:ts[j]?=some t)(hd:f t=.ok d):(ts.take (j+1)).map f=(done++[d]).map Except.ok:=by
 rw[List.take_add_one,a,zr0,h];simp[hd]
theorem Ve{f:Az->Except Int (Option AY)}{done:List (Option AY)}{t:Az}(h:(ts.take j).map f=done.map Except.ok)(a:ts[j]?=some t)(hd:f t=.error z):AE (ts.map f)=.error z:=by
 have e:ts=ts.take j++t::ts.drop (j+1):=by rw[<-Et a,List.take_append_drop]
 rw[e,zr0,h,List.map_cons,hd,J8]
theorem Vf{p:lP}(h:An p=0):∃x,EK p=.ok x:=⟨_,Up h⟩
end Go.Proofs.YteafekbddckemaaGreatDoor
