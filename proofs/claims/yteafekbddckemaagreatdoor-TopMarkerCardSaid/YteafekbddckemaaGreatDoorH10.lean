/- Parts of the proof. -/
import Derived.Test.YteafekbddckemaaGreatDoorH09
set_option maxRecDepth 100000
set_option maxHeartbeats 40000000
namespace Go.Proofs.YteafekbddckemaaGreatDoor
open Tryz Go.RowKit
open Go.Lib hiding intOf
variable{a u0 u1:Value}{b:AG}{c:UInt8}{cs:List Ac}{g i j k:Nat}{l x:List UInt8}{m:Au}{p q:Ac}{puts:List Am}{s:Al}{sizes:List Int}{ss:List Ae}{t:TypeId}{w w':World}
theorem Mx(c:UInt8)(t:List UInt8):index (c::t) [c]=0:=by
 unfold index;rw[if_pos (by simp[List.isPrefixOf])]
theorem My{b:UInt8}(t:List UInt8)(h:b≠c):index (b::t) [c]=if index t [c] = -1 then -1 else index t [c]+1:=by
 rw[index];have:List.isPrefixOf [c] (b::t)=false:=by simp[List.isPrefixOf];exact λe=>h e.symm
 rw[this];simp
theorem eF(c:UInt8):split [] [c]=[[]]:=by
 unfold split;have:count [] [c]=0:=by rw[Go.Lib.count_one];rfl
 rw[this];rfl
theorem S5(c:UInt8)(t:List UInt8):split (c::t) [c]=[]::split t [c]:=by
 unfold split;rw[count_cons_eq,Nat.add_comm,splitK,Mx];simp
theorem Mz{b:UInt8}{t:List UInt8}{r:List (List UInt8)}(h:b≠c)(a:split t [c]=x::r):split (b::t) [c]=(b::x)::r:=by
 have f:=index_ge t [c]
 have key:∀k,splitK [c] 0 k (b::t)=match splitK [c] 0 k t with | []=>[]|x::r=>(b::x)::r:=by
  intro k
  cases k with
  | zero=>rfl
  | succ k=>
   rw[splitK,splitK,My t h];by_cases hi:index t [c] = -1
   ·rw[if_pos hi,hi];simp
   rw[if_neg hi];have e1:((index t [c]+1) == -1)=false:=by rw[beq_eq_false_iff_ne];omega
   have e0:(index t [c] == -1)=false:=by rw[beq_eq_false_iff_ne];exact hi
   have e:(index t [c]+1).toNat=(index t [c]).toNat+1:=zO;rw[e1,e0,e];simp
 have e3:split (b::t) [c]=splitK [c] 0 (count t [c]) (b::t):=by unfold split;rw[count_cons_ne b c t h]
 have e4:splitK [c] 0 (count t [c]) t=x::r:=a;rw[e3,key,e4]
theorem Pv{c:UInt8}(t:List UInt8):∀(u:List UInt8),c∉u->split (u++c::t) [c]=u::split t [c]
 | [],_=>S5 c t
 | b::u,h=>by
  have a:b≠c:=λe=>h (by simp[e])
  have f:c∉u:=λe=>h (by simp[e])
  rw[List.cons_append,Mz a (Pv t u f)]
theorem Pw{c:UInt8}:∀(u:List UInt8),c∉u->split u [c]=[u]
 | [],_=>eF c
 | b::u,h=>by
  have a:b≠c:=λe=>h (by simp[e])
  have f:c∉u:=λe=>h (by simp[e])
  rw[Mz a (Pw u f)]
theorem eG(n:Nat)(h:Fw c=false):c∉decDigits n:=λa=>by
 have:=List.all_eq_true.1 (K4 n) c a;rw[h]at this
 cases this
theorem nM(h:l.all Fw=true):hasPrefix l [45]=false∧trimPrefix l [45]=l:=by
 have a:hasPrefix l [45]=false:=by
  unfold hasPrefix
  cases l with
  | nil=>rfl
  | cons b t=>
   have f:=List.all_eq_true.1 h b zP;have:b≠45:=λe=>by subst e;revert f;decide
   simp[List.isPrefixOf];exact λe=>this e.symm
 exact⟨a,by rw[trimPrefix,a];rfl⟩
theorem eH(l:List UInt8):hasPrefix (45::l) [45]=true∧trimPrefix (45::l) [45]=l:=by
 have a:hasPrefix (45::l) [45]=true:=by simp[hasPrefix,List.isPrefixOf]
 exact⟨a,by rw[trimPrefix,if_pos a];rfl⟩
theorem Xy(i:Int)(h:Fw c=false)(b:c≠45):c∉itoa i:=by
 unfold itoa;split
 ·intro a;rcases zr3.1 a with e|a
  ·exact b e
  exact eG _ h a
 exact eG _ h
def BB(a b:Ac):Bool:=decide (a.garment=b.garment)&&(decide (a.use=b.use)&&decide (a.copy=b.copy))
def JW(cs:List Ac)(p:Ac):Option Nat:=(List.range cs.length).reverse.find? λi=>match cs[i]? with|some c=>BB c p|none=>false
def JX(cs:List Ac):List Ac->List Nat->Except Int (List Nat)
 | [],seen=>.ok seen
 | p::l,seen=>match JW cs p with
  | none=>.error 3
  | some i=>if i∈seen then .error 7 else JX cs l (seen++[i])
def Ho(i:Nat)(p:Ac):Am:=⟨i,⟨false,p.turn.quarter⟩,p.at_⟩
def IR(s:Al)(m:Au):Except Int (List Ae×List Am):=match AI s m.sizes with
 | .error e=>.error e
 | .ok x=>match JX x.2 m.places []with
  | .error e=>.error e
  | .ok seen=>
   if ((List.range x.2.length).any λi=>!(decide (i∈seen)))=true then .error 20 else
   if ((List.range m.places.length).any λi=>match m.places[i]?,x.2[seen.getD i 0]? with|some p,some c=>decide (p.turn.flip≠c.turn.flip)|_,_=>false)=true then .error 12 else
    let puts:=(List.range m.places.length).map λi=>Ho (seen.getD i 0) (m.places.getD i ⟨0,0,0,⟨false,0⟩,(0,0)⟩)
    if Ce ⟨m.length,m.width,m.repeat_.1,m.repeat_.2⟩ x.1 puts≠0 then .error (Ce ⟨m.length,m.width,m.repeat_.1,m.repeat_.2⟩ x.1 puts)else .ok (x.1,puts)
def AaS(s:Al)(m:Au):Int:=match IR s m with
 | .error e=>e
 | .ok _=>0
def MV(s:Al)(m:Au):Except Int (List (List Pt)):=match IR s m with
 | .error e=>.error e
 | .ok x=>AE (x.2.map (Af x.1))
def inR(lo hi:Int)(l:List Int):Bool:=l.all λn=>decide (lo<=n)&&decide (n<=hi)
def AO(w:List UInt8)(l:List Int):List UInt8:=w++l.flatMap λn=>32::itoa n
def EN(m:Au):Bool:=inR 0 1048576 [m.length,m.width,m.repeat_.1,m.repeat_.2]
def Cw(p:Ac):Bool:=inR 0 1048576 [p.garment,p.use,p.copy]&&(inR 0 3 [p.turn.quarter]&&inR (-1048576) 1048576 [p.at_.1,p.at_.2])
def Bm:List UInt8:=[109,97,114,107,101,114]
def Br:List UInt8:=[115,105,122,101,115]
def Bs:List UInt8:=[112,108,97,99,101]
def E3:List UInt8:=[32,102,108,105,112]
def FH(p:Ac):List UInt8:=AO (AO Bs [p.garment,p.use,p.copy]++(if p.turn.flip=true then E3 else[])) [p.turn.quarter,p.at_.1,p.at_.2]++[10]
def E4(m:Au):List UInt8:=(AO Bm [m.length,m.width,m.repeat_.1,m.repeat_.2]++[10])++(AO Br m.sizes++[10])++m.places.flatMap FH
def CZ(m:Au):Int:=
 if 6<m.sizes.length∨60<m.places.length then 5 else if EN m=false∨inR 0 1048576 m.sizes=false then 3 else if (m.places.any λp=>!Cw p)=true then 3 else 0
def Eq:Au:=⟨10,20,(0,0),[0],[⟨0,0,0,⟨false,0⟩,(0,0)⟩,⟨0,0,1,⟨true,0⟩,(10,10)⟩]⟩
theorem MW:CZ Eq=0∧E4 Eq=[109,97,114,107,101,114,32,49,48,32,50,48,32,48,32,48,10,115,105,122,101,115,32,48,10,112,108,97,99,101,32,48,32,48,32,48,32,48,32,48,32,48,10,112,108,97,99,101,32,48,32,48,32,49,32,102,108,105,112,32,48,32,49,48,32,49,48,10]:=by decide +kernel
def Q4(t:Az):Prop:=t.quarter=0∨t.quarter=1∨t.quarter=2∨t.quarter=3
theorem nN(t:Az)(w:World):Bw w (zw w #[.bool t.flip,zi t.quarter] 55):=zA _
theorem xX{q:Int}(h:q=0∨q=1∨q=2∨q=3):bits BinOp.and IntKind.i64 q 3=q:=by rcases h with rfl|rfl|rfl|rfl <;> rfl
theorem eI(t:Az)(w:World)(h:Q4 t) :
  CP 34 #[.agg #[.bool t.flip,zi t.quarter]] w (zR (.agg #[.bool t.flip,zi t.quarter]) w):=by
 obtain⟨f,q⟩:=t;have a:=xX h;simp only[Q4]at h⊢
 clear h;go_enter func34,ntmps34;go_wp2;refine bodyPost_ret (v:=.agg #[.bool f,zi q]) (by simp[results,results34,go_sem]) rfl ⟨rfl,?_⟩;exact(zA _).alloc zP _
theorem EU(h:Blk w g t #[u0,u1])(a:Bw w w'):zL w' g 0 u0∧zL w' g 1 u1∧w'.frozen? (ad g 0)=false∧w'.frozen? (ad g 1)=false:=⟨(h.below a).c rfl,(h.below a).c rfl,(h.below a).frozen 0,(h.below a).frozen 1⟩
theorem nO(k:Nat):((k:Int) == 0)=decide (k=0):=by rw[Bool.eq_iff_iff];simp
theorem nP(k:Nat):((k:Int) == 2)=decide (k=2):=by rw[Bool.eq_iff_iff];simp;omega
theorem Xz(a b:Int):(a == b)=decide (a=b):=by rw[Bool.eq_iff_iff];simp
theorem TY{t:Az}(h:Q4 t):((Fj t:Nat):Int)=t.quarter:=by
 unfold Fj;unfold Q4 at h;omega
theorem KQ(g:Int)(m:Bool)(t:Az)(w:World)(h:Q4 t) :
  CP 13 #[zi g,.bool m,.agg #[.bool t.flip,zi t.quarter]] w (zR (.bool (BF g m t)) w):=by
 have i:=zH (nN t w);have n:=zH (Blk.new w 55 #[.bool t.flip,zi t.quarter]);have p:=zH (λW=>eI t W h);have v:=TY h;have r:Hid (BF g m t=(decide (t.flip=m)&&(if g=1 then decide (Fj t=0)else if g=2 then decide (Fj t=0)||decide (Fj t=2)else decide (g=4)))):=rfl;obtain⟨k,x⟩:=zG (Fj t);rw[x]at v r;obtain⟨f,q⟩:=t;simp only at *
 subst v;clear x h;by_cases s:f=m
 ·subst s;by_cases g1:g=1
  ·subst g1;have j:Hid (BF 1 f ⟨f,(k:Int)⟩=((k:Int) == 0)):=by rw[Hid,r.o,nO];simp
   go_enter func13,ntmps13;go_wp2_with(go_at_call 34;refine(p.o _).mono ?_;rintro e w1 ⟨rfl,a⟩;obtain⟨k0,k1,k2,k3⟩:=EU n.o a;have b:=zH (zT i.o a);clear a)
   go_ret;exact⟨by rw[j.o];rfl,by repeat(first|(with_reducible exact b.o)|(with_reducible refine Ai ?_ _)|(with_reducible refine Below.drew ?_)|(with_reducible refine Below.setCell ?_ zP _))⟩
  have g1':(g == 1)=false:=by simpa using g1
  by_cases g2:g=2
  ·subst g2;by_cases l:k=0
   ·subst l;have j:Hid (BF 2 f ⟨f,((0:Nat):Int)⟩=true):=by rw[Hid,r.o];simp
    go_enter func13,ntmps13;go_wp2_with(go_at_call 34;refine(p.o _).mono ?_;rintro e w1 ⟨rfl,a⟩;obtain⟨k0,k1,k2,k3⟩:=EU n.o a;have b:=zH (zT i.o a);clear a)
    go_ret;exact⟨by rw[j.o];rfl,by repeat(first|(with_reducible exact b.o)|(with_reducible refine Ai ?_ _)|(with_reducible refine Below.drew ?_)|(with_reducible refine Below.setCell ?_ zP _))⟩
   have j:Hid (BF 2 f ⟨f,(k:Int)⟩=((k:Int) == 2)):=by rw[Hid,r.o,nP];simp[l]
   have y:((k:Int) == 0)=false:=by simpa using l
   clear l;go_enter func13,ntmps13;go_wp2_with(go_at_call 34;refine(p.o _).mono ?_;rintro e w1 ⟨rfl,a⟩;obtain⟨k0,k1,k2,k3⟩:=EU n.o a;have b:=zH (zT i.o a);clear a)
   go_ret;exact⟨by rw[j.o];rfl,by repeat(first|(with_reducible exact b.o)|(with_reducible refine Ai ?_ _)|(with_reducible refine Below.drew ?_)|(with_reducible refine Below.setCell ?_ zP _))⟩
  have j:Hid (BF g f ⟨f,(k:Int)⟩=(g == 4)):=by rw[Hid,r.o,if_neg g1,if_neg g2,Xz];simp
  have g2':(g == 2)=false:=by simpa using g2
  clear g1 g2;by_cases g4:g=4
  ·subst g4;go_enter func13,ntmps13;go_wp2_with(go_at_call 34;refine(p.o _).mono ?_;rintro e w1 ⟨rfl,a⟩;obtain⟨k0,k1,k2,k3⟩:=EU n.o a;have b:=zH (zT i.o a);clear a)
   go_ret;exact⟨by rw[j.o];rfl,by repeat(first|(with_reducible exact b.o)|(with_reducible refine Ai ?_ _)|(with_reducible refine Below.drew ?_)|(with_reducible refine Below.setCell ?_ zP _))⟩
  have g4':(g == 4)=false:=by simpa using g4
  rw[g4']at j;clear g4;go_enter func13,ntmps13;go_wp2_with(go_at_call 34;refine(p.o _).mono ?_;rintro e w1 ⟨rfl,a⟩;obtain⟨k0,k1,k2,k3⟩:=EU n.o a;have b:=zH (zT i.o a);clear a)
  go_ret;exact⟨by rw[j.o];rfl,by repeat(first|(with_reducible exact b.o)|(with_reducible refine Ai ?_ _)|(with_reducible refine Below.drew ?_)|(with_reducible refine Below.setCell ?_ zP _))⟩
 have j:Hid (BF g m ⟨f,(k:Int)⟩=false):=by rw[Hid,r.o,zu0 s];rfl
 have z:(!f == m)=true:=by cases f <;> cases m <;> simp_all
 clear s;go_enter func13,ntmps13;go_wp2_with(go_at_call 34;refine(p.o _).mono ?_;rintro e w1 ⟨rfl,a⟩;obtain⟨k0,k1,k2,k3⟩:=EU n.o a;have b:=zH (zT i.o a);clear a)
 go_ret;exact⟨by rw[j.o];rfl,by repeat(first|(with_reducible exact b.o)|(with_reducible refine Ai ?_ _)|(with_reducible refine Below.drew ?_)|(with_reducible refine Below.setCell ?_ zP _))⟩
theorem eJ:∀(k:Nat)(s:Pt),inG s->inG (YK k s)
 | 0,s,h=>h
 | k+1,s,h=>eJ k _ (by obtain⟨a,b,e,f⟩:=h;exact⟨by simp only;omega,by simp only;omega,by simp only;omega,by simp only;omega⟩)
theorem JY(t:Az)(s:Pt)(h:inG s):inG (BU t s):=by
 unfold BU;refine eJ _ _ ?_;obtain⟨a,b,e,f⟩:=h;split
 ·exact⟨by simp only;omega,by simp only;omega,by simp only;omega,by simp only;omega⟩
 exact⟨a,b,e,f⟩
theorem FI{b:Value}(h:Blk w g t #[a,b])(u v:Value):Blk ((w.setCell (ad g 0) u).setCell (ad g 1) v) g t #[u,v]:=by
 have:=(h.set_ 0 u).set_ 1 v;simpa using this
theorem RD{b:Value}(h:Blk w g t #[a,b])(u:Value):(w.setCell (ad g 0) u).cell? (ad g 0)=some u:=(h.set_ 0 u).c zP
def MX(w:World)(q:Nat)(R:Pt)(k:Nat)(wr:World):Prop:=∃s:Pt,inG s∧YK (q-k) s=R∧Blk wr (w.heap.size+1) 56 #[zi s.1,zi s.2]∧Blk wr (w.heap.size+1+1) 56 #[zi 0,zi 0]∧Bw w wr
theorem Kn(t:Az)(p:Pt)(w:World)(h:Q4 t)(H:inG p) :
  CP 62 #[.agg #[.bool t.flip,zi t.quarter],.agg #[zi p.1,zi p.2]] w (zR (.agg #[zi (BU t p).1,zi (BU t p).2]) w):=by
 have P:=xX h;have I:=TY h;have J:Fj t<4:=by unfold Q4 at h;omega
 obtain⟨R,r⟩:=zG (BU t p);rw[r];unfold BU at r;obtain⟨k0,C⟩:=zG (Fj t);rw[C]at I J r;have D:=zH r;obtain⟨f,q⟩:=t;obtain⟨x,y⟩:=p;simp only at *
 subst I;have M:=zH H;obtain⟨p1,p2,p3,p4⟩:=H;simp only at p1 p2 p3 p4;have O:IntKind.i64.wrap (-x) = -x:=zs5 _ zO;have E:Bw w (zw (zw (zw w #[.bool f,zi (k0:Int)] 55) #[zi x,zi y] 56) #[zi 0,zi 0] 56):=((zA _).alloc zP _).alloc zQ _;have F:Blk (zw (zw (zw w #[.bool f,zi (k0:Int)] 55) #[zi x,zi y] 56) #[zi 0,zi 0] 56) (w.heap.size+1) 56 #[zi x,zi y]:=(Blk.new' _ _ _ zP).alloc _;have G:Blk (zw (zw (zw w #[.bool f,zi (k0:Int)] 55) #[zi x,zi y] 56) #[zi 0,zi 0] 56) (w.heap.size+1+1) 56 #[zi 0,zi 0]:=Blk.new' _ _ _ zP
 have K:Hid (MX w k0 R 0 (if f=true then(zw (zw (zw w #[.bool f,zi (k0:Int)] 55) #[zi (-x),zi y] 56) #[zi 0,zi 0] 56)else(zw (zw (zw w #[.bool f,zi (k0:Int)] 55) #[zi x,zi y] 56) #[zi 0,zi 0] 56))):=by
  cases f
  ·exact⟨(x,y),M.o,D.o,F,G,E⟩
  exact⟨(-x,y),⟨by simp only;omega,by simp only;omega,by simp only;omega,by simp only;omega⟩,D.o,(Blk.new' _ _ _ zP).alloc _,Blk.new' _ _ _ zP,((zA _).alloc zP _).alloc zQ _⟩
 clear E F G r p1 p2 p3 p4 h C
 cases f
 ·have z:Hid (MX w k0 R 0 (zw (zw (zw w #[zF,zi (k0:Int)] 55) #[zi x,zi y] 56) #[zi 0,zi 0] 56)):=K.o;go_enter func62,ntmps62;go_wp2
  go_loopw[14,16,17,18,19,20,21] (λi _ _ _ _ _ _ wr=>∃k:Nat,k<=k0∧i=zi (k:Int)∧Hid (MX w k0 R k wr)) (λi _ _ _ _ _ _ _=>k0-(intOf i).toNat)
  case atStart=>exact⟨0,zs3 _,rfl,z⟩
  case round=>
   obtain⟨k,C,rfl,m⟩:=hrel;obtain⟨s,B,j,b,g,l⟩:=m.o;have c0:=b.c (i:=0) rfl;have c1:=b.c (i:=1) rfl;have c2:=b.frozen 0;have c3:=b.frozen 1;have d0:=g.c (i:=0) rfl;have d1:=g.c (i:=1) rfl;have d2:=g.frozen 0;have d3:=g.frozen 1;have n:=zH (zu2 B j);have a:=zH (zu2 b (zu2 g l));obtain⟨sx,sy⟩:=s;obtain⟨p1,p2,p3,p4⟩:=B;simp only at *
   have L:IntKind.i64.wrap (-sy) = -sy:=zs5 _ zO;clear p1 p2 p3 p4 b g l j m;by_cases N:k<k0
   ·have j1:(k:Int)<(k0:Int):=zO
    go_wp2_with fail
    go_roundw
    case rel=>
     refine⟨k+1,by omega,by go_num,(-sy,sx),?_,?_,?_,?_,?_⟩
     ·obtain⟨q1,q2,q3,q4⟩:=n.o.1;simp only at q1 q2 q3 q4;refine⟨?_,?_,?_,?_⟩ <;> simp only <;> omega
     ·rw[<-n.o.2,show k0-k=(k0-(k+1))+1 by omega];rfl
     ·exact FI a.o.1 _ _
     ·exact(a.o.2.1.far zP _).far zP _
     exact(a.o.2.2.setCell (by simp <;> omega) _).setCell (by simp <;> omega) _
    case measure=>exact zM
   obtain rfl:k0=k:=zO
   go_wp2_with fail
   have f0:=RD a.o.2.1 (zi sx);have f1:=(FI a.o.2.1 (zi sx) (zi sy)).c (i:=1) rfl;refine bodyPost_ret (v:=.agg #[zi sx,zi sy]) (by simp[results,results62,go_sem,f0,f1]) rfl ⟨?_,?_⟩
   ·have:=n.o.2;rw[Nat.sub_self]at this;rw[<-this];rfl
   exact(a.o.2.2.setCell (by simp <;> omega) _).setCell (by simp <;> omega) _
 have z:Hid (MX w k0 R 0 (zw (zw (zw w #[zY,zi (k0:Int)] 55) #[zi (-x),zi y] 56) #[zi 0,zi 0] 56)):=K.o;go_enter func62,ntmps62;go_wp2
 go_loopw[14,16,17,18,19,20,21] (λi _ _ _ _ _ _ wr=>∃k:Nat,k<=k0∧i=zi (k:Int)∧Hid (MX w k0 R k wr)) (λi _ _ _ _ _ _ _=>k0-(intOf i).toNat)
 case atStart=>exact⟨0,zs3 _,rfl,z⟩
 case round=>
  obtain⟨k,C,rfl,m⟩:=hrel;obtain⟨s,B,j,b,g,l⟩:=m.o;have c0:=b.c (i:=0) rfl;have c1:=b.c (i:=1) rfl;have c2:=b.frozen 0;have c3:=b.frozen 1;have d0:=g.c (i:=0) rfl;have d1:=g.c (i:=1) rfl;have d2:=g.frozen 0;have d3:=g.frozen 1;have n:=zH (zu2 B j);have a:=zH (zu2 b (zu2 g l));obtain⟨sx,sy⟩:=s;obtain⟨p1,p2,p3,p4⟩:=B;simp only at *
  have L:IntKind.i64.wrap (-sy) = -sy:=zs5 _ zO;clear p1 p2 p3 p4 b g l j m;by_cases N:k<k0
  ·have j1:(k:Int)<(k0:Int):=zO
   go_wp2_with fail
   go_roundw
   case rel=>
    refine⟨k+1,by omega,by go_num,(-sy,sx),?_,?_,?_,?_,?_⟩
    ·obtain⟨q1,q2,q3,q4⟩:=n.o.1;simp only at q1 q2 q3 q4;refine⟨?_,?_,?_,?_⟩ <;> simp only <;> omega
    ·rw[<-n.o.2,show k0-k=(k0-(k+1))+1 by omega];rfl
    ·exact FI a.o.1 _ _
    ·exact(a.o.2.1.far zP _).far zP _
    exact(a.o.2.2.setCell (by simp <;> omega) _).setCell (by simp <;> omega) _
   case measure=>exact zM
  obtain rfl:k0=k:=zO
  go_wp2_with fail
  have f0:=RD a.o.2.1 (zi sx);have f1:=(FI a.o.2.1 (zi sx) (zi sy)).c (i:=1) rfl;refine bodyPost_ret (v:=.agg #[zi sx,zi sy]) (by simp[results,results62,go_sem,f0,f1]) rfl ⟨?_,?_⟩
  ·have:=n.o.2;rw[Nat.sub_self]at this;rw[<-this];rfl
  exact(a.o.2.2.setCell (by simp <;> omega) _).setCell (by simp <;> omega) _
theorem Zk{g:Int}{m:Bool}{t:Az}(h:t∈Cp g m):t.flip=m:=by
 unfold Cp at h;rw[List.mem_filter]at h;obtain⟨q,_,rfl⟩:=zr2.1 h.1;rfl
theorem fO{p:Am}(h:DM b ss puts k=.ok p):p.turn.flip=false:=by
 unfold DM at h;split at h
 ·cases h
 split at h
 ·cases h
 split at h
 ·cases h
 rename_i placed r;simp only at h;split at h
 ·cases h
 rename_i l i;split at h
 ·cases h
 rename_i x j;obtain rfl:x.1=p:=by simpa using h
 have m:=CE i;obtain⟨o,n,f⟩:=List.mem_filterMap.1 (MS j);obtain rfl:o=some x:=f
 have q:(Except.ok (some x):Except Int (Option (Am×Int)))∈(Cp (ss.getD k ⟨[],0,false,(0,0)⟩).grain false).map (B8 b ss puts placed k (ss.getD k ⟨[],0,false,(0,0)⟩)):=by
  rw[m];exact List.mem_map_of_mem n
 obtain⟨t,g,e⟩:=zr2.1 q;unfold B8 at e;split at e
 ·cases e
 split at e
 ·cases e
 split at e
 ·cases e
 injection e with e
 rw[Option.map_eq_some_iff]at e;obtain⟨a,_,rfl⟩:=e;exact Zk g
theorem OW{b:AG}{ss:List Ae}:∀{l:List Nat}{puts out:List Am},Ch b ss l puts=.ok out->(∀p∈puts,p.turn.flip=false)->∀p∈out,p.turn.flip=false
 | [],puts,out,h,h0=>by
  obtain rfl:puts=out:=by simpa[Ch]using h
  exact h0
 | k::l,puts,out,h,h0=>by
  unfold Ch at h;split at h
  ·cases h
  rename_i p e;refine OW h λq a=>?_
  rcases zr1.1 a with a|a
  ·exact h0 q a
  obtain rfl:q=p:=by simpa using a
  exact fO e
theorem RP(ss:List Ae)(i:Nat):∀l:List Nat,(G6 ss i l).Perm (i::l)
 | []=>List.Perm.refl _
 | j::l=>by
  unfold G6;split
  ·exact List.Perm.refl _
  exact((RP ss i l).cons j).trans (List.Perm.swap i j l)
theorem Fp(ss:List Ae):(Gk ss).Perm (List.range ss.length):=by
 have key:∀(l acc:List Nat),(l.foldl (λa i=>G6 ss i a) acc).Perm (l++acc):=by
  intro l;induction l with
  | nil=>intro acc;exact List.Perm.refl _
  | cons x l ih=>
   intro acc;rw[List.foldl_cons];refine(ih _).trans ?_;refine((RP ss x acc).append_left l).trans ?_;exact List.perm_middle
 have:=key (List.range ss.length) [];rwa[zt3]at this
def Ih(c:Ac)(p:Am):Ac:={ c with turn:=⟨c.turn.flip,p.turn.quarter⟩,at_:=p.at_ }
theorem LX:∀(puts:List Am)(cs:List Ac),(BP cs puts).length=cs.length
 | [],_=>rfl
 | p::puts,cs=>by
  show(BP (cs.modify p.shape.toNat λc=>{ c with turn:=⟨c.turn.flip,p.turn.quarter⟩,at_:=p.at_ }) puts).length=_
  rw[LX puts,List.length_modify]
theorem Ud:∀(puts:List Am)(cs:List Ac)(i:Nat),(∀p∈puts,0<=p.shape)->(puts.map (·.shape)).Nodup->
  (BP cs puts)[i]?=(cs[i]?).map λc=>match puts.find? λp=>decide (p.shape=(i:Int))with|some p=>Ih c p|none=>c
 | [],cs,i,_,_=>by
  show cs[i]?=_;simp
 | p::puts,cs,i,h0,hn=>by
  rw[List.map_cons,List.nodup_cons]at hn;show(BP (cs.modify p.shape.toNat λc=>{ c with turn:=⟨c.turn.flip,p.turn.quarter⟩,at_:=p.at_ }) puts)[i]?=_
  rw[Ud puts _ i (λq b=>h0 q (by simp[b])) hn.2,List.getElem?_modify,List.find?_cons];have f:=h0 p zP;by_cases e:p.shape=(i:Int)
  ·have hi:p.shape.toNat=i:=zO
   have a:(puts.find? λp=>decide (p.shape=(i:Int)))=none:=by
    rw[List.find?_eq_none];intro q b hd;rw[decide_eq_true_eq]at hd;exact hn.1 (by rw[e,<-hd];exact List.mem_map_of_mem b)
   rw[a,zu1 e]
   cases cs[i]? with
   | none=>rfl
   | some c=>simp[hi,Ih]
  have hi:¬p.shape.toNat=i:=zO;rw[zu0 e]
  cases cs[i]? with
  | none=>rfl
  | some c=>simp[hi]
theorem Wv(s:Al):(AP s).Pairwise λp q=>¬(p.use=q.use∧p.copy=q.copy):=by
 unfold AP;split
 ·exact List.Pairwise.nil
 rw[List.pairwise_flatMap];refine⟨λi _=>?_,?_⟩
 ·simp only;rw[List.pairwise_map];refine List.pairwise_lt_range.imp λ{a b} h e=>?_
  have j:(a:Int)=(b:Int):=e.2;omega
 refine List.pairwise_lt_range.imp λ{a b} h x f y g e=>?_
 obtain⟨k1,_,rfl⟩:=zr2.1 f;obtain⟨k2,_,rfl⟩:=zr2.1 g;have k:(a:Int)=(b:Int):=e.1;omega
theorem D5:BB p q=true↔p.garment=q.garment∧p.use=q.use∧p.copy=q.copy:=by
 simp[BB]
theorem Fq{x:List Ae×List Ac}(h:AI s sizes=.ok x) :
  (x.2.Pairwise λp q=>BB p q=false)∧x.1.length=x.2.length:=by
 unfold AI at h;split at h
 ·cases h
 split at h
 ·cases h
 split at h
 ·cases h
 split at h
 ·cases h
 simp only at h;split at h
 ·cases h
 rename_i l f;injection h with h
 subst h;refine⟨?_,?_⟩
 ·simp only;rw[List.pairwise_map,List.pairwise_flatMap];refine⟨λg _=>?_,?_⟩
  ·rw[List.pairwise_map];refine(Wv s).imp λ{a b} i=>?_
   rw[Bool.eq_false_iff];intro e;exact i (D5.1 e).2
  refine List.pairwise_lt_range.imp λ{a b} m x j y k=>?_
  obtain⟨p,_,rfl⟩:=zr2.1 j;obtain⟨q,_,rfl⟩:=zr2.1 k;rw[Bool.eq_false_iff];intro e;have n:(a:Int)=(b:Int):=(D5.1 e).1;omega
 have:=congrArg List.length (CE f);simpa using this.symm
theorem QW(h:cs.Pairwise λp q=>BB p q=false){a b:Ac}(m:cs[i]?=some a)(n:cs[j]?=some b)(g:BB a b=true):i=j:=by
 rw[List.pairwise_iff_getElem]at h;obtain⟨hi,rfl⟩:=zq1.1 m;obtain⟨k,rfl⟩:=zq1.1 n;rcases Nat.lt_trichotomy i j with f|e|f
 ·have:=h i j hi k f;rw[g]at this
  cases this
 ·exact e
 have l:=h j i k hi f
 have o:BB cs[j] cs[i]=true:=by
  obtain⟨e1,e2,e3⟩:=D5.1 g;exact D5.2 ⟨e1.symm,e2.symm,e3.symm⟩
 rw[o]at l
 cases l
theorem oS(h:cs.Pairwise λp q=>BB p q=false){c:Ac}(b:cs[i]?=some c)(e:BB c p=true):JW cs p=some i:=by
 have hi:i<cs.length:=(zq1.1 b).1
 cases hf:JW cs p with
 | none=>
  unfold JW at hf;rw[List.find?_eq_none]at hf;have:=hf i (by simp[hi]);rw[b]at this;exact absurd e this
 | some j=>
  unfold JW at hf;have a:=List.find?_some hf
  cases hj:cs[j]? with
  | none=>rw[hj]at a;cases a
  | some d=>
   rw[hj]at a
   have f:BB d c=true:=by
    obtain⟨a1,a2,a3⟩:=D5.1 (show BB d p=true from a);obtain⟨b1,b2,b3⟩:=D5.1 e;exact D5.2 ⟨a1.trans b1.symm,a2.trans b2.symm,a3.trans b3.symm⟩
   rw[QW h hj b f]
theorem PO{cs:List Ac}(h:cs.Pairwise λp q=>BB p q=false):∀(l:List Ac)(k:Nat),(∀(i:Nat)(p:Ac),l[i]?=some p->∃c,cs[k+i]?=some c∧BB c p=true)->JX cs l (List.range k)=.ok (List.range (k+l.length))
 | [],k,_=>by simp[JX]
 | p::l,k,hl=>by
  obtain⟨c,a,b⟩:=hl 0 p rfl;unfold JX;rw[oS h (i:=k) a b];simp only;rw[if_neg zP,<-List.range_succ,PO h l (k+1) λi q e=>?_]
  ·rw[zt5];congr 2;omega
  obtain⟨d,hd,f⟩:=hl (i+1) q (by simpa using e);exact⟨d,by rw[<-hd];congr 1;omega,f⟩
theorem fP{l:List Ac}(h:cs.Pairwise λp q=>BB p q=false)(a:∀(i:Nat)(p:Ac),l[i]?=some p->∃c,cs[i]?=some c∧BB c p=true):JX cs l []=.ok (List.range l.length):=by
 have:=PO h l 0 (by simpa using a);simpa using this
theorem Jj{x:List Ae×List Ac}(h:AI s sizes=.ok x):x.2.length<=60:=by
 unfold AI at h;split at h
 ·cases h
 split at h
 ·cases h
 split at h
 ·cases h
 split at h
 ·cases h
 rename_i b;simp only at h;split at h
 ·cases h
 injection h with h
 subst h;simp only[zq6,List.length_flatMap]
 have:∀(n:Nat)(l:List Nat),(l.map λ_=>n).sum=n*l.length:=by
  intro n l;induction l with
  | nil=>simp
  | cons a l ih=>simp[ih,Nat.mul_add,Nat.add_comm]
 rw[this,zq8];omega
theorem IV(g:(puts.map (·.shape)).Perm ((List.range cs.length).map λk:Nat=>(k:Int)))(h:(BP cs puts)[i]?=some q) :
  ∃c p,cs[i]?=some c∧p∈puts∧p.shape=(i:Int)∧q=Ih c p:=by
 have m:(puts.map (·.shape)).Nodup:=by
  rw[g.nodup_iff];show List.Pairwise _ _;rw[List.pairwise_map];exact List.pairwise_lt_range.imp λ{a b} h e=>by omega
 have n:∀p∈puts,0<=p.shape:=by
  intro p j;have:=g.subset (List.mem_map_of_mem (f:=(·.shape)) j);obtain⟨k,_,e⟩:=zr2.1 this;have e:(k:Int)=p.shape:=e;omega
 rw[Ud puts cs i n m]at h
 cases hc:cs[i]? with
 | none=>rw[hc]at h;cases h
 | some c=>
  rw[hc]at h;have hi:i<cs.length:=(zq1.1 hc).1;have o:(i:Int)∈puts.map (·.shape):=g.symm.subset (zr2.2 ⟨i,by simp[hi],rfl⟩);obtain⟨p0,l,e0⟩:=zr2.1 o
  cases hf:puts.find? λp=>decide (p.shape=(i:Int))with
  | none=>
   rw[List.find?_eq_none]at hf;exact absurd (zu1 e0) (hf p0 l)
  | some p=>
   have e1:=List.find?_some hf;have e1:p.shape=(i:Int):=of_decide_eq_true e1;rw[zt6,hf]at h;injection h with h
   exact⟨c,p,rfl,List.mem_of_find?_eq_some hf,e1,h.symm⟩
theorem Lh(h:BE s b sizes=.ok m):∃x puts puts',AI s sizes=.ok x∧Ch b x.1 (Gk x.1) []=.ok puts∧IR s m=.ok (x.1,puts')∧(∀p∈puts',p∈puts)∧puts'.length=x.2.length∧∀(i:Nat)(p:Am),puts'[i]?=some p->p.shape=(i:Int):=by
 unfold BE at h
 cases hx:AI s sizes with
 | error e=>rw[hx]at h;cases h
 | ok x=>
  rw[hx]at h;simp only at h
  cases hr:Ch b x.1 (Gk x.1) []with
  | error e=>rw[hr]at h;cases h
  | ok puts=>
   rw[hr]at h;simp only at h
   cases hL:De x.1 puts with
   | error e=>rw[hL]at h;cases h
   | ok L=>
    rw[hL]at h;injection h with h
    subst h;obtain⟨K,C⟩:=Fq hx;have G:=Jj hx;obtain⟨more,e1,e2,e3⟩:=JV hr;rw[List.nil_append]at e1;subst e1;have z:=OW hr zP
    have n:(puts.map (·.shape)).Perm ((List.range x.2.length).map λk:Nat=>(k:Int)):=by
     rw[e2,<-C];exact(Fp x.1).map _
    have H:(BP x.2 puts).length=x.2.length:=LX puts x.2
    have D:JX x.2 (BP x.2 puts) []=.ok (List.range (BP x.2 puts).length):=by
     refine fP K λi q B=>?_
     obtain⟨c,p,t,_,_,rfl⟩:=IV n B;exact⟨c,t,by simp[BB,Ih]⟩
    have l:∀i:Nat,i<x.2.length->(List.range x.2.length).getD i 0=i:=by
     intro i hi;simp[List.getD,hi]
    have o:∀i:Nat,i<x.2.length->∃p∈puts,p.shape=(i:Int)∧Ho i ((BP x.2 puts).getD i ⟨0,0,0,⟨false,0⟩,(0,0)⟩)=p:=by
     intro i hi;have v:(BP x.2 puts)[i]?=some (BP x.2 puts)[i]:=zq0 zO;obtain⟨c,p,t,g,r,e⟩:=IV n v;refine⟨p,g,r,?_⟩;rw[zq3,v,e];have I:=z p g;obtain⟨sh,⟨f,qq⟩,a⟩:=p;simp only at I r;subst I;subst r;rfl
    refine⟨x,puts,(List.range x.2.length).map λi=>Ho ((List.range x.2.length).getD i 0) ((BP x.2 puts).getD i ⟨0,0,0,⟨false,0⟩,(0,0)⟩),rfl,hr,?_,?_,by simp,?_⟩
    ·unfold IR;simp only[hx,D,H];rw[if_neg zP,if_neg ?_,if_neg ?_]
     ·intro J;refine J (eE (puts:=puts) (λi p g=>by have:=e3 i p g;rwa[List.nil_append]at this) hL (by simpa using G) ?_ ?_)
      ·intro p g;obtain⟨i,hi,rfl⟩:=zr2.1 g;rw[zt8]at hi;obtain⟨p',w,_,e⟩:=o i hi;rw[l i hi,e];exact w
      intro i j p q M g B e;rw[zr5,Option.map_eq_some_iff]at g B;obtain⟨a,E,rfl⟩:=g;obtain⟨c,t,y⟩:=B;obtain⟨hi,rfl⟩:=zq1.1 E;obtain⟨F,rfl⟩:=zq1.1 t;rw[zq8]at hi F;simp only[List.getElem_range,l i hi,l j F]at y e;obtain⟨p1,_,s1,f1⟩:=o i hi;obtain⟨p2,_,s2,f2⟩:=o j F;rw[f1]at e;rw[f2]at y;subst e;subst y;omega
     simp only[Bool.not_eq_true];rw[List.any_eq_false];intro i hi hd;rw[zt8]at hi;have v:(BP x.2 puts)[i]?=some (BP x.2 puts)[i]:=zq0 zO;obtain⟨c,p,t,g,r,e⟩:=IV n v;rw[l i hi,v,t,e]at hd;simp[Ih]at hd
    ·intro p g;obtain⟨i,hi,rfl⟩:=zr2.1 g;rw[zt8]at hi;obtain⟨p',w,_,e⟩:=o i hi;rw[l i hi,e];exact w
    intro i p g;rw[zr5,Option.map_eq_some_iff]at g;obtain⟨a,E,rfl⟩:=g;obtain⟨hi,rfl⟩:=zq1.1 E;rw[zq8]at hi;show((((List.range x.2.length).getD ((List.range x.2.length)[i]) 0:Nat)):Int)=(i:Int);rw[List.getElem_range,l i hi]
theorem Ue{α : Type}:∀{l:List (Except Int α)},(∀e∈l,∃x,e=.ok x)->∃r,AE l=.ok r
 | [],_=>⟨[],rfl⟩
 | e::l,h=>by
  obtain⟨x,rfl⟩:=h e zP;obtain⟨r,a⟩:=Ue (l:=l) λe b=>h e (by simp[b])
  exact⟨x::r,by simp[AE,a]⟩
theorem FK(h:BE s b sizes=.ok m):∃x,AI s sizes=.ok x∧m.places.length=x.2.length∧m.sizes=sizes:=by
 unfold BE at h;split at h
 ·cases h
 rename_i x a;split at h
 ·cases h
 split at h
 ·cases h
 injection h with h
 subst h;exact⟨x,a,LX _ _,rfl⟩
theorem Ww(h:BE s b sizes=.ok m):∃l,MV s m=.ok l∧l.length=m.places.length∧∀(i j:Nat)(a c:lP),i≠j->l[i]?=some a->l[j]?=some c->BJ a c=.ok false:=by
 obtain⟨x,puts,puts',F,G,H,g,I,n⟩:=Lh h;obtain⟨x',y,R,_⟩:=FK h;obtain rfl:x=x':=by rw[F]at y;injection y
 obtain⟨more,e1,_,e3⟩:=JV G;rw[List.nil_append]at e1;subst e1
 obtain⟨r,o⟩:=Ue (l:=puts'.map (Af x.1)) λe J=>by
  obtain⟨p,f,rfl⟩:=zr2.1 J;obtain⟨k,K⟩:=List.getElem?_of_mem (g p f);obtain⟨c,L,_⟩:=ET.1 (e3 k p K);exact⟨c,L.put⟩
 refine⟨r,?_,?_,?_⟩
 ·unfold MV;rw[H];exact o
 ·have:=congrArg List.length (CE o);simp only[zq6]at this;omega
 intro i j a c P hi M;have B:=CE o
 have get:∀(i:Nat)(a:lP),r[i]?=some a->∃p∈puts,p.shape=(i:Int)∧Af x.1 p=.ok a:=by
  intro i a hi;have:=congrArg (λl=>l[i]?) B;simp only[zr5,hi,zt6,Option.map_eq_some_iff]at this;obtain⟨p,f,e⟩:=this;exact⟨p,g p (zq2 f),n i p f,e⟩
 obtain⟨p,f,S,C⟩:=get i a hi;obtain⟨q,N,Q,D⟩:=get j c M;obtain⟨k1,z⟩:=List.getElem?_of_mem f;obtain⟨k2,t⟩:=List.getElem?_of_mem N
 have E:k1≠k2:=by
  intro e;subst e;rw[z]at t;injection t with e
  subst e;omega
 obtain⟨a',c',v,w,O⟩:=Xx (b:=b) (ss:=x.1) (λi p f=>by have:=e3 i p f;rwa[List.nil_append]at this) E z t;rw[C]at v;rw[D]at w;injection v with v
 injection w with w
 subst v;subst w;exact O
end Go.Proofs.YteafekbddckemaaGreatDoor
