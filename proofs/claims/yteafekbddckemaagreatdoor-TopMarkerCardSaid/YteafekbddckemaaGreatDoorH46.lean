/- Parts of the proof. -/
import Derived.Test.YteafekbddckemaaGreatDoorH45
set_option maxRecDepth 100000
set_option maxHeartbeats 40000000
namespace Go.Proofs.YteafekbddckemaaGreatDoor
open Go.Proofs.Tryz Go.RowKit
open Go.Lib hiding intOf
variable{P0 R:Prop}{W w:World}{a0 a1 a10 a11 a2 a3 a4 a5 a6 a7 a8 a9:Value}{b:AG}{c p q:Ac}{cs ps:List Ac}{g g1 i j k:Nat}{l:List PL}{m mk:Au}{puts:List Am}{s:Al}{sizes zs:List Int}{ss:List Ae}{t:TypeId}
def ED(p:Ac):Int×Int×Int:=(p.garment,p.use,p.copy)
theorem Ph:BB p q=true↔ED p=ED q:=by
 rw[D5];simp[ED]
def FB:List Ac->Nat->List ((Int×Int×Int)×Value)
 | [],_=>[]
 | c::l,i=>(ED c,zi (i:Int))::FB l (i+1)
theorem QF(c:Ac):∀(l:List Ac)(i:Nat),FB (l++[c]) i=FB l i++[(ED c,zi ((i+l.length:Nat):Int))]
 | [],i=>rfl
 | a::l,i=>by
  show(ED a,zi (i:Int))::FB (l++[c]) (i+1)=_;rw[QF c l (i+1),zt5,show i+1+l.length=i+(l.length+1)by omega];rfl
theorem QG{k:Int×Int×Int}:∀{l:List Ac}(_:∀a∈l,ED a≠k)(i j:Nat),Bi (FB l i) k j=none
 | [],_,_,_=>rfl
 | a::l,h,i,j=>by
  show Bi ((ED a,zi (i:Int))::FB l (i+1)) k j=none;rw[Bi,if_neg (h a zP)];exact QG (l:=l) (λb e=>h b (by simp[e])) _ _
theorem QH{c:Ac}:∀{l:List Ac}{n:Nat}(_:l.Pairwise λp q=>BB p q=false)(_:l[n]?=some c)(i j:Nat),Bi (FB l i) (ED c) j=some (j+n,zi ((i+n:Nat):Int))
 | [],n,_,h,_,_=>by cases h
 | a::l,0,_,h,i,j=>by
  injection h with h
  subst h;show Bi ((ED a,zi (i:Int))::FB l (i+1)) (ED a) j=_;rw[Bi,if_pos rfl];rfl
 | a::l,n+1,hp,h,i,j=>by
  rw[List.pairwise_cons]at hp;have b:l[n]?=some c:=h
  have f:ED a≠ED c:=λe=>by
   have:=hp.1 c (zq2 b);rw[Ph.2 e]at this
   cases this
  show Bi ((ED a,zi (i:Int))::FB l (i+1)) (ED c) j=_;rw[Bi,if_neg f,QH hp.2 b (i+1) (j+1),show j+1+n=j+(n+1)by omega,show i+1+n=i+(n+1)by omega]
theorem lL(f:cs.Pairwise λp q=>BB p q=false)(b:cs[k]?=some c):Ec (FB (cs.take k) 0) (ED c) (zi (k:Int))=FB (cs.take (k+1)) 0:=by
 have l:k<cs.length:=(zq1.1 b).1
 have g:∀a∈cs.take k,ED a≠ED c:=λa j e=>by
  obtain⟨i,hi⟩:=List.getElem?_of_mem j;rw[zr8]at hi;split at hi
  ·have:=QW f hi b (Ph.2 e);omega
  cases hi
 unfold Ec;rw[QG g];simp only;rw[show cs.take (k+1)=cs.take k++[c]by rw[List.take_add_one,b];rfl,QF,zq7,Nat.zero_add,zt0 zO]
theorem lM(a:cs.Pairwise λp q=>BB p q=false)(b:cs[k]?=some c)(e:BB c p=true):Cz (FB cs 0) (ED p)=some (zi (k:Int)):=by
 unfold Cz;rw[<-Ph.1 e,QH a b 0 0,zt6,Nat.zero_add]
def Dk(ps:List Ac)(j:Nat):List Am:=(List.range j).map λi=>Ho i (ps.getD i ⟨0,0,0,⟨false,0⟩,(0,0)⟩)
theorem Ic(ps:List Ac)(j:Nat):(Dk ps j).length=j:=by simp[Dk]
theorem Xh(h:ps[j]?=some p):Dk ps (j+1)=Dk ps j++[Ho j p]:=by
 unfold Dk;rw[List.range_succ,zr0,List.map_cons,List.map_nil,zq3,h];rfl
theorem QI(h:ps[i]?=some p)(hi:i<j):(Dk ps j)[i]?=some (Ho i p):=by
 unfold Dk;rw[zr5,zt4 hi,zt6,zq3,h];rfl
structure bX(s:Al)(m:Au)(ss:List Ae)(cs:List Ac):Prop where
 shp:AI s m.sizes=.ok (ss,cs)
 len:m.places.length=cs.length
 low:cs.length<=60
 same_len:ss.length=cs.length
 keys:cs.Pairwise λp q=>BB p q=false
 same:∀(i:Nat)(c p:Ac),cs[i]?=some c->m.places[i]?=some p->BB c p=true∧c.turn.flip=p.turn.flip
 ok:Ce ⟨m.length,m.width,m.repeat_.1,m.repeat_.2⟩ ss (Dk m.places m.places.length)=0
 q4:∀p∈Dk m.places m.places.length,Q4 p.turn
 pol:MV s m=AE ((Dk m.places m.places.length).map (Af ss))
theorem lN(h:BE s b sizes=.ok m):∃ss cs,bX s m ss cs:=by
 obtain⟨x,puts,puts',e,z,t,r,B,v⟩:=Lh h;obtain⟨x2,k,w,l⟩:=FK h;obtain rfl:x=x2:=by rw[e]at k;injection k
 obtain⟨x3,puts3,n,_,C⟩:=GI h;obtain rfl:x=x3:=by rw[e]at n;injection n
 have D:=IC z zP
 have E:puts'=Dk m.places m.places.length∧Ce ⟨m.length,m.width,m.repeat_.1,m.repeat_.2⟩ x.1 puts'=0:=by
  have a:=t;unfold IR at a;rw[l,e]at a;simp only at a;split at a
  ·cases a
  rename_i seen H;split at a
  ·cases a
  split at a
  ·cases a
  split at a
  ·cases a
  rename_i f;injection a with a
  injection a with _ a
  have f:=Classical.not_not.1 f;rw[a]at f;refine⟨?_,f⟩;rw[<-a];unfold Dk;refine List.map_congr_left λi hi=>?_
  rw[zt8]at hi;have F:=v i (Ho (seen.getD i 0) (m.places.getD i ⟨0,0,0,⟨false,0⟩,(0,0)⟩)) (by rw[<-a,zr5,zt4 hi];rfl);have I:((seen.getD i 0:Nat):Int)=(i:Int):=F;rw[show seen.getD i 0=i by omega]
 obtain⟨g,y⟩:=E;refine⟨x.1,x.2,by rw[l];exact e,w,Jj e,(Fq e).2,(Fq e).1,λi c p G j=>?_,by rw[<-g];exact y,λp j=>?_,?_⟩
 ·obtain⟨c2,q,o,_,_,rfl⟩:=C i p j;obtain rfl:c=c2:=by rw[G]at o;exact zs6 o
  exact⟨by simp[BB,Ih],rfl⟩
 ·rw[<-g]at j;have:=D p (r p j);unfold Q4;omega
 unfold MV;rw[t];simp only;rw[g]
def ckV(k:Int×Int×Int):Value:=.agg #[zi k.1,zi k.2.1,zi k.2.2]
theorem sB(d:Nat)(x y:Int×Int×Int)(w:World):(Op.equalIn (d+2) 125 (ckV x) (ckV y)).run prog w=.ok (decide (x=y)) w:=by
 have ui:=underlying3;have ai:=isAgg3;have zi:=sizeOf3;have e:prog.underlying 125=some (.struct (prog.fieldsOf 125)):=zk;have f:prog.stoodInHeld 125=false:=zk;simp only[ckV];rw[show d+2=(d+1)+1 from rfl,run_equalIn_agg w (d+1) _ _ _ e f];simp only[Program.fieldsOf,underlying125];go_simp
 obtain⟨a,b,c⟩:=x;obtain⟨a',b',c'⟩:=y;by_cases i:a=a' <;> by_cases j:b=b' <;> by_cases l:c=c' <;> simp[i,j,l]
theorem sC(e:Bool)(d:Nat)(x:Int×Int×Int)(w:World):(Instr.checkKey e (d+2) 125 (ckV x)).run prog w=.ok () w:=by
 have ui:=underlying3;have ai:=isAgg3;have zi:=sizeOf3;have uK:=underlying125;have c1:=λy=>G7 ui e d y w
 simp only[ckV];rw[show d+2=(d+1)+1 from rfl,Instr.checkKey];go_simp
theorem VY:I5 prog 125 ckV:=by
 refine I5.of_equal underlying125 (λa b w=>sB 9998 a b w) (λe a w=>sC e 9998 a w) (λa=>?_);unfold Instr.sameBits;simp[ckV,OR]
theorem yX(h:Blk w g t #[a0,a1,a2,a3]):zL w g 0 a0∧zL w g 1 a1∧zL w g 2 a2∧zL w g 3 a3:=⟨h.c rfl,h.c rfl,h.c rfl,h.c rfl⟩
theorem bY:(prog.info? 4).map (λi=>(i.zero,i.size,i.bytes))=some (some (zF),1,1):=zk
theorem bZ(n:Nat)(a:n<=1000000)(W:World):(Instr.makeSlice 127 (zi (n:Int)) (zi (n:Int))).run prog W=.ok (.slice (sa W.heap.size 0) n n) (zw W (madeCells #[zF] n) 4):=
 run_make_row' (P:=prog) 127 4 (zF) 1 underlying127 bY rfl .i64 .i64 n zO zO W
def DV(w:World)(g n k:Nat):Prop:=∃cs:Array Value,Blk w g 4 cs∧cs.size=n∧∀i,i<n->cs[i]?=some (.bool (decide (i<k)))
theorem cA(W:World)(n:Nat):DV (zw W (madeCells #[zF] n) 4) W.heap.size n 0:=by
 refine⟨_,Blk.new _ _ _,by simp[madeCells],λi hi=>?_⟩;unfold madeCells;rw[Array.getElem?_map,Array.getElem?_eq_getElem (by simpa using hi)];simp[Nat.mod_one]
section
variable{w w':World}{g n k:Nat}
theorem DV.step(h:DV w g n k)(_hk:k<n):DV (w.setCell (ad g k) (zY)) g n (k+1):=by
 obtain⟨cs,a,b,f⟩:=h;refine⟨cs.setIfInBounds k (zY),a.set_ _ _,by simp[b],λi hi=>?_⟩;rw[zs9];split
 ·rename_i e;rw[if_pos zO,zu1 zO]
 rw[f i hi];congr 2;simp only[decide_eq_decide];omega
theorem DV.cell(h:DV w g n k)(hi:i<n):w.cell? (ad g i)=some (.bool (decide (i<k))):=by
 obtain⟨cs,a,e,b⟩:=h;exact a.c (b i hi)
theorem DV.fz(h:DV w g n k)(i:Nat):w.frozen? (ad g i)=false:=by
 obtain⟨cs,a,b,e⟩:=h;exact a.frozen _
theorem DV.lt(h:DV w g n k):g<w.heap.size:=by
 obtain⟨cs,a,b,e⟩:=h;exact a.lt
theorem DV.below(h:DV w g n k)(a:Bw w w'):DV w' g n k:=by
 obtain⟨cs,b,e⟩:=h;exact⟨cs,b.below a,e⟩
theorem DV.grown{r:Option Nat}(h:DV w g n k)(a:w.grownBy w' r)(b:some g≠r):DV w' g n k:=by
 obtain⟨cs,e,f⟩:=h;exact⟨cs,e.grown a b,f⟩
end
theorem cB(g n c:Nat)(w:World)(h:DV w g n n)(f:n<=1000000) :
  CP 79 #[.slice (sa g 0) n c,zF] w (zR (zi (-1)) w):=by
 have H:=zH h;clear h;go_enter func79,ntmps79;go_wp2
 go_loopw[8] (λi wr=>∃k:Nat,k<=n∧i=zi (k:Int)∧Hid (Bw w wr)) (λi _=>n-(intOf i).toNat)
 case atStart=>exact⟨0,zs3 _,rfl,zH zJ⟩
 case round=>
  obtain⟨k,j,rfl,a⟩:=hrel;by_cases b:k<n
  ·have c0:=(H.o.below a.o).cell b;have f0:=(H.o.below a.o).lt;rw[zu1 b]at c0;obtain⟨i1,i2⟩:=zI (k:=k) (n:=n) (by omega)
   go_wp2_with fail
   go_roundw
   case rel=>exact⟨k+1,by omega,by go_num,a⟩
   case measure=>exact zM
  obtain rfl:n=k:=zO
  go_wp2_with fail
  go_ret;exact⟨rfl,a.o⟩
theorem Tg(g n c:Nat)(w:World)(h:DV w g n n)(b:n<=1000000) :
  CP 49 #[.slice (sa g 0) n c,zF] w (zR (zF) w):=by
 have H:=zH (cB g n c w h b);clear h;go_enter func49,ntmps49;go_wp2_with(go_at_call 79;go_must((refine H.o.mono ?_);rintro e w' ⟨rfl,a⟩;have f:=zH a;clear a))
 go_ret;exact⟨rfl,f.o⟩
def AaG(ss:List Ae)(puts:List Am)(w:World)(e:Ending)(w':World):Prop:=Bw w w'∧∃A c B d,e=.returned (.tuple #[.slice A ss.length c,.slice B puts.length d,zi 0])∧Ab 5 D6 w' A ss.length ss∧ss.length<=c∧Ab 5 Hs w' B puts.length puts∧puts.length<=d
theorem lO(w:World):(zeroValue 3).run prog w=.ok (zi 0) w:=zk
theorem NC(s:Al)(Z:oA)(z zc:Nat)(M:oA)(m mc:Nat)(P:oA)(p pc:Nat)(U:oA)(u uc:Nat)(E:oA)(e ec:Nat)(O:oA)(o oc:Nat)(mk:Au)(ss:List Ae)(cs:List Ac)(Sa:oA)(n sc:Nat)(Qa:oA)(k qd:Nat)(w:World)(h:Co w s Z z zc M m mc P p pc U u uc E e ec O o oc)(hs:Dj s)(hS:Sl w w.heap.size Sa n (Ar mk.sizes))(hP:Ab 7 Dy w Qa k mk.places)(R:bX s mk ss cs) :
  CP 31 #[.agg #[.string s.name,.slice Z z zc,.slice M m mc,.slice P p pc,.slice U u uc,.slice E e ec,.slice O o oc],.agg #[zi mk.length,zi mk.width,zi mk.repeat_.1,zi mk.repeat_.2,.slice Sa n sc,.slice Qa k qd]] w (AaG ss (Dk mk.places mk.places.length) w):=by
 have bf:n<=9223372036854775807:=by
  have:=(Kv R.shp).1;have:=hS.ilen;omega
 have hB:Bw w ((w.alloc (.cells #[.string s.name,.slice Z z zc,.slice M m mc,.slice P p pc,.slice U u uc,.slice E e ec,.slice O o oc] 29)).alloc (.cells #[zi mk.length,zi mk.width,zi mk.repeat_.1,zi mk.repeat_.2,.slice Sa n sc,.slice Qa k qd] 40)):=I8 _ _ _;have Q:=QE s Z z zc M m mc P p pc U u uc E e ec O o oc Sa n sc mk.sizes ((w.alloc (.cells #[.string s.name,.slice Z z zc,.slice M m mc,.slice P p pc,.slice U u uc,.slice E e ec,.slice O o oc] 29)).alloc (.cells #[zi mk.length,zi mk.width,zi mk.repeat_.1,zi mk.repeat_.2,.slice Sa n sc,.slice Qa k qd] 40)) (h.on hB) hs (hS.on hB) bf;rw[R.shp]at Q;have X0:=(Blk.new w 29 #[.string s.name,.slice Z z zc,.slice M m mc,.slice P p pc,.slice U u uc,.slice E e ec,.slice O o oc]).alloc (.cells #[zi mk.length,zi mk.width,zi mk.repeat_.1,zi mk.repeat_.2,.slice Sa n sc,.slice Qa k qd] 40);have X1:=Blk.new' (w.alloc (.cells #[.string s.name,.slice Z z zc,.slice M m mc,.slice P p pc,.slice U u uc,.slice E e ec,.slice O o oc] 29)) 40 #[zi mk.length,zi mk.width,zi mk.repeat_.1,zi mk.repeat_.2,.slice Sa n sc,.slice Qa k qd] (g:=w.heap.size+1) zP;obtain⟨x0,x1,x2,x3,x4,x5,x6⟩:=AS X0;obtain⟨y0,y1,y2,y3,y4,y5⟩:=B9 X1;have T:mk.places.length=k:=hP.len;have C:cs.length=k:=by rw[<-R.len,T]
 have c9:k<=60:=by rw[<-C];exact R.low
 have V:=zH T;have F:=zH C;have J:=zH R;have Q:=zH Q;have HB:=zH hB;have bg:=zH X1;have HP:=zH hP;have bh:=@run_makeMap prog;clear hB X0 X1 h hs hS hP R T C;go_enter func31,ntmps31;go_wp2_with(go_at_call 16;go_must((refine Q.o.mono ?_);rintro e1 w1 ⟨X,A1,c1,B1,d1,rfl,al,am,an⟩;have ao:=zH (zT HB.o X);have Y:=zH (bg.o.below X);have ap:=zH al;have bi:=zH am;have aq:=zH (Ox an rfl).1;clear X al am an))
 have C:=F.o;rw[C];clear C x0 x1 x2 x3 x4 x5 x6 y0 y1 y2 y3 y4 y5 bh
 go_loopw[11,12,37,38,39,40,41,42,43,44,45,46] (λ_ _ i _ _ _ _ _ _ _ _ _ wr=>∃j:Nat,j<=k∧i=zi (j:Int)∧Hid (Bv ckV wr w1.heap.size (FB (cs.take j) 0))∧Hid (Bw w1 wr)) (λ_ _ i _ _ _ _ _ _ _ _ _ _=>k-(intOf i).toNat)
 case atStart=>exact⟨0,zs3 _,rfl,zH (Bv.made ckV w1),zH (zA _)⟩
 case round=>
  obtain⟨j,hj,rfl,HM,G⟩:=hrel;by_cases b:j<k
  ·obtain⟨b7,a0,p,rfl,a1,B,d0,d1,d2,d3,d4,d5,d6⟩:=EB (aq.o.on Ba G.o) (k:=j) (by rw[F.o];exact b);have bj:=zH (lL J.o.keys B);obtain⟨i1,i2⟩:=zI (k:=j) (n:=k) (by omega);have uM:=underlying123;have X5:=Blk.new wr 58 #[zi p.garment,zi p.use,zi p.copy,.bool p.turn.flip,zi p.turn.quarter,zi p.at_.1,zi p.at_.2];obtain⟨f0,f1,f2,f3,f4,f5,f6⟩:=Db X5;have bk:=zH (HM.o.below (zA (.cells #[zi p.garment,zi p.use,zi p.copy,.bool p.turn.flip,zi p.turn.quarter,zi p.at_.1,zi p.at_.2] 58)));have t:=zH (Below.alo G.o (.cells #[zi p.garment,zi p.use,zi p.copy,.bool p.turn.flip,zi p.turn.quarter,zi p.at_.1,zi p.at_.2] 58));clear B X5
   go_wp2_with(first
    | (go_at_call 48;go_must((refine(Vs p _).mono ?_);rintro e5 w5 ⟨rfl,y⟩;have a2:=zH (bk.o.below y);have ar:=zH (zT t.o y);clear y))
    | (at_mapUpdate;refine IH (by rfl) _ _ _ _ (by rfl) VY uM (by rfl) a2.o (ED p) (by rfl) (zi (j:Int)) (by rfl) ?_;intro w6 a3 au;rw[bj.o]at a3;have bl:=zH a3;have bm:=zH (Ax ar.o au ar.o.size (λg e=>by injection e with e;omega));clear a3 au))
   go_roundw
   case rel=>exact⟨j+1,by omega,by go_num,bl,bm⟩
   case measure=>exact zM
  obtain rfl:k=j:=zO;have bn:=zH (show Bv ckV wr w1.heap.size (FB cs 0)by have:=HM.o;rwa[zq4 (by rw[F.o];exact zs2 _)]at this);clear HM;obtain⟨wo,rfl⟩:=zE wr;have bo:=λW=>bZ k zO W
  have k0:(0:Int)<=(k:Int):=zO;obtain⟨y0,y1,y2,y3,y4,y5⟩:=B9 ((Y.o.below G.o).alloc (.cells (madeCells #[zF] k) 4))
  go_wp2_with fail
  go_loopw[14,16,17,18,53,54,55,56,57,58,59,60,61,62,63,64,65,66,67,68,69,70,71,72,73,74,75,76,77,78,79,80,81,82,83,84] (λv _ _ _ i _ _ _ _ _ _ _ _ _ _ _ _ _ _ _ _ _ _ _ _ _ _ _ _ _ _ _ _ _ _ _ wr=>∃(j:Nat)(PA:oA)(pd:Nat),j<=k∧i=zi (j:Int)∧v=.slice PA j pd∧Hid (wr.ownsRow (wo.heap.size+1) 87 5 (.slice PA j pd) j ((Dk mk.places j).flatMap GK))∧Hid (DV wr wo.heap.size k j)∧Hid (Bw wo wr)) (λv _ _ _ i _ _ _ _ _ _ _ _ _ _ _ _ _ _ _ _ _ _ _ _ _ _ _ _ _ _ _ _ _ _ _ _=>k-(intOf i).toNat)
  case atStart=>exact⟨0,none,0,zs3 _,rfl,rfl,zH (World.ownsRow_nil _ _ _ _),zH (cA wo k),zH (zA _)⟩
  case round=>
   obtain⟨j,PA,pd,hj,rfl,rfl,a4,a5,H⟩:=hrel;have a6:=zH (zT G.o H.o);have a7:=zH (zT ao.o a6.o);by_cases b:j<k
   ·obtain⟨b7,a0,p,rfl,a1,B,d0,d1,d2,d3,d4,d5,d6⟩:=EB (HP.o.on Ba a7.o) b;obtain⟨c,S⟩:∃c,cs[j]?=some c:=⟨_,zq0 (by rw[F.o];exact b)⟩;have HG:=zH (lM J.o.keys S (J.o.same j c p S B).1);have bp:=zH (Xh B);obtain⟨i1,i2⟩:=zI (k:=j) (n:=k) (by omega);have uM:=underlying123;have X5:=Blk.new wr 58 #[zi p.garment,zi p.use,zi p.copy,.bool p.turn.flip,zi p.turn.quarter,zi p.at_.1,zi p.at_.2];obtain⟨f0,f1,f2,f3,f4,f5,f6⟩:=Db X5;have a:Bw wr (wr.alloc (.cells #[zi p.garment,zi p.use,zi p.copy,.bool p.turn.flip,zi p.turn.quarter,zi p.at_.1,zi p.at_.2] 58)):=zA _;have bq:=zH X5;have t:=zH a;clear B S X5 a
    go_wp2_with(first
     | (go_at_call 48;go_must((refine(Vs p _).mono ?_);rintro e5 w5 ⟨rfl,y⟩;have I:=zT t.o y;have a2:=zH (bn.o.below (zT H.o I));have r:=a5.o.below I;have c0:=r.cell b;rw[zu0 (Nat.lt_irrefl j)]at c0;have z0:=r.fz j;have l0:=r.lt;obtain⟨bcs,av,_⟩:=id r;have X6:=bq.o.below y;have aw:wr.heap.size≠wo.heap.size:=λe=>(zV a5.o.lt);have X7:Blk (w5.setCell (ad wo.heap.size j) (zY)) wr.heap.size 58 #[zi p.garment,zi p.use,zi p.copy,.bool p.turn.flip,zi p.turn.quarter,zi p.at_.1,zi p.at_.2]:=X6.far (p:=ad wo.heap.size j) aw _;obtain⟨q0,q1,q2,q3,q4,q5,q6⟩:=Db X7;have a8:=Ah a4.o I;have a9:=Fb a8 av zD;have ax:=a8.kept (Bf w5 ⟨wo.heap.size,j,none⟩ (zY)) (.inr a9);have ay:=zH (Ah ax (zA (.cells #[zi (j:Int),zF,zi p.turn.quarter,zi p.at_.1,zi p.at_.2] 87)));have br:=zH (EV (cs:=GK (Ho j p)) (show Blk ((w5.setCell (ad wo.heap.size j) (zY)).alloc (.cells #[zi (j:Int),zF,zi p.turn.quarter,zi p.at_.1,zi p.at_.2] 87)) w5.heap.size 87 (GK (Ho j p)).toArray from Blk.new' (w5.setCell (ad wo.heap.size j) (zY)) 87 #[zi (j:Int),zF,zi p.turn.quarter,zi p.at_.1,zi p.at_.2] (g:=w5.heap.size) zP));have ba:=zH ((r.step b).below (zA (.cells #[zi (j:Int),zF,zi p.turn.quarter,zi p.at_.1,zi p.at_.2] 87)));have bt:=zH (show some wo.heap.size≠(Value.slice PA j pd).ownBlock from λe=>a9 e.symm);have az:=zH (Below.alo ((zT H.o I).setCell (p:=ad wo.heap.size j) (zs2 _) (zY)) (.cells #[zi (j:Int),zF,zi p.turn.quarter,zi p.at_.1,zi p.at_.2] 87));have bu:Hid (wo.heap.size+1<=_):=zH (zs0 l0 (show w5.heap.size<=((w5.setCell (ad wo.heap.size j) (zY)).alloc (.cells #[zi (j:Int),zF,zi p.turn.quarter,zi p.at_.1,zi p.at_.2] 87)).heap.size by simp));clear y I r av X6 X7 a8 a9 ax aw))
     | (at_lookup;refine WS (by rfl) _ _ _ _ (by rfl) VY uM (lO _) (by rfl) a2.o (ED p) (by rfl) ?_;rw[HG.o];dsimp only[Option.getD,Option.isSome])
     | (at_builtin;refine Bt (P:=prog) (by rfl) _ _ 81 (by rfl) (wo.heap.size+1) 87 (.agg #[zi 0,zF,zi 0,zi 0,zi 0]) 5 40 underlying81 Vh rfl zD (.slice PA j pd) j ((Dk mk.places j).flatMap GK) (by rfl) ay.o ⟨w5.heap.size,0,none⟩ 1 1 (GK (Ho j p)) (by rfl) (by rfl) br.o (Vg _) zU zO bu.o ?_;intro v7 w7 aa ab bv;obtain⟨A7,c7,bw⟩:=AX aa;subst bw;have bx:=zH aa;have bb:=zH (ba.o.grown ab bt.o);have bz:=zH (Ax az.o ab az.o.size (λg e=>by have:=(ay.o.lt g e).1;omega));clear aa ab bv))
    go_roundw
    case rel=>exact⟨j+1,A7,c7,by omega,by go_num,by simp,zH (by rw[bp.o,zr7];simpa using bx.o),bb,bz⟩
    case measure=>exact zM
   obtain rfl:k=j:=zO;obtain⟨w4,rfl⟩:=zE wr;have c2:=zH (Tg wo.heap.size k k w4 a5.o zO);clear y0 y1 y2 y3 y4 y5 bo;go_wp2_with(go_at_call 49;go_must((refine c2.o.mono ?_);rintro e8 w8 ⟨rfl,f⟩;have b4:=zH (zT a7.o f);have K:=zT a6.o f;have L:=zH (Y.o.below K);have ac:=zH K;obtain⟨y0,y1,y2,y3,y4,y5⟩:=B9 L.o;have N:=zH (Pc (Ah a4.o f) (Ic mk.places k));have ae:=zH (Rk (Ah a4.o f));clear f K))
   go_loopw[19,20,90,91,92,93,94,95,96,97,98,99,100,101,102,103,104,105,106,107,108,109] (λ_ _ i _ _ _ _ _ _ _ _ _ _ _ _ _ _ _ _ _ _ _ wr=>∃j:Nat,j<=k∧i=zi (j:Int)∧Hid (Bw w8 wr)) (λ_ _ i _ _ _ _ _ _ _ _ _ _ _ _ _ _ _ _ _ _ _ _=>k-(intOf i).toNat)
   case atStart=>exact⟨0,zs3 _,rfl,zH zJ⟩
   case round=>
    obtain⟨j,hj,rfl,l⟩:=hrel;have af:=zH (zT b4.o l.o);have D:=zH (zT ac.o l.o);by_cases b:j<k
    ·obtain⟨b7,a0,p,rfl,a1,B,d0,d1,d2,d3,d4,d5,d6⟩:=EB (HP.o.on Ba af.o) b;obtain⟨b8,bc,c,rfl,f,S,_,_,_,g3,_,_,_⟩:=EB (aq.o.on Ba D.o) (k:=j) (by rw[F.o];exact b);obtain⟨b9,ag,q,rfl,x,hq,h0,_,_,_,_⟩:=Ik (N.o.on D7 l.o) (k:=j) (by exact b);have ah:=QI (j:=k) B b;rw[hq]at ah;obtain rfl:=zs6 ah;replace h0:wr.cell? (ad b9 (ag+j*5))=some (zi (j:Int)):=h0;rw[(J.o.same j c p S B).2]at g3;obtain⟨i1,i2⟩:=zI (k:=j) (n:=k) (by omega);have a:Bw wr (wr.alloc (.cells #[zi p.garment,zi p.use,zi p.copy,.bool p.turn.flip,zi p.turn.quarter,zi p.at_.1,zi p.at_.2] 58)):=zA _;have X5:=Blk.new wr 58 #[zi p.garment,zi p.use,zi p.copy,.bool p.turn.flip,zi p.turn.quarter,zi p.at_.1,zi p.at_.2];have m3:=X5.c (i:=3) rfl;have l5:=X5.lt;have c3:=(a.cell (p:=ad b9 (ag+j*5)) x).trans h0;have g3':=(a.cell (p:=ad b8 (bc+j*7+3)) f).trans g3;have n8:=zs1 f a.size;have n9:=zs1 x a.size;have ai:Bw w8 _:=zT l.o a;obtain⟨f0,f1,f2,f3,f4,f5,f6⟩:=Db X5;clear B S hq ah g3 h0 X5 a
     go_wp2_with fail
     obtain⟨W1,b5⟩:=zG (wr.alloc (.cells #[zi p.garment,zi p.use,zi p.copy,.bool p.turn.flip,zi p.turn.quarter,zi p.at_.1,zi p.at_.2] 58));rw[b5]at m3 l5 c3 g3' n8 n9 ai⊢
     have bd:=zH ai;clear b5 f0 f1 f2 f3 f4 f5 f6 d0 d1 d2 d3 d4 d5 d6 a1 f x ai;go_quiet (fail)
     go_wp2_with fail
     go_roundw
     case rel=>exact⟨j+1,by omega,by go_num,zH (Ai bd.o _)⟩
     case measure=>exact zM
    obtain rfl:k=j:=zO;obtain⟨y0,y1,y2,y3,y4,y5⟩:=B9 (L.o.below l.o);have yl:=(L.o.below l.o).lt;obtain⟨b0,b1,b2,b3⟩:=yX (Blk.new wr 33 #[zi mk.length,zi mk.width,zi mk.repeat_.1,zi mk.repeat_.2]);have a:Bw wr (wr.alloc (.cells #[zi mk.length,zi mk.width,zi mk.repeat_.1,zi mk.repeat_.2] 33)):=zA _;have b6:Ce ⟨mk.length,mk.width,mk.repeat_.1,mk.repeat_.2⟩ ss (Dk mk.places k)=0:=by have:=J.o.ok;rwa[V.o]at this
    have aj:=Z0 ⟨mk.length,mk.width,mk.repeat_.1,mk.repeat_.2⟩ A1 ss.length c1 ss PA k pd (Dk mk.places k) _ ((ap.o.on Bz D.o).on Bz a) ((N.o.on D7 l.o).on D7 a) ae.o zO (λs hs=>zs0 ((I0 J.o.shp).1 s hs) zD) (by have:=J.o.q4;rwa[V.o]at this);rw[b6]at aj;have c4:=zH aj;have t:=zH (zT af.o a);have ak:=zH (zT D.o a);have be:=zH ((N.o.on D7 l.o).on D7 a);clear aj b6 a;go_wp2_with(go_at_call 50;go_must((refine c4.o.mono ?_);rintro e9 w9 ⟨rfl,x⟩;have c5:=zH (zT t.o x);have c6:=zH (ap.o.on Bz (zT ak.o x));have c8:=zH (be.o.on D7 x);clear x))
    refine bodyPost_ret (v:=.tuple #[.slice A1 ss.length c1,.slice PA k pd,zi 0]) (by simp[results,results31,go_sem]) rfl ?_;rw[V.o];refine⟨c5.o,A1,c1,PA,pd,?_,c6.o,bi.o,?_,?_⟩
    ·rw[Ic]
    ·rw[Ic];exact c8.o
    rw[Ic];exact ae.o
theorem cC(s:Al)(Z:oA)(z zc:Nat)(M:oA)(m mc:Nat)(P:oA)(p pc:Nat)(U:oA)(u uc:Nat)(E:oA)(e ec:Nat)(O:oA)(o oc:Nat)(mk:Au)(ss:List Ae)(cs:List Ac)(Sa:oA)(n sc:Nat)(Qa:oA)(k qd:Nat)(w:World)(h:Co w s Z z zc M m mc P p pc U u uc E e ec O o oc)(i:Dj s)(j:Sl w w.heap.size Sa n (Ar mk.sizes))(l:Ab 7 Dy w Qa k mk.places)(q:bX s mk ss cs) :
  CP 10 #[.agg #[.string s.name,.slice Z z zc,.slice M m mc,.slice P p pc,.slice U u uc,.slice E e ec,.slice O o oc],.agg #[zi mk.length,zi mk.width,zi mk.repeat_.1,zi mk.repeat_.2,.slice Sa n sc,.slice Qa k qd]] w (zR (zi 0) w):=by
 have a:Bw w (zw (zw w #[.string s.name,.slice Z z zc,.slice M m mc,.slice P p pc,.slice U u uc,.slice E e ec,.slice O o oc] 29) #[zi mk.length,zi mk.width,zi mk.repeat_.1,zi mk.repeat_.2,.slice Sa n sc,.slice Qa k qd] 40):=I8 _ _ _;have b:=NC s Z z zc M m mc P p pc U u uc E e ec O o oc mk ss cs Sa n sc Qa k qd (zw (zw w #[.string s.name,.slice Z z zc,.slice M m mc,.slice P p pc,.slice U u uc,.slice E e ec,.slice O o oc] 29) #[zi mk.length,zi mk.width,zi mk.repeat_.1,zi mk.repeat_.2,.slice Sa n sc,.slice Qa k qd] 40) (h.on a) i (j.on a) (l.on Ba a) q;have X0:=(Blk.new w 29 #[.string s.name,.slice Z z zc,.slice M m mc,.slice P p pc,.slice U u uc,.slice E e ec,.slice O o oc]).alloc (.cells #[zi mk.length,zi mk.width,zi mk.repeat_.1,zi mk.repeat_.2,.slice Sa n sc,.slice Qa k qd] 40);have X1:=Blk.new' (zw w #[.string s.name,.slice Z z zc,.slice M m mc,.slice P p pc,.slice U u uc,.slice E e ec,.slice O o oc] 29) 40 #[zi mk.length,zi mk.width,zi mk.repeat_.1,zi mk.repeat_.2,.slice Sa n sc,.slice Qa k qd] (g:=w.heap.size+1) zP;obtain⟨x0,x1,x2,x3,x4,x5,x6⟩:=AS X0;obtain⟨y0,y1,y2,y3,y4,y5⟩:=B9 X1;have b:=zH b;have r:=zH a;clear a X0 X1 h i j l q;go_enter func10,ntmps10;go_wp2_with(go_at_call 31;go_must((refine b.o.mono ?_);rintro e1 w1 ⟨f,A1,c1,B1,d1,rfl,t,v,x,y⟩;have B:=zH (zT r.o f);clear f t v x y))
 go_ret;exact⟨rfl,B.o⟩
def yY(l:List PL)(w:World)(e:Ending)(w':World):Prop:=Bw w w'∧∃A c,e=.returned (.tuple #[.slice A l.length c,zi 0])∧Ab 1 plG w' A l.length l
theorem lQ(s:Al)(Z:oA)(z zc:Nat)(M:oA)(m mc:Nat)(P:oA)(p pc:Nat)(U:oA)(u uc:Nat)(E:oA)(e ec:Nat)(O:oA)(o oc:Nat)(mk:Au)(ss:List Ae)(cs:List Ac)(Sa:oA)(n sc:Nat)(Qa:oA)(k qd:Nat)(w:World)(h:Co w s Z z zc M m mc P p pc U u uc E e ec O o oc)(hs:Dj s)(hS:Sl w w.heap.size Sa n (Ar mk.sizes))(hP:Ab 7 Dy w Qa k mk.places)(r:bX s mk ss cs)(l:List PL)(hl:MV s mk=.ok l) :
  CP 12 #[.agg #[.string s.name,.slice Z z zc,.slice M m mc,.slice P p pc,.slice U u uc,.slice E e ec,.slice O o oc],.agg #[zi mk.length,zi mk.width,zi mk.repeat_.1,zi mk.repeat_.2,.slice Sa n sc,.slice Qa k qd]] w (yY l w):=by
 have C:Bw w (zw (zw w #[.string s.name,.slice Z z zc,.slice M m mc,.slice P p pc,.slice U u uc,.slice E e ec,.slice O o oc] 29) #[zi mk.length,zi mk.width,zi mk.repeat_.1,zi mk.repeat_.2,.slice Sa n sc,.slice Qa k qd] 40):=I8 _ _ _;have t:=NC s Z z zc M m mc P p pc U u uc E e ec O o oc mk ss cs Sa n sc Qa k qd (zw (zw w #[.string s.name,.slice Z z zc,.slice M m mc,.slice P p pc,.slice U u uc,.slice E e ec,.slice O o oc] 29) #[zi mk.length,zi mk.width,zi mk.repeat_.1,zi mk.repeat_.2,.slice Sa n sc,.slice Qa k qd] 40) (h.on C) hs (hS.on C) (hP.on Ba C) r;have X0:=(Blk.new w 29 #[.string s.name,.slice Z z zc,.slice M m mc,.slice P p pc,.slice U u uc,.slice E e ec,.slice O o oc]).alloc (.cells #[zi mk.length,zi mk.width,zi mk.repeat_.1,zi mk.repeat_.2,.slice Sa n sc,.slice Qa k qd] 40);have X1:=Blk.new' (zw w #[.string s.name,.slice Z z zc,.slice M m mc,.slice P p pc,.slice U u uc,.slice E e ec,.slice O o oc] 29) 40 #[zi mk.length,zi mk.width,zi mk.repeat_.1,zi mk.repeat_.2,.slice Sa n sc,.slice Qa k qd] (g:=w.heap.size+1) zP;obtain⟨x0,x1,x2,x3,x4,x5,x6⟩:=AS X0;obtain⟨y0,y1,y2,y3,y4,y5⟩:=B9 X1;have t:=zH t;have HB:=zH C;have b:mk.places.length=k:=hP.len;have ao:k<=60:=by rw[<-b,r.len];exact r.low
 have a:=r.pol.symm.trans hl;have y:=r.q4;rw[b]at a y;obtain⟨puts,B⟩:=zG (Dk mk.places k);have N:puts.length=k:=by rw[<-B,Ic]
 rw[b,B]at t;rw[B]at a y;have D:=zH N;have F:=zH a;have a9:=zH y;have aa:=zH (show ∀q∈ss,q.poly.length<=1000000 from λq hq=>zs0 ((I0 r.shp).1 q hq) zD);clear C X0 X1 h hs hS hP r b a y B N hl;go_enter func12,ntmps12;go_wp2_with(go_at_call 31;go_must((refine t.o.mono ?_);rintro e1 w1 ⟨Q,A1,c1,B1,d1,rfl,R,ab,S,ac⟩;have T:=zH (zT HB.o Q);have ae:=zH R;have af:=zH (show Ab 5 Hs w1 B1 k puts by have:=S;rwa[D.o]at this);clear Q R ab S ac))
 have b:=D.o;rw[b];clear b x0 x1 x2 x3 x4 x5 x6 y0 y1 y2 y3 y4 y5
 go_loopw[9,11,12,13,26,27,28,29,30,31,32,33,34,35,36,37,38,39,40,41,42,43] (λv _ _ _ i _ _ _ _ _ _ _ _ _ _ _ _ _ _ _ _ _ wr=>∃(j:Nat)(rs:List (Value×PL)),j<=k∧i=zi (j:Int)∧Hid (DS wr w1.heap.size v rs)∧Hid (rs.length=j)∧Hid (AE (puts.map (Af ss))=AE ((Bp rs).map Except.ok++(puts.drop j).map (Af ss)))∧Hid (Bw w1 wr)) (λ_ _ _ _ i _ _ _ _ _ _ _ _ _ _ _ _ _ _ _ _ _ _=>k-(intOf i).toNat)
 case atStart=>exact⟨0,[],zs3 _,rfl,zH (DS.start _ _),zH rfl,zH (by simp[Bp]),zH zJ⟩
 case round=>
  obtain⟨j,rs,hj,rfl,K,V,HE,f⟩:=hrel;have ag:=zH (zT T.o f.o);by_cases ah:j<k
  ·obtain⟨b2,ap,q,rfl,aq,hv,f0,f1,f2,f3,f4⟩:=Ik (af.o.on D7 f.o) ah;have X:=zH (λW (h:Bw w1 W)=>FL A1 ss.length c1 ss q W (ae.o.on Bz h) aa.o (a9.o q (zq2 hv)));have a:Bw wr (zw wr #[zi q.shape,.bool q.turn.flip,zi q.turn.quarter,zi q.at_.1,zi q.at_.2] 87):=zA _;have ai:=zH (zT f.o a);have HV:=zH hv;have G:=zH a;obtain⟨j1,j2⟩:=zI (k:=j) (n:=k) (by omega);obtain⟨k0,k1,k2,k3,k4⟩:=Ff (Blk.new wr 87 #[zi q.shape,.bool q.turn.flip,zi q.turn.quarter,zi q.at_.1,zi q.at_.2]);clear hv a
   cases hqp:Af ss q with
   | error z=>
    have hz:=Np HV.o (done:=Bp rs) hqp;rw[<-HE.o,F.o]at hz
    cases hz
   | ok u=>
    have aj:=zH (HE.o.trans (congrArg AE (No (done:=Bp rs) HV.o hqp)));rw[hqp]at X;obtain⟨_,u2,u3,_⟩:=Ht hqp;have ar:=V.o;have Y:=zH (zu2 u2 u3);clear hqp u3
    go_wp2_with(first
     | (go_at_call 33;go_must((refine(X.o _ ai.o).mono ?_);rintro e w5 ⟨a0,he⟩;obtain⟨g5,he,a1,a2⟩:=he;subst he;have a3:=zT G.o a0;have H:=zH (Below.alo a3 (.cells #[.slice (sa g5 0) u.length u.length] 64));have ak:=zH ((XV a2 (zV Y.o) (zV Y.o) (λk e=>(K.o.own.lt k e).2) (zs0 G.o.size a1)).below (zA (.cells #[.slice (sa g5 0) u.length u.length] 64)));have a4:=zH (K.o.below H.o);have a5:=zH (zs0 f.o.size H.o.size);clear a0 a3 a2 a1))
     | (at_builtin;refine Bt (P:=prog) (by rfl) _ _ 51 (by rfl) w1.heap.size 64 (zn) 1 24 underlying51 JD rfl zD u9 rs.length (rs.flatMap λx=>[x.1]) (by rfl) a4.o.own ⟨w5.heap.size,0,none⟩ 1 1 [.slice (sa g5 0) u.length u.length] (by rfl) (by rfl) (EV (Blk.new w5 64 _)) (λu hu=>by obtain rfl:=zr9.1 hu;rfl) zU zO a5.o ?_;intro v7 w7 a6 I a7;have al:=zH (a4.o.more ak.o a6 I a7);have am:=zH (Ax (zT f.o H.o) I a5.o (λk e=>(K.o.own.lt k e).1));clear a6 I a7))
    go_roundw
    case rel=>exact⟨j+1,rs++[(.slice (sa g5 0) u.length u.length,u)],by omega,by go_num,al,zH (by rw[zq5,V.o];rfl),zH (by rw[aj.o];simp[Bp]),am⟩
    case measure=>exact zM
  obtain rfl:k=j:=zO
  have HQ:Hid (Bp rs=l):=zH (by
   have L:=HE.o;rw[F.o,zr6 (by rw[D.o];exact zs2 _),List.map_nil,zt3,GP]at L;injection L with L
   exact L.symm)
  obtain⟨A7,c7,rfl,J⟩:=K.o.all;rw[HQ.o]at J;have an:=zH J;clear J;have a8:=HQ.o;rw[a8];clear a8
  go_wp2_with fail
  refine bodyPost_ret (v:=.tuple #[.slice A7 l.length c7,zi 0]) (by simp[results,results12,go_sem]) rfl ?_;exact⟨ag.o,A7,c7,rfl,an.o⟩
theorem VZ(h:Blk w g t #[a0,a1,a2,a3,a4,a5,a6,a7,a8,a9,a10,a11]):zL w g 0 a0∧zL w g 1 a1∧zL w g 2 a2∧zL w g 3 a3∧zL w g 4 a4∧zL w g 5 a5∧zL w g 6 a6∧zL w g 7 a7∧zL w g 8 a8∧zL w g 9 a9∧zL w g 10 a10∧zL w g 11 a11:=⟨h.c rfl,h.c rfl,h.c rfl,h.c rfl,h.c rfl,h.c rfl,h.c rfl,h.c rfl,h.c rfl,h.c rfl,h.c rfl,h.c rfl⟩
theorem SV(h:BE s b zs=.ok mk):zs.length<=6∧mk.places.length<=60:=by
 obtain⟨x,a,e,_⟩:=FK h;exact⟨(Kv a).1,by rw[e];exact Jj a⟩
theorem lR(h:BE s b zs=.ok mk):1<=zs.length:=by
 obtain⟨x,a,_,_⟩:=FK h;exact Yl a
theorem lS{g0 g2 g3:Nat}{t0 t1 t2 t3:TypeId}{b0 b1 b2 b3 b4 b5 b6 c0 c1 c2 c3 c4 c5 d0 d1 d2 d3 d4 d5:Value}(f:Blk W g0 t0 #[a0,a1,a2,a3,a4,a5,a6,a7,a8,a9,a10,a11])(a:Blk W g1 t1 #[b0,b1,b2,b3,b4,b5,b6])(b:Blk W g2 t2 #[c0,c1,c2,c3,c4,c5])(e:Blk W g3 t3 #[d0,d1,d2,d3,d4,d5]) :
  zL W g0 11 a11∧zL W g1 0 b0∧zL W g1 1 b1∧zL W g1 2 b2∧zL W g1 3 b3∧zL W g1 4 b4∧zL W g1 5 b5∧zL W g1 6 b6∧zL W g2 0 c0∧zL W g2 1 c1∧zL W g2 2 c2∧zL W g2 3 c3∧zL W g2 4 c4∧zL W g2 5 c5∧zL W g3 0 d0∧zL W g3 1 d1∧zL W g3 2 d2∧zL W g3 3 d3∧zL W g3 4 d4∧zL W g3 5 d5:=
 ⟨f.c rfl,a.c rfl,a.c rfl,a.c rfl,a.c rfl,a.c rfl,a.c rfl,a.c rfl,b.c rfl,b.c rfl,b.c rfl,b.c rfl,b.c rfl,b.c rfl,e.c rfl,e.c rfl,e.c rfl,e.c rfl,e.c rfl,e.c rfl⟩
theorem lT{bU oU bP oP:Nat}{s0 s1 s2 s3 s4 s5 s6 c d:Value}(a:Blk W g t #[a0,a1,a2,a3,a4,a5,a6])(b:P0∧zL W g1 0 s0∧zL W g1 1 s1∧zL W g1 2 s2∧zL W g1 3 s3∧zL W g1 4 s4∧zL W g1 5 s5∧zL W g1 6 s6∧R)(e:zL W bU oU c)(f:zL W bP oP d) :
  zL W g 0 a0∧zL W g 1 a1∧zL W g 2 a2∧zL W g 3 a3∧zL W g 4 a4∧zL W g 5 a5∧zL W g 6 a6∧zL W g1 3 s3∧zL W g1 4 s4∧zL W bU oU c∧zL W bP oP d:=
 ⟨a.c rfl,a.c rfl,a.c rfl,a.c rfl,a.c rfl,a.c rfl,a.c rfl,b.2.2.2.2.1,b.2.2.2.2.2.1,e,f⟩
theorem Xi(h:AE (puts.map (Af ss))=.ok l):∀t∈l,t.length<=40:=by
 intro t b;have e:=CE h;have a:(Except.ok t:Except Int PL)∈l.map Except.ok:=zr2.2 ⟨t,b,rfl⟩;rw[<-e]at a;obtain⟨p,_,f⟩:=zr2.1 a;exact(Ht f).2.1
theorem cD(h:BB p q=false):p.garment≠q.garment∨(p.garment=q.garment∧p.use≠q.use)∨(p.garment=q.garment∧p.use=q.use∧p.copy≠q.copy):=by
 by_cases a:p.garment=q.garment
 ·by_cases b:p.use=q.use
  ·by_cases e:p.copy=q.copy
   ·rw[D5.2 ⟨a,b,e⟩]at h
    cases h
   exact .inr (.inr ⟨a,b,e⟩)
  exact .inr (.inl ⟨a,b⟩)
 exact .inl a
theorem Rq(s:Al)(Z:oA)(z zc:Nat)(M:oA)(m mc:Nat)(P:oA)(p pc:Nat)(U:oA)(u uc:Nat)(E:oA)(e ec:Nat)(O:oA)(o oc:Nat)(b:AG)(Sa:oA)(n sc:Nat)(zs:List Int)(w:World)(hw:Std w)(h:Co w s Z z zc M m mc P p pc U u uc E e ec O o oc)(hs:Dj s)(hz:Sl w w.heap.size Sa n (Ar zs))(_hzc:n<=sc)(e4:n<=9223372036854775807) :
  CP 3 #[.agg #[.string s.name,.slice Z z zc,.slice M m mc,.slice P p pc,.slice U u uc,.slice E e ec,.slice O o oc,zi b.length,zi b.width,zi b.rx,zi b.ry,.slice Sa n sc]] w (zR (zY) w):=by
 have hB:Bw w ((w.alloc (.cells #[.string s.name,.slice Z z zc,.slice M m mc,.slice P p pc,.slice U u uc,.slice E e ec,.slice O o oc,zi b.length,zi b.width,zi b.rx,zi b.ry,.slice Sa n sc] 35)).alloc (.cells #[.string s.name,.slice Z z zc,.slice M m mc,.slice P p pc,.slice U u uc,.slice E e ec,.slice O o oc] 29)):=I8 _ _ _;have X0:=Blk.new w 35 #[.string s.name,.slice Z z zc,.slice M m mc,.slice P p pc,.slice U u uc,.slice E e ec,.slice O o oc,zi b.length,zi b.width,zi b.rx,zi b.ry,.slice Sa n sc];have X1:=X0.alloc (.cells #[.string s.name,.slice Z z zc,.slice M m mc,.slice P p pc,.slice U u uc,.slice E e ec,.slice O o oc] 29);have X2:=Blk.new' (w.alloc (.cells #[.string s.name,.slice Z z zc,.slice M m mc,.slice P p pc,.slice U u uc,.slice E e ec,.slice O o oc,zi b.length,zi b.width,zi b.rx,zi b.ry,.slice Sa n sc] 35)) 29 #[.string s.name,.slice Z z zc,.slice M m mc,.slice P p pc,.slice U u uc,.slice E e ec,.slice O o oc] (g:=w.heap.size+1) zP;have ej:=zH (bH s Z z zc M m mc P p pc U u uc E e ec O o oc (n:Int) ((w.alloc (.cells #[.string s.name,.slice Z z zc,.slice M m mc,.slice P p pc,.slice U u uc,.slice E e ec,.slice O o oc,zi b.length,zi b.width,zi b.rx,zi b.ry,.slice Sa n sc] 35)).alloc (.cells #[.string s.name,.slice Z z zc,.slice M m mc,.slice P p pc,.slice U u uc,.slice E e ec,.slice O o oc] 29)) (h.on hB) hs zO)
 obtain⟨a0,a1,a2,a3,a4,a5,a6,a7,a8,a9,a10,a11⟩:=VZ X0;obtain⟨b0,b1,b2,b3,b4,b5,b6,b7,b8,b9,b10,b11⟩:=VZ X1;obtain⟨c0,c1,c2,c3,c4,c5,c6⟩:=AS X2;have cv:zs.length=n:=hz.ilen;have HW:=zH hw;have HA:=zH h;have ao:=zH hs;have HZ:=zH hz;have ay:=zH cv;have HB:=zH hB;have ek:=zH X1;have el:=zH X2;clear hB X0 X1 X2 h hs hz hw cv;go_enter func3,ntmps3
 go_wp2_with fail
 refine ej.o.mono ?_;rintro e1 w1 ⟨bb,rfl,ap,cw⟩;have D:=zH (zT HB.o ap);have az:=zH (ek.o.below ap);have ba:=zH (el.o.below ap);have e7:=zH cw;clear ap cw a0 a1 a2 a3 a4 a5 a6 a7 a8 a9 a10 a11 b0 b1 b2 b3 b4 b5 b6 b7 b8 b9 b10 b11 c0 c1 c2 c3 c4 c5 c6
 cases bb with
 | false=>
  go_wp2_with(go_at_call 5;go_must((refine(KH _ (HW.o.below D.o)).mono ?_);rintro e9 w9 ⟨rfl,F⟩;have Q:=zH ((D.o).trans (F.mono (D.o).size));clear F))
  go_ret;exact⟨rfl,Q.o⟩
 | true=>
  obtain⟨b0,b1,b2,b3,b4,b5,b6,b7,b8,b9,b10,b11⟩:=VZ az.o;obtain⟨c0,c1,c2,c3,c4,c5,c6⟩:=AS ba.o;have J:=SS s Z z zc M m mc P p pc U u uc E e ec O o oc b Sa n sc zs w1 (HA.o.on D.o) ao.o (HZ.o.on D.o) e4 (λx hx=>lK (by rw[ay.o];exact(e7.o rfl).1) hx);obtain⟨r,hr⟩:=zG (BE s b zs);rw[hr]at J
  cases r with
  | error er=>
   have cy:=bT hr;have fn:(er != 0)=true:=by simpa using cy
   have J:=zH J;clear hr cy
   go_wp2_with(first
    | (go_at_call 6;go_must((refine J.o.mono ?_);rintro e2 w2 ⟨G,rfl⟩;have bc:=zH (Below.alo (zT D.o G) (.cells #[zi 0,zi 0,zi 0,zi 0,zn,zn] 40));clear G))
    | (go_at_call 5;go_must((refine(KH _ (HW.o.below bc.o)).mono ?_);rintro e9 w9 ⟨rfl,F⟩;have Q:=zH ((bc.o).trans (F.mono (bc.o).size));clear F)))
   go_ret;exact⟨rfl,Q.o⟩
  | ok mk=>
   have R:=zH hr;have cz:mk.sizes=zs:=(Gn hr).2.1;have d7:=zH cz;have J:=zH J;clear hr cz;obtain⟨k,hk⟩:=zG mk.places.length;have HK:=zH hk;have HN:=zH (show mk.sizes.length=n by rw[d7.o,ay.o]);have fj:k<=60:=by rw[<-hk];exact(SV R.o).2
   have fo:n<=6:=by rw[<-ay.o];exact(SV R.o).1
   clear hk;by_cases hT:CZ mk=0
   ·obtain⟨tx,d8⟩:=zG (bytes (E4 mk));have d9:=zH d8;have HT:=zH hT;obtain⟨ss,cs,bd⟩:=lN R.o;have be:=zH bd;obtain⟨l,hl,bf,da⟩:=Ww R.o;rw[HK.o]at bf;have HL:=zH hl;have em:=zH bf;have eo:=zH da;have ep:=zH (Gn R.o).2.2;have db:=zH (Xi (bd.pol.symm.trans hl));obtain⟨Lc,bg⟩:=zG ((AP s).length);have es:=zH bg
    have bh:(Lc:Int)*(n:Int)=(k:Int):=by
     have H:=(Gn R.o).1;rw[HK.o,HN.o,bg]at H;rw[H];simp
    have cu:IntKind.i64.wrap ((Lc:Int)*(n:Int))=(k:Int):=by rw[bh];exact zs5 _ zO
    have fp:IntKind.i64.wrap (k:Int)=(k:Int):=zs5 _ zO;clear d8 hT bd hl bf da bg
    go_wp2_with(first
     | (go_at_call 6;go_must((refine J.o.mono ?_);rintro e2 w2 ⟨G,A,c,B,d,f,K,L,bi,bj⟩;rw[HN.o,HK.o]at f;rw[HN.o]at K;rw[HK.o]at L;subst f;have S:=zT D.o G;have y:Bw w2 (w2.alloc (.cells #[zi mk.length,zi mk.width,zi mk.repeat_.1,zi mk.repeat_.2,.slice A n c,.slice B k d] 40)):=zA _;have T:=zT S y;have X4:=Blk.new w2 40 #[zi mk.length,zi mk.width,zi mk.repeat_.1,zi mk.repeat_.2,.slice A n c,.slice B k d];obtain⟨d0,d1,d2,d3,d4,d5⟩:=B9 X4;have bk:=zH X4;have aj:=zH T;have bl:=zT G y;have ea:=zH (az.o.below bl);have eb:=zH (ba.o.below bl);have et:=zH (K.on y);have eu:=zH (L.on Ba y);have N:=Mp mk A n c B k d _ (HW.o.below T) (K.on y) (L.on Ba y) zO zO;unfold EG at N;have bm:=zH N;clear G K L bi bj S y T bl X4 N))
     | (go_at_call 7;go_must((refine bm.o.mono ?_);rintro e5 w5 ⟨f,V⟩;rw[HT.o,if_pos rfl,d9.o]at f;subst f;have bn:=zH V;have af:=zH (zT aj.o V);clear V))
     | (go_at_call 8;go_must((refine(bF mk tx _ (HW.o.below af.o) (Wz HT.o) (by rw[d7.o];exact lR R.o) (by rw[<-d9.o,Dv])).mono ?_);rintro e6 w6 ⟨X,S2,cx,P2,dx,f,bo,ev,bp,ew⟩;unfold EG at f;rw[HN.o,HK.o]at f;rw[HN.o]at bo;rw[HK.o]at bp;subst f;have aq:Bw w6 (w6.alloc (.cells #[zi mk.length,zi mk.width,zi mk.repeat_.1,zi mk.repeat_.2,.slice S2 n cx,.slice P2 k dx] 40)):=zA _;have bq:=zT X aq;have ag:=zT bn.o bq;have C:=zH (zT af.o bq);have ed:=zH (bk.o.below ag);have ee:=zH (ea.o.below ag);have ef:=zH (eb.o.below ag);have eg:=zH (Blk.new w6 40 #[zi mk.length,zi mk.width,zi mk.repeat_.1,zi mk.repeat_.2,.slice S2 n cx,.slice P2 k dx]);have eh:=zH (et.o.on ag);have ei:=zH (eu.o.on Ba ag);have an:=zH (bo.on aq);have Y:=zH (bp.on Ba aq);clear X bo ev bp ew aq bq ag)))
    generalize ex:(w6.alloc (.cells #[zi mk.length,zi mk.width,zi mk.repeat_.1,zi mk.repeat_.2,.slice S2 n cx,.slice P2 k dx] 40))=W7 at *
    clear ex;have aa:=zH (λW (I:Bw W7 W)=>lS (ee.o.below I) (ef.o.below I) (ed.o.below I) (eg.o.below I));clear b0 b1 b2 b3 b4 b5 b6 b7 b8 b9 b10 b11 c0 c1 c2 c3 c4 c5 c6 d0 d1 d2 d3 d4 d5
    go_cut [125]from 95 to 125 (λv wx=>v=zF∧Bw W7 wx)
    case first=>
     as_aux_lemma=>
      have a:=Below.refl W7.heap.size W7;obtain⟨y11,y0,y1,y2,y3,y4,y5,y6,r0,r1,r2,r3,r4,r5,x0,x1,x2,x3,x4,x5⟩:=aa.o W7 a
      go_region_held3(λw'=>w'.cell? (ad w.heap.size 11)=some (.slice Sa n sc)∧w'.cell? (ad (w.heap.size+1) 0)=some (.string s.name)∧w'.cell? (ad (w.heap.size+1) 1)=some (.slice Z z zc)∧w'.cell? (ad (w.heap.size+1) 2)=some (.slice M m mc)∧w'.cell? (ad (w.heap.size+1) 3)=some (.slice P p pc)∧w'.cell? (ad (w.heap.size+1) 4)=some (.slice U u uc)∧w'.cell? (ad (w.heap.size+1) 5)=some (.slice E e ec)∧w'.cell? (ad (w.heap.size+1) 6)=some (.slice O o oc)∧w'.cell? (ad w2.heap.size 0)=some (zi mk.length)∧w'.cell? (ad w2.heap.size 1)=some (zi mk.width)∧w'.cell? (ad w2.heap.size 2)=some (zi mk.repeat_.1)∧w'.cell? (ad w2.heap.size 3)=some (zi mk.repeat_.2)∧w'.cell? (ad w2.heap.size 4)=some (.slice A n c)∧w'.cell? (ad w2.heap.size 5)=some (.slice B k d)∧w'.cell? (ad w6.heap.size 0)=some (zi mk.length)∧w'.cell? (ad w6.heap.size 1)=some (zi mk.width)∧w'.cell? (ad w6.heap.size 2)=some (zi mk.repeat_.1)∧w'.cell? (ad w6.heap.size 3)=some (zi mk.repeat_.2)∧w'.cell? (ad w6.heap.size 4)=some (.slice S2 n cx)∧w'.cell? (ad w6.heap.size 5)=some (.slice P2 k dx))
       ((refine aa.o _ ?_;repeat(first|(with_reducible exact a)|(with_reducible refine Below.drew ?_))))
       (first
        | (go_at_call 9;go_must((refine(kU mk A S2 B P2 n c cx k d dx _ (eh.o.on zB) (an.o.on zB) (ei.o.on Ba zB) (Y.o.on Ba zB) zO zO).mono ?_);rintro e8 w8 ⟨rfl,t⟩;replace a:=Ag a t;clear t))
        | (go_at_call 10;go_must((refine(cC s Z z zc M m mc P p pc U u uc E e ec O o oc mk ss cs S2 n cx P2 k dx _ (HA.o.on (C.o.trans (Below.mono zB C.o.size))) ao.o (an.o.on zB) (Y.o.on Ba zB) be.o).mono ?_);rintro e8 w8 ⟨rfl,t⟩;replace a:=Ag a t;clear t))
        | (go_at_call 11;go_must((refine(QA s Z z zc M m mc P p pc U u uc E e ec O o oc _ (HA.o.on (C.o.trans (Below.mono zB C.o.size))) ao.o ep.o).mono ?_);rintro e8 w8 ⟨A8,c8,f,_,_,t⟩;rw[es.o]at f;subst f;replace a:=Ag a t;clear t)))
      all_goals
       go_wp2_with fail
       go_meet;exact⟨rfl,by repeat(first|(with_reducible exact a)|(with_reducible refine Ai ?_ _)|(with_reducible refine Below.drew ?_))⟩
    case rest=>
     as_aux_lemma=>
      obtain⟨rfl,ah⟩:=hcut;obtain⟨wx,rfl⟩:=zE wc;have dd:=zH ah;obtain⟨y11,y0,y1,y2,y3,y4,y5,y6,r0,r1,r2,r3,r4,r5,x0,x1,x2,x3,x4,x5⟩:=aa.o wx ah;have ey:=zH (lQ s Z z zc M m mc P p pc U u uc E e ec O o oc mk ss cs S2 n cx P2 k dx wx (HA.o.on (zT C.o ah)) ao.o (an.o.on ah) (Y.o.on Ba ah) be.o l HL.o);clear ah bh cu;go_wp2_with(go_at_call 12;go_must((refine ey.o.mono ?_);rintro e8 w8 ⟨de,LA,lc,f,br⟩;rw[em.o]at f br;subst f;have bt:=zH (zT dd.o de);have df:=zH br;obtain⟨w8_y11,w8_y0,w8_y1,w8_y2,w8_y3,w8_y4,w8_y5,w8_y6,w8_r0,w8_r1,w8_r2,w8_r3,w8_r4,w8_r5,w8_x0,w8_x1,w8_x2,w8_x3,w8_x4,w8_x5⟩:=aa.o w8 bt.o;clear de br))
      clear y11 y0 y1 y2 y3 y4 y5 y6 r0 r1 r2 r3 r4 r5 x0 x1 x2 x3 x4 x5
      go_loopw[15,16,17,18,19,20,142,143,144,145,146,147,148,149,150,151,152,153,154,155,156,157,158,159,160,161,162,163,164,165,166,167,168,169,170,171,172,173,174,175,176,177,178,179,180,181,182,183,184,185,186,187,188,189,190,191,192,193,194,195,196,197,198,199,200,201,202,203,204,205,206,207,208,209,210,211,212,213,214,215,216,217,218,219,220,221,222,223,224,225,226,227,228,229,230,231,232,233,234,235,236,237,238,239,240,241,242,243,244,245,246,247,248,249,250,251,252,253,254,255] (λi _ _ _ _ _ _ _ _ _ _ _ _ _ _ _ _ _ _ _ _ _ _ _ _ _ _ _ _ _ _ _ _ _ _ _ _ _ _ _ _ _ _ _ _ _ _ _ _ _ _ _ _ _ _ _ _ _ _ _ _ _ _ _ _ _ _ _ _ _ _ _ _ _ _ _ _ _ _ _ _ _ _ _ _ _ _ _ _ _ _ _ _ _ _ _ _ _ _ _ _ _ _ _ _ _ _ _ _ _ _ _ _ _ _ _ _ _ _ _ wr=>∃j:Nat,j<=k∧i=zi (j:Int)∧Hid (Bw w8 wr)) (λi _ _ _ _ _ _ _ _ _ _ _ _ _ _ _ _ _ _ _ _ _ _ _ _ _ _ _ _ _ _ _ _ _ _ _ _ _ _ _ _ _ _ _ _ _ _ _ _ _ _ _ _ _ _ _ _ _ _ _ _ _ _ _ _ _ _ _ _ _ _ _ _ _ _ _ _ _ _ _ _ _ _ _ _ _ _ _ _ _ _ _ _ _ _ _ _ _ _ _ _ _ _ _ _ _ _ _ _ _ _ _ _ _ _ _ _ _ _ _ _=>k-(intOf i).toNat)
      case atStart=>exact⟨0,zs3 _,rfl,zH zJ⟩
      case round=>
       obtain⟨j,hj,rfl,bu⟩:=hrel;have ak:=zH (zT bt.o bu.o);have ab:=zH (zT C.o ak.o);by_cases dg:j<k
       ·obtain⟨b7,fk,q,rfl,bv,a,d0,d1,d2',d3,d4,d5,d6⟩:=EB (Y.o.on Ba ak.o) dg;obtain⟨y11,y0,y1,y2,y3,y4,y5,y6,r0,r1,r2,r3,r4,r5,x0,x1,x2,x3,x4,x5⟩:=aa.o wr ak.o;obtain⟨⟨u0,u1⟩,bw⟩:=MA R.o a;obtain⟨v0,v1⟩:=fR R.o a;obtain⟨ju,ar⟩:∃ju:Nat,q.use=(ju:Int):=⟨q.use.toNat,by omega⟩;have bx:ju<u:=by have:=HA.o.uses.len;omega
        obtain⟨bU,offU,v,rfl,bz,hv,g0,_,_⟩:=Lg (HA.o.on ab.o).uses bx;have c7:s.uses.getD q.use.toNat ⟨0,0,false⟩=v:=by rw[ar,Int.toNat_natCast,zq3,hv];rfl
        rw[c7]at v0 v1;obtain⟨jp,c9⟩:∃jp:Nat,v.piece=(jp:Int):=⟨v.piece.toNat,by omega⟩;have ca:jp<p:=by have:=HA.o.pieces.len;omega
        obtain⟨bP,offP,x,En,en,ec',Nn,nn,nc,Cn,cn,cc,Dn,dn,dc,rfl,cb,hx,_,_,g2,_,_,_,_,_,_,_,_,_,_,_,_⟩:=Ex (HA.o.on ab.o).pieces ca
        have dh:Ii s q.use=x:=by
         unfold Ii;rw[c7,c9,Int.toNat_natCast,zq3,hx];rfl
        rw[dh]at bw;have di:Q4 q.turn:=be.o.q4 (Ho j q) (by rw[HK.o];exact zq2 (QI a dg));rw[ar]at d1;rw[c9]at g0;have ac:Bw wr (wr.alloc (.cells #[zi q.garment,zi (ju:Int),zi q.copy,.bool q.turn.flip,zi q.turn.quarter,zi q.at_.1,zi q.at_.2] 58)):=zA _;have cd:=zH (Blk.new wr 58 #[zi q.garment,zi (ju:Int),zi q.copy,.bool q.turn.flip,zi q.turn.quarter,zi q.at_.1,zi q.at_.2]);have g0':=(ac.cell (p:=ad bU (offU+ju*3)) bz).trans g0;have g2':=(ac.cell (p:=ad bP (offP+jp*7+2)) cb).trans g2;have n0:=zs1 bz ac.size;have n2:=zs1 cb ac.size;have dj:=zT ak.o ac;have dk:=zT bu.o ac;have au:=zH (zu2 (zu2 g0' n0) (zu2 g2' n2));have av:=zH dj;have dl:=zH dk;have ez:=zH di;have f7:=zH bw;have f8:=zH a;have f9:=zH ar;obtain⟨i1,i2⟩:=zI (k:=j) (n:=k) (by omega);obtain⟨i3,i4⟩:=zI (k:=ju) (n:=u) (by omega);obtain⟨i5,i6⟩:=zI (k:=jp) (n:=p) (by omega);have g3:decide ((ju:Int)<0)=false:=zu0 zO;have g4:decide ((u:Int)<=(ju:Int))=false:=zu0 zO;have g5:decide ((jp:Int)<0)=false:=zu0 zO;have g6:decide ((p:Int)<=(jp:Int))=false:=zu0 zO;have g7:decide (u<=ju)=false:=zu0 zO;have g8:decide (p<=jp)=false:=zu0 zO;obtain⟨gq,dm⟩:=zG wr.heap.size;clear u0 u1 v0 v1 c7 dh di bw a ar c9 hv hx g0 g2 g0' g2' n0 n2 dj dk ac bz cb bx ca
        go_wp2_with fail
        generalize fa:(wr.alloc (.cells #[zi q.garment,zi (ju:Int),zi q.copy,.bool q.turn.flip,zi q.turn.quarter,zi q.at_.1,zi q.at_.2] 58))=W9 at *
        clear fa;rw[dm]at cd;clear dm d0 d1 d2' d3 d4 d5 d6 y11 y0 y1 y2 y3 y4 y5 y6 r0 r1 r2 r3 r4 r5 x0 x1 x2 x3 x4 x5;have dp:=zH (λW (I:Bw W9 W)=>lT (cd.o.below I) (aa.o W (zT av.o I)) ((I.cell (p:=ad bU (offU+ju*3)) au.o.1.2).trans au.o.1.1) ((I.cell (p:=ad bP (offP+jp*7+2)) au.o.2.2).trans au.o.2.1));obtain⟨wo,rfl⟩:=zE wr
        go_cut [207]from 142 to 255 (λv wx2=>v=zF∧Bw W9 wx2)
        case first=>
         as_aux_lemma=>
          have a:=Below.refl W9.heap.size W9;obtain⟨z0,z1,z2,z3,z4,z5,z6,z7,z8,z9,z10⟩:=dp.o W9 a
          go_region_held3(λw'=>w'.cell? (ad gq 0)=some (zi q.garment)∧w'.cell? (ad gq 1)=some (zi (ju:Int))∧w'.cell? (ad gq 2)=some (zi q.copy)∧w'.cell? (ad gq 3)=some (.bool q.turn.flip)∧w'.cell? (ad gq 4)=some (zi q.turn.quarter)∧w'.cell? (ad gq 5)=some (zi q.at_.1)∧w'.cell? (ad gq 6)=some (zi q.at_.2)∧w'.cell? (ad (w.heap.size+1) 3)=some (.slice (sa bP offP) p pc)∧w'.cell? (ad (w.heap.size+1) 4)=some (.slice (sa bU offU) u uc)∧w'.cell? (ad bU (offU+ju*3))=some (zi (jp:Int))∧w'.cell? (ad bP (offP+jp*7+2))=some (zi x.grain))
           ((refine dp.o _ ?_;repeat(first|(with_reducible exact a)|(with_reducible refine Below.drew ?_))))
           ((go_at_call 13;go_must((refine(KQ x.grain q.turn.flip q.turn _ ez.o).mono ?_);rintro e8 w8' ⟨f,t⟩;rw[f7.o]at f;subst f;replace a:=Ag a t;clear t)))
          all_goals
           go_wp2_with fail
           go_meet;exact⟨rfl,by repeat(first|(with_reducible exact a)|(with_reducible refine Ai ?_ _)|(with_reducible refine Below.drew ?_))⟩
        case rest=>
         as_aux_lemma=>
          obtain⟨rfl,ce⟩:=hcut;obtain⟨wx2,rfl⟩:=zE wc;have dq:=zH ce;clear ce
          go_wp2_with fail
          go_loopw[17,18,19,20,208,209,210,211,212,213,214,215,216,217,218,219,220,221,222,223,224,225,226,227,228,229,230,231,232,233,234,235,236,237,238,239,240,241,242,243,244,245,246,247,248,249,250,251,252,253,254,255] (λi _ _ _ _ _ _ _ _ _ _ _ _ _ _ _ _ _ _ _ _ _ _ _ _ _ _ _ _ _ _ _ _ _ _ _ _ _ _ _ _ _ _ _ _ _ _ _ _ _ _ _ wr=>∃i0:Nat,i0<=j∧i=zi (i0:Int)∧Hid (Bw wx2 wr)) (λi _ _ _ _ _ _ _ _ _ _ _ _ _ _ _ _ _ _ _ _ _ _ _ _ _ _ _ _ _ _ _ _ _ _ _ _ _ _ _ _ _ _ _ _ _ _ _ _ _ _ _ _=>j-(intOf i).toNat)
          case atStart=>exact⟨0,zs3 _,rfl,zH zJ⟩
          case round=>
           obtain⟨i0,hi,rfl,cf⟩:=hrel;have aw:=zH (zT dq.o cf.o);have dr:=zH (zT av.o aw.o);have cg:=zH (zT dl.o aw.o);by_cases fl:i0<j
           ·obtain⟨bL,offL,ta,A1,m1,e1',rfl,ch,ci,t0,cj,ds⟩:=P5 (df.o.on JC cg.o) (k:=i0) zO;obtain⟨bL2,offL2,tb,A2',m2,e2',ae,_,ck,t1,cl,dt⟩:=P5 (df.o.on JC cg.o) (k:=j) zO;injection ae with ae
            injection ae with q1 q2
            subst q1;subst q2;have du:=eo.o i0 j ta tb zO ci ck;have m1b:m1<=1000000:=by have H:=cj.len;have h2:=db.o ta (zq2 ci);omega
            have m2b:m2<=1000000:=by have H:=cl.len;have h2:=db.o tb (zq2 ck);omega
            have dv:=zH (λW (I:Bw wr W)=>Oi A1 A2' m1 e1' m2 e2' ta tb W (cj.on Aa I) (cl.on Aa I) ds dt m1b m2b);rw[du]at dv;have fb:=zH (λW (I:Bw wr W)=>zu2 ((I.cell (p:=ad bL (offL+i0)) ch).trans t0) ((I.cell (p:=ad bL (offL+j)) ch).trans t1));obtain⟨i7,i8⟩:=zI (k:=i0) (n:=k) (by omega);have i9:(i0:Int)<(j:Int):=zO;clear du m1b m2b ci ck cj cl ds dt;obtain⟨wi,rfl⟩:=zE wr
            go_wp2_with fail
            go_cut [18,19]from 208 to 255 (λv18 v19 wx3=>v18=zF∧v19=zi 0∧Bw wi wx3)
            case first=>
             as_aux_lemma=>
              have a:=Below.refl wi.heap.size wi
              go_region_held3(λw'=>w'.cell? (ad bL (offL+i0))=some (.slice A1 m1 e1')∧w'.cell? (ad bL (offL+j))=some (.slice A2' m2 e2'))
               ((refine fb.o _ ?_;repeat(first|(with_reducible exact a)|(with_reducible refine Below.drew ?_))))
               ((go_at_call 14;go_must((refine(dv.o _ zB).mono ?_);rintro e8 w8' ⟨t,f⟩;replace f:e8=.returned (.tuple #[zF,zi 0]):=f;subst f;replace a:=Ag a t;clear t)))
              all_goals
               go_wp2_with fail
               go_meet;exact⟨rfl,rfl,by repeat(first|(with_reducible exact a)|(with_reducible refine Ai ?_ _)|(with_reducible refine Below.drew ?_))⟩
            case rest=>
             as_aux_lemma=>
              obtain⟨rfl,rfl,ai⟩:=hcut;obtain⟨wx3,rfl⟩:=zE wc;have fc:=zH (zT aw.o ai);have dw:=zH (zT dr.o ai);have fd:=zH (zT cf.o ai);clear ai t0 t1 ch;obtain⟨y11,y0,y1,y2,y3,y4,y5,y6,r0,r1,r2,r3,r4,r5,x0,x1,x2,x3,x4,x5⟩:=aa.o wx3 dw.o;obtain⟨b7',off7',qi,ae,fm,dy,d0,d1,d2',d3,d4,d5,d6⟩:=EB (Y.o.on Ba dw.o) (k:=i0) zO;injection ae with ae
              injection ae with q1 q2
              subst q1;subst q2;have cm:=cD (Zl R.o dy f8.o zO);rw[f9.o]at cm;have X9:=(cd.o.below fc.o).alloc (.cells #[zi qi.garment,zi qi.use,zi qi.copy,.bool qi.turn.flip,zi qi.turn.quarter,zi qi.at_.1,zi qi.at_.2] 58);obtain⟨f0,f1,f2,f3,f4,f5,f6⟩:=Db X9;obtain⟨k0,k1,k2,k3,k4,k5,k6⟩:=Db (Blk.new wx3 58 #[zi qi.garment,zi qi.use,zi qi.copy,.bool qi.turn.flip,zi qi.turn.quarter,zi qi.at_.1,zi qi.at_.2]);have lt9:=X9.lt;clear X9 dy
              have fe:(qi.garment == q.garment)=false∨((qi.garment == q.garment)=true∧(qi.use == (ju:Int))=false)∨((qi.garment == q.garment)=true∧(qi.use == (ju:Int))=true∧(qi.copy == q.copy)=false):=by
               rcases cm with H|⟨H,h2⟩|⟨H,h2,h3⟩
               ·exact .inl (by simpa using H)
               ·exact .inr (.inl ⟨by simpa using H,by simpa using h2⟩)
               exact .inr (.inr ⟨by simpa using H,by simpa using h2,by simpa using h3⟩)
              clear cm;rcases fe with H|⟨H,h2⟩|⟨H,h2,h3⟩
              all_goals
               go_wp2_with fail
               go_roundw
               case rel=>exact⟨i0+1,by omega,by go_num,zH (Below.alo fd.o _)⟩
               case measure=>exact zM
           obtain rfl:j=i0:=zO
           go_wp2_with fail
           go_roundw
           case rel=>exact⟨j+1,by omega,by go_num,cg⟩
           case measure=>exact zM
       obtain rfl:k=j:=zO;go_wp2_with(go_at_call 5;go_must((refine(KH _ (HW.o.below ab.o)).mono ?_);rintro e9 w9 ⟨rfl,F⟩;have Q:=zH ((ab.o).trans (F.mono (ab.o).size));clear F))
       go_ret;exact⟨rfl,Q.o⟩
   have al:=Zn R.o hT;have HT:=zH hT;have ff:(CZ mk != 0)=true:=by simpa using hT
   obtain⟨er,co⟩:=zG (CZ mk);rw[co]at ff;have fg:=zH co;obtain⟨rx,cp⟩:=zG mk.repeat_.1;obtain⟨ry,cq⟩:=zG mk.repeat_.2;obtain⟨wd,cr⟩:=zG mk.width;have dz:=zH cp;have e0:=zH cq;have e3:=zH cr
   have fh:(rx<0)∨(¬rx<0∧ry<0)∨(¬rx<0∧¬ry<0∧1048576<rx)∨(¬rx<0∧¬ry<0∧¬1048576<rx∧1048576<ry)∨(¬rx<0∧¬ry<0∧¬1048576<rx∧¬1048576<ry∧k=0∧wd<0)∨(¬rx<0∧¬ry<0∧¬1048576<rx∧¬1048576<ry∧k=0∧¬wd<0∧1048576<wd):=by
    rw[cp,cq,cr]at al;have am:mk.places=[]->k=0:=λe=>by rw[<-HK.o,e];rfl
    rcases al with al|⟨H,al⟩
    ·omega
    have:=am H;omega
   clear hT co al cp cq cr;rcases fh with r1|⟨r1,r2⟩|⟨r1,r2,r3⟩|⟨r1,r2,r3,r4⟩|⟨r1,r2,r3,r4,am,r5⟩|⟨r1,r2,r3,r4,am,r5,r6⟩
   all_goals
    as_aux_lemma=>
     try(have rk:((k:Int) == 0)=true:=by rw[am];rfl)
     try clear am
     go_wp2_with(first
      | (go_at_call 6;go_must((refine J.o.mono ?_);rintro e2 w2 ⟨G,A,c,B,d,f,K,L,bi,bj⟩;rw[HN.o,HK.o,dz.o,e0.o,e3.o]at f;rw[HN.o]at K;rw[HK.o]at L;subst f;have S:=zT D.o G;have y:Bw w2 (w2.alloc (.cells #[zi mk.length,zi wd,zi rx,zi ry,.slice A n c,.slice B k d] 40)):=zA _;have T:=zT S y;have X4:=Blk.new w2 40 #[zi mk.length,zi wd,zi rx,zi ry,.slice A n c,.slice B k d];obtain⟨d0,d1,d2,d3,d4,d5⟩:=B9 X4;have bk:=zH X4;have aj:=zH T;have N:=Mp mk A n c B k d _ (HW.o.below T) (K.on y) (L.on Ba y) zO zO;unfold EG at N;rw[dz.o,e0.o,e3.o]at N;have bm:=zH N;clear G K L bi bj S y T X4 N))
      | (go_at_call 7;go_must((refine bm.o.mono ?_);rintro e5 w5 ⟨f,V⟩;rw[if_neg HT.o,fg.o]at f;subst f;have af:=zH (zT aj.o V);have fi:=zH (bk.o.below V);clear V))
      | (go_at_call 8;go_must((refine(VX _).mono ?_);rintro e6 w6 ⟨rfl,X⟩;have bv:=Below.alo (zT af.o X) (.cells #[zi 0,zi 0,zi 0,zi 0,zn,zn] 40);have C:=zH (Below.alo bv (.cells #[zi rx,zi ry] 31));have ax:=(fi.o.below X).alloc (.cells #[zi 0,zi 0,zi 0,zi 0,zn,zn] 40);have ct:=ax.alloc (.cells #[zi rx,zi ry] 31);obtain⟨f0,f1,f2,f3,f4,f5⟩:=B9 ax;obtain⟨g0,g1,g2,g3,g4,g5⟩:=B9 ct;have fq:=ax.lt;have fr:=ct.lt;clear X bv ax ct))
      | (go_at_call 5;go_must((refine(KH _ (HW.o.below C.o)).mono ?_);rintro e9 w9 ⟨rfl,F⟩;have Q:=zH ((C.o).trans (F.mono (C.o).size));clear F)))
     go_ret;exact⟨rfl,Q.o⟩
end Go.Proofs.YteafekbddckemaaGreatDoor
