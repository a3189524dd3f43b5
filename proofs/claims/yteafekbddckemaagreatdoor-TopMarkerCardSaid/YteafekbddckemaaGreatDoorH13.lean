/- Parts of the proof. -/
import Derived.Test.YteafekbddckemaaGreatDoorH12
set_option maxRecDepth 100000
set_option maxHeartbeats 40000000
namespace Go.Proofs.YteafekbddckemaaGreatDoor
open Tryz Go.RowKit
open Go.Lib hiding intOf
variable{W:World}{cs:lV}{e edge m piece x:Int}{g i j k:Nat}{l:lP}{n:Int×Int}{p s:Pt}{t:Az}{ty:TypeId}{u:Dw}
theorem PD(t:Az)(l:lP):(AU t l).length=l.length:=by unfold AU;split <;> simp
theorem eR(h:l[k]?=some p)(a:t.flip=false):(AU t l)[k]?=some (BU t p):=by
 unfold AU;rw[a,if_neg zP,zr5,h];rfl
theorem Wk(h:l[k]?=some p)(a:t.flip=true):(AU t l)[l.length-1-k]?=some (BU t p):=by
 have b:=(zq1.1 h).1;unfold AU;rw[a,if_pos rfl,List.getElem?_reverse zQ,zq6,show l.length-1-(l.length-1-k)=k by omega,zr5,h];rfl
theorem eS(t:Az)(h:∀p∈l,inG p):∀p∈AU t l,inG p:=λp a=>by
 unfold AU at a;split at a
 ·rw[List.mem_reverse]at a;obtain⟨q,b,rfl⟩:=zr2.1 a;exact JY t q (h q b)
 obtain⟨q,b,rfl⟩:=zr2.1 a;exact JY t q (h q b)
theorem RJ(t:Az)(A:oA)(n c:Nat)(l:lP)(w:World)(F:Ab 2 Ad w A n l)(ht:Q4 t)(hn:n<=1000)(Z:∀p∈l,inG p) :
  CP 57 #[.agg #[.bool t.flip,zi t.quarter],.slice A n c] w (IU (AU t l) w):=by
 have HA:=zH F;have HL:=zH F.len;have HG:=zH Z;have L:=λW=>E7 n zO W
 have M:=zH (λW p (y:inG p)=>Kn t p W ht y);unfold IU;rw[PD,F.len];obtain⟨R,K⟩:=zG (AU t l);have N:=zH K;rw[K];have O:Hid (R.length=n):=by rw[Hid,<-K,PD,F.len]
 have P:Bw w (zw (zw w #[.bool t.flip,zi t.quarter] 55) (madeCells #[zi 0,zi 0] (n*2)) 56):=(zA _).alloc zP _;have Q:=zH ((Blk.new w 55 #[.bool t.flip,zi t.quarter]).alloc (.cells (madeCells #[zi 0,zi 0] (n*2)) 56));have a:=LR (zw w #[.bool t.flip,zi t.quarter] 55) n R;rw[show(zw w #[.bool t.flip,zi t.quarter] 55).heap.size=w.heap.size+1 by simp]at a;have S:=zH a;have T:=zH P;obtain⟨f,q⟩:=t;simp only at *
 clear F Z a P K
 cases f
 ·go_enter func57,ntmps57
  go_wp2_with fail
  clear L
  go_loopw[6,7,13,15,16,17,18,19,20,21,22,23,24,25,26,27,28,29,30] (λ_ _ i _ _ _ _ _ _ _ _ _ _ _ _ _ _ _ _ wr=>∃k:Nat,k<=n∧i=zi (k:Int)∧Ea wr (w.heap.size+1) n R (λj=>j<k)∧Blk wr w.heap.size 55 #[zF,zi q]∧Bw w wr) (λ_ _ i _ _ _ _ _ _ _ _ _ _ _ _ _ _ _ _ _=>n-(intOf i).toNat)
  case atStart=>exact⟨0,zs3 _,rfl,S.o.weak (λj E=>by omega),Q.o,T.o⟩
  case round=>
   obtain⟨k,hk,rfl,a,s,g⟩:=hrel;have C:=zH g;have z:=zH a;have V:=zH s;by_cases B:k<n
   ·obtain⟨b,a0,p,rfl,a1,y,c0,c1⟩:=Ap (HA.o.on Aa g) B;have v:=HG.o p (zq2 y);have G:=zH (λW=>M.o W p v);have x:=eR (t:=⟨false,q⟩) y rfl;rw[N.o]at x;have D:=zH x;have x0:=s.c (i:=0) rfl;have x1:=s.c (i:=1) rfl;have a2:=s.lt;have H:Hid (Bw wr (zw wr #[zi p.1,zi p.2] 56)):=zA _;obtain⟨i1,i2⟩:=zI (k:=k) (n:=n) (by omega);clear y v a s g x;go_wp2_with(go_at_call 62;refine(G.o _).mono ?_;rintro e w1 ⟨rfl,I⟩;have r:=zH (Ag H.o I);obtain⟨z0,z1,d0,d1,d2,d3,a3⟩:=(z.o.below r.o).cells B;clear I)
    go_roundw
    case rel=>
     have J:=(z.o.below r.o).step D.o B;refine⟨k+1,by omega,by go_num,J.weak (λj E=>by omega),((V.o.below r.o).far zP _).far zP _,?_⟩;exact((zT C.o r.o).setCell zP _).setCell zP _
    case measure=>exact zM
   obtain rfl:k=n:=zO;have X:=zH (a.done O.o (λj E=>by exact E));clear a s g
   go_wp2_with fail
   go_ret;exact⟨w.heap.size+1,rfl,by omega,X.o,C.o⟩
 go_enter func57,ntmps57
 go_wp2_with fail
 clear L
 go_loopw[6,7,13,15,16,17,18,19,20,21,22,23,24,25,26,27,28,29,30] (λ_ _ i _ _ _ _ _ _ _ _ _ _ _ _ _ _ _ _ wr=>∃k:Nat,k<=n∧i=zi (k:Int)∧Ea wr (w.heap.size+1) n R (λj=>n-k<=j∧j<n)∧Blk wr w.heap.size 55 #[zY,zi q]∧Bw w wr) (λ_ _ i _ _ _ _ _ _ _ _ _ _ _ _ _ _ _ _ _=>n-(intOf i).toNat)
 case atStart=>exact⟨0,zs3 _,rfl,S.o.weak (λj E=>by omega),Q.o,T.o⟩
 case round=>
  obtain⟨k,hk,rfl,a,s,g⟩:=hrel;have C:=zH g;have z:=zH a;have V:=zH s;by_cases B:k<n
  ·obtain⟨b,a0,p,rfl,a1,y,c0,c1⟩:=Ap (HA.o.on Aa g) B;have v:=HG.o p (zq2 y);have G:=zH (λW=>M.o W p v);have x:=Wk (t:=⟨true,q⟩) y rfl;rw[N.o,HL.o]at x;have D:=zH x;have x0:=s.c (i:=0) rfl;have x1:=s.c (i:=1) rfl;have a2:=s.lt;have H:Hid (Bw wr (zw wr #[zi p.1,zi p.2] 56)):=zA _;obtain⟨i1,i2⟩:=zI (k:=k) (n:=n) (by omega);have i3:IntKind.i64.wrap ((n:Int)-1)=(n:Int)-1:=zs5 _ zO;have i4:IntKind.i64.wrap ((n:Int)-1-(k:Int))=((n-1-k:Nat):Int):=by rw[zs5 _ zO];omega
   have i5:(0:Int)<=((n-1-k:Nat):Int):=zO;have i6:((n-1-k:Nat):Int)<(n:Int):=zO;obtain⟨m,Y⟩:=zG (n-1-k);have HM:=zH Y;rw[Y]at i4 i5 i6;rw[HM.o]at D;have U:m<n:=zO;clear Y;clear y v a s g x;go_wp2_with(go_at_call 62;refine(G.o _).mono ?_;rintro e w1 ⟨rfl,I⟩;have r:=zH (Ag H.o I);obtain⟨z0,z1,d0,d1,d2,d3,a3⟩:=(z.o.below r.o).cells U;clear I)
   go_roundw
   case rel=>
    have J:=(z.o.below r.o).step D.o U;refine⟨k+1,by omega,by go_num,J.weak (λj E=>by have:=HM.o;omega),((V.o.below r.o).far zP _).far zP _,?_⟩;exact((zT C.o r.o).setCell zP _).setCell zP _
   case measure=>exact zM
  obtain rfl:k=n:=zO;have X:=zH (a.done O.o (λj E=>by omega));clear a s g
  go_wp2_with fail
  go_ret;exact⟨w.heap.size+1,rfl,by omega,X.o,C.o⟩
def Ji(_:World)(t:Az)(vs:lV):Prop:=vs=[.bool t.flip,zi t.quarter]
theorem Kr:GC Ji:=λ_ _ _ _ _ h=>h
def tuC(t:Az):List Value:=[.bool t.flip,zi t.quarter]
theorem tZ(t:Az):(tuC t).length=2:=rfl
theorem uA(t:Az):∀u∈tuC t,u.oneCell'=true:=λu a=>by
 simp only[tuC,zr3,List.not_mem_nil,or_false]at a;rcases a with rfl|rfl <;> rfl
theorem eT:(prog.info? 55).map (λi=>(i.zero,i.size,i.bytes))=some (some (.agg #[zF,zi 0]),2,16):=zk
theorem EV(h:Blk W g ty cs.toArray):∀(j:Nat)(u:Value),cs[j]?=some u->W.cell? ((⟨g,0,none⟩:Addr).add j)=some u:=λj u a=>by
 rw[Go.WideShapes.add_plain];exact h.c (by simpa using a)
def EP(g:Int)(m:Bool)(k:Nat):List Az:=((List.range k).map λi:Nat=>Az.mk m (i:Int)).filter (BF g m)
theorem Y9(g:Int)(m:Bool):Cp g m=EP g m 4:=rfl
theorem Za(g:Int)(m:Bool)(k:Nat):EP g m (k+1)=EP g m k++if BF g m ⟨m,(k:Int)⟩=true then[⟨m,(k:Int)⟩]else[]:=by
 unfold EP;rw[List.range_succ,zr0,List.filter_append];congr 1;simp only[List.map_cons,List.map_nil,List.filter_cons,List.filter_nil]
theorem Wl(g:Int)(m:Bool)(k:Nat):(EP g m k).length<=k:=by
 have:=List.length_filter_le (BF g m) ((List.range k).map λi:Nat=>Az.mk m (i:Int));simpa[EP]using this
theorem uB(g:Int)(m:Bool)(w:World) :
  CP 67 #[zi g,.bool m] w λe w'=>∃A c,e=.returned (.slice A (Cp g m).length c)∧Ab 2 Ji w' A (Cp g m).length (Cp g m)∧(Cp g m).length<=c∧Bw w w':=by
 rw[Y9];have y:=zH (λ(k:Nat) W (h:k<4)=>KQ g m ⟨m,(k:Int)⟩ W (by unfold Q4;simp only;omega));simp only at y;go_enter func67,ntmps67
 go_wp2_with fail
 go_loopw[5,6,7,8,10,11,12,13,14,15,16,17,18,19,20,21] (λv _ _ i _ _ _ _ _ _ _ _ _ _ _ _ wr=>∃k:Nat,k<=4∧i=zi (k:Int)∧Hid (wr.ownsRow w.heap.size 55 2 v (EP g m k).length ((EP g m k).flatMap tuC))∧Hid (Bw w wr)) (λ_ _ _ i _ _ _ _ _ _ _ _ _ _ _ _ _=>4-(intOf i).toNat)
 case atStart=>exact⟨0,zs3 _,rfl,World.ownsRow_nil _ _ _ _,zJ⟩
 case round=>
  obtain⟨k,R,rfl,j,n⟩:=hrel;obtain⟨ps,a⟩:=zG (EP g m k);have z:Hid (ps.length<=k):=by rw[Hid,<-a];exact Wl g m k
  rw[a]at j;obtain⟨A1,C1,rfl⟩:=AX j.o;have q:=zH (Za g m k);rw[a]at q;by_cases H:k<4
  ·have i1:(k:Int)<4:=zO;have r:=zH (λW=>y.o k W H);have B:Hid (Bw wr (zw wr #[.bool m,zi (k:Int)] 55)):=zA _;have L:=zH (Blk.new wr 55 #[.bool m,zi (k:Int)]);obtain⟨b,I⟩:=zG (BF g m ⟨m,(k:Int)⟩);rw[I]at r q;clear a I
   cases b
   ·have s:Hid (EP g m (k+1)=ps):=by rw[Hid,q.o];simp
    go_wp2_with(go_at_call 13;refine(r.o _).mono ?_;rintro e w1 ⟨rfl,p⟩;have f:=zH (Ag B.o p);clear p)
    go_roundw
    case rel=>
     refine⟨k+1,by omega,by go_num,?_,zT n.o f.o⟩;rw[s.o];exact Ah j.o f.o
    case measure=>exact zM
   have s:Hid (EP g m (k+1)=ps++[⟨m,(k:Int)⟩]):=by rw[Hid,q.o];simp
   have b3':ps.length+1<=maxLen:=by have:=z.o;unfold maxLen;omega
   have b4':(ps.length+1)*16<=140737488355328:=by have:=z.o;omega
   go_wp2_with(first
    | (go_at_call 13;refine(r.o _).mono ?_;rintro e w1 ⟨rfl,p⟩;have f:=zH (Ag B.o p);obtain⟨x0,x1,x2,x3⟩:=EU L.o p;have N:=f.o.size;have O:=n.o.size;clear p)
    | (at_builtin;refine Bt (P:=prog) (by rfl) _ _ 153 (by rfl) w.heap.size 55 (.agg #[zF,zi 0]) 2 16 underlying153 eT rfl zD (.slice A1 ps.length C1) ps.length (ps.flatMap tuC) (by rfl) (Ah j.o (by exact Below.alo f.o _)) ⟨w1.heap.size,0,none⟩ 1 1 (tuC ⟨m,(k:Int)⟩) (by rfl) (by rfl) (EV (Blk.new w1 55 _)) (uA _) b3' b4' zQ ?_;intro v7 w7 C J Q;obtain⟨A7,c7,rfl⟩:=AX C))
   go_roundw
   case rel=>
    refine⟨k+1,by omega,by go_num,?_,Ax (n.o.trans ((Below.alo f.o _).mono n.o.size)) J zQ (λg e=>(j.o.lt g e).1)⟩;rw[s.o,zq5,zr7];refine zH ?_;simpa using C
   case measure=>exact zM
  obtain rfl:k=4:=zO;have M:=zH a;obtain⟨A,c,E,F,K⟩:=CJ (G:=Ji) (g:=λx:Az=>x) tZ j.o rfl (λt _=>rfl);rw[List.map_id']at F;injection E with E _ hC
  subst E;subst hC;have D:=zH (zu2 F K);clear F K a q
  go_wp2_with fail
  go_ret;rw[M.o];exact⟨A1,C1,rfl,D.o.1,D.o.2,n.o⟩
section
variable{p:Aw}
theorem PE(h:p.corners.length≠p.edges.length):AB p=1:=by rw[AB,if_pos h]
theorem Hp(h:p.corners.length=p.edges.length)(a:p.corners[j]?=some s)(b:DF s=true):AB p=3:=by
 rw[AB,if_neg (by simpa using h),if_pos (List.any_eq_true.2 ⟨s,zq2 a,b⟩)]
theorem Of(h:p.corners.length=p.edges.length)(b:∀(j:Nat)(s:Pt),p.corners[j]?=some s->DF s=false):AB p=Aq p.edges:=by
 rw[AB,if_neg (by simpa using h),if_neg];rw[List.any_eq_true];rintro⟨s,e,a⟩;obtain⟨j,f⟩:=List.getElem?_of_mem e;rw[b j s f]at a
 cases a
theorem Wm(h:AB p=0):p.corners.length=p.edges.length∧Aq p.edges=0∧p.edges.length<=16∧2<=p.edges.length∧∀(j:Nat)(e:As),p.edges[j]?=some e->AK e.line=0:=by
 unfold AB at h;split at h
 ·cases h
 split at h
 ·cases h
 rename_i f _;obtain⟨a,b,c⟩:=Ej h;exact⟨by simpa using f,h,a,b,c⟩
theorem S8(h:AB p=e)(a:e≠0):Cm p=e:=by rw[Cm,if_pos (by rw[h];exact a),h]
theorem Wn(h:AB p=0)(a:16<p.notches.length):Cm p=5:=by rw[Cm,if_neg (by simp[h]),if_pos a]
theorem RK(h:AB p=0)(b:¬16<p.notches.length)(f:p.notches[j]?=some n)(g:∀(i:Nat)(m:Int×Int),i<j->p.notches[i]?=some m->Fh p m=0)(a:Fh p n=e)(k:e≠0):Cm p=e:=by
 rw[Cm,if_neg (by simp[h]),if_neg b,ML f g (by rw[a];exact k),a]
theorem eW(h:AB p=0)(a:¬16<p.notches.length)(b:∀(i:Nat)(m:Int×Int),p.notches[i]?=some m->Fh p m=0):Cm p=0:=by
 rw[Cm,if_neg (by simp[h]),if_neg a];exact Ix b
theorem eX(h:n.1<0∨(p.edges.length:Int)<=n.1):Fh p n=3:=by rw[Fh,if_pos h]
theorem oE{e:As}(b:n.1=(k:Int))(a:p.edges[k]?=some e) :
  Fh p n=if Dc e.line<1∨1099511627776<Dc e.line∨n.2<0∨(Dc e.line:Int)<n.2 then 3 else 0:=by
 have g:=(zq1.1 a).1
 have f:p.edges.getD n.1.toNat ⟨ByteArray.empty,[]⟩=e:=by
  rw[b,Int.toNat_natCast,zq3,a];rfl
 rw[Fh,if_neg zO,f]
theorem Zc(h:p.widths.length≠p.edges.length):Fn p=1:=by rw[Fn,if_pos h]
theorem eY(h:p.widths.length=p.edges.length)(a:p.widths[j]?=some x)(b:x<0∨500<x):Fn p=3:=by
 rw[Fn,if_neg (by simpa using h),if_pos (List.any_eq_true.2 ⟨x,zq2 a,by simpa using b⟩)]
theorem eZ(h:p.widths.length=p.edges.length)(a:∀(j:Nat)(x:Int),p.widths[j]?=some x->0<=x∧x<=500):Fn p=0:=by
 rw[Fn,if_neg (by simpa using h),if_neg];rw[List.any_eq_true];rintro⟨x,b,e⟩;obtain⟨j,f⟩:=List.getElem?_of_mem b;have:=a j x f;simp at e;omega
variable{es:List Aw}
theorem Zd(h:AD p.name.data.toList=false):BD es p=1:=by rw[BD,if_pos h]
theorem Wo(h:AD p.name.data.toList=true)(a:p.grain≠1∧p.grain≠2∧p.grain≠4):BD es p=1:=by rw[BD,if_neg (by simp[h]),if_pos a]
theorem Wp(h:AD p.name.data.toList=true)(a:¬(p.grain≠1∧p.grain≠2∧p.grain≠4))(b:Dz p.name (es.map (·.name))=true):BD es p=7:=by
 rw[BD,if_neg (by simp[h]),if_neg a,if_pos b]
theorem T8(h:AD p.name.data.toList=true)(b:¬(p.grain≠1∧p.grain≠2∧p.grain≠4))(f:Dz p.name (es.map (·.name))=false)(a:AB p=e)(g:e≠0):BD es p=e:=by
 rw[BD,if_neg (by simp[h]),if_neg b,if_neg (by simp[f]),if_pos (by rw[a];exact g),a]
theorem T9(h:AD p.name.data.toList=true)(b:¬(p.grain≠1∧p.grain≠2∧p.grain≠4))(f:Dz p.name (es.map (·.name))=false)(g:AB p=0)(a:Cm p=e)(i:e≠0):BD es p=e:=by
 rw[BD,if_neg (by simp[h]),if_neg b,if_neg (by simp[f]),if_neg (by simp[g]),if_pos (by rw[a];exact i),a]
theorem Ua(h:AD p.name.data.toList=true)(a:¬(p.grain≠1∧p.grain≠2∧p.grain≠4))(b:Dz p.name (es.map (·.name))=false)(e:AB p=0)(f:Cm p=0):BD es p=Fn p:=by
 rw[BD,if_neg (by simp[h]),if_neg a,if_neg (by simp[b]),if_neg (by simp[e]),if_neg (by simp[f])]
end
section
variable{s:Al}
theorem PF(h:AD s.name.data.toList=false∨s.sizes.length=0):AM s=1:=by rw[AM,if_pos h]
theorem Ze(h:¬(AD s.name.data.toList=false∨s.sizes.length=0)){z:ByteArray}(a:s.sizes[j]?=some z)(b:Bl z.data.toList=false):AM s=1:=by
 rw[AM,if_neg h,if_pos];rw[List.all_eq_false];exact⟨z,zq2 a,by simp[b]⟩
theorem fA(h:∀(j:Nat)(z:ByteArray),s.sizes[j]?=some z->Bl z.data.toList=true):(s.sizes.all λz:ByteArray=>Bl z.data.toList)=true:=by
 rw[List.all_eq_true];intro z a;obtain⟨j,b⟩:=List.getElem?_of_mem a;exact h j z b
theorem PG(h:¬(AD s.name.data.toList=false∨s.sizes.length=0))(a:(s.sizes.all λz:ByteArray=>Bl z.data.toList)=true)(b:s.multiples.length≠s.sizes.length∨0∉s.multiples):AM s=1:=by
 rw[AM,if_neg h,if_neg (by simp[a]),if_pos b]
theorem Wq(h:¬(AD s.name.data.toList=false∨s.sizes.length=0))(a:(s.sizes.all λz:ByteArray=>Bl z.data.toList)=true)(b:¬(s.multiples.length≠s.sizes.length∨0∉s.multiples))(e:Di s.sizes=false):AM s=7:=by
 rw[AM,if_neg h,if_neg (by simp[a]),if_neg b,if_pos e]
theorem LT(h:¬(AD s.name.data.toList=false∨s.sizes.length=0))(a:(s.sizes.all λz:ByteArray=>Bl z.data.toList)=true)(b:¬(s.multiples.length≠s.sizes.length∨0∉s.multiples))(e:Di s.sizes=true)(f:12<s.sizes.length∨12<s.pieces.length∨12<s.uses.length):AM s=5:=by
 rw[AM,if_neg h,if_neg (by simp[a]),if_neg b,if_neg (by simp[e]),if_pos f]
theorem PH(h:¬(AD s.name.data.toList=false∨s.sizes.length=0))(a:(s.sizes.all λz:ByteArray=>Bl z.data.toList)=true)(b:¬(s.multiples.length≠s.sizes.length∨0∉s.multiples))(e:Di s.sizes=true)(f:¬(12<s.sizes.length∨12<s.pieces.length∨12<s.uses.length))(g:24<s.seams.length∨16<s.ops.length):AM s=5:=by
 rw[AM,if_neg h,if_neg (by simp[a]),if_neg b,if_neg (by simp[e]),if_neg f,if_pos g]
theorem oF(h:¬(AD s.name.data.toList=false∨s.sizes.length=0))(a:(s.sizes.all λz:ByteArray=>Bl z.data.toList)=true)(b:¬(s.multiples.length≠s.sizes.length∨0∉s.multiples))(e:Di s.sizes=true)(f:¬(12<s.sizes.length∨12<s.pieces.length∨12<s.uses.length))(g:¬(24<s.seams.length∨16<s.ops.length))(i:s.multiples[j]?=some m)(k:m < -100∨100<m):AM s=3:=by
 rw[AM,if_neg h,if_neg (by simp[a]),if_neg b,if_neg (by simp[e]),if_neg f,if_neg g,if_pos (List.any_eq_true.2 ⟨m,zq2 i,by simpa using k⟩)]
theorem oG(h:¬(AD s.name.data.toList=false∨s.sizes.length=0))(b:(s.sizes.all λz:ByteArray=>Bl z.data.toList)=true)(e:¬(s.multiples.length≠s.sizes.length∨0∉s.multiples))(f:Di s.sizes=true)(g:¬(12<s.sizes.length∨12<s.pieces.length∨12<s.uses.length))(i:¬(24<s.seams.length∨16<s.ops.length))(k:∀(j:Nat)(m:Int),s.multiples[j]?=some m->-100<=m∧m<=100):AM s=0:=by
 rw[AM,if_neg h,if_neg (by simp[b]),if_neg e,if_neg (by simp[f]),if_neg g,if_neg i,if_neg];rw[List.any_eq_true];rintro⟨m,a,l⟩;obtain⟨j,n⟩:=List.getElem?_of_mem a;have:=k j m n;simp at l;omega
theorem Wr(h:AM s=e)(a:e≠0):AA s=e:=by rw[AA,if_pos (by rw[h];exact a),h]
def F6(s:Al)(i:Nat):Int:=match s.pieces[i]? with|some p=>BD (s.pieces.take i) p|none=>0
theorem oH{p:Aw}(h:s.pieces[i]?=some p):F6 s i=BD (s.pieces.take i) p:=by rw[F6,h]
theorem RL:EI s=Cj ((List.range s.pieces.length).map (F6 s)):=rfl
theorem Ws(h:AM s=0)(hi:i<s.pieces.length)(g:∀j,j<i->F6 s j=0)(a:F6 s i=e)(b:e≠0):AA s=e:=by
 have f:EI s=e:=by rw[RL,Kh hi g (by rw[a];exact b),a]
 rw[AA,if_neg (by simp[h]),if_pos (by rw[f];exact b),f]
theorem Wt(a:∀j,j<s.pieces.length->F6 s j=0):EI s=0:=by rw[RL,Iw a]
theorem fB(h:AM s=0)(e:EI s=0)(hi:s.uses[i]?=some u)(f:∀(j:Nat)(v:Dw),j<i->s.uses[j]?=some v->Ie s v=0)(a:Ie s u=3):AA s=3:=by
 have b:=ML hi f (by rw[a];decide);rw[AA,if_neg (by simp[h]),if_neg (by simp[e]),if_pos (by rw[b,a];decide),b,a]
theorem LU(h:AM s=0)(b:EI s=0)(f:∀(j:Nat)(v:Dw),s.uses[j]?=some v->Ie s v=0){m:Gs}(hi:s.seams[i]?=some m)(g:∀(j:Nat)(v:Gs),j<i->s.seams[j]?=some v->LD s v=0)(a:LD s m=e)(k:e≠0):AA s=e:=by
 have l:=ML hi g (by rw[a];exact k);rw[AA,if_neg (by simp[h]),if_neg (by simp[b]),if_neg (by rw[Ix f];simp),l,a]
theorem oI(h:AM s=0)(a:EI s=0)(b:∀(j:Nat)(v:Dw),s.uses[j]?=some v->Ie s v=0)(e:∀(j:Nat)(v:Gs),s.seams[j]?=some v->LD s v=0):AA s=0:=by
 rw[AA,if_neg (by simp[h]),if_neg (by simp[a]),if_neg (by rw[Ix b];simp),Ix e]
theorem fC{p:Aw}(b:piece=(k:Int))(a:s.pieces[k]?=some p):Dd s piece edge=(decide (0<=edge)&&decide (edge<(p.edges.length:Int))):=by
 have g:=(zq1.1 a).1;subst b;rw[Dd,Int.toNat_natCast,zq3,zr5,a];have e:decide ((0:Int)<=(k:Int))=true:=by simp
 have f:decide ((k:Int)<(s.pieces.length:Int))=true:=by simp;omega
 rw[e,f];rfl
theorem PI(h:piece<0∨(s.pieces.length:Int)<=piece):Dd s piece edge=false:=by
 rw[Dd];rcases h with h|h
 ·have:decide ((0:Int)<=piece)=false:=by simp;omega
  rw[this];rfl
 have:decide (piece<(s.pieces.length:Int))=false:=by simp;omega
 rw[this];simp
end

theorem LW(v u:Value)(j k:Nat)(p q:Rat)(w:World)(ha:BK w v j p)(hb:BK w u k q)(hj:1<=j)(hk:1<=k)(aj:j<=100000)(ak:k<=100000) :
  CP 264 #[v,u] w (KL (p*q) w):=by
 obtain⟨f,A,n,c,B,m,d,x,y,rfl,U,V,X,h4,h5⟩:=ha;obtain⟨b,A2,n2,c2,B2,m2,d2,x2,y2,rfl,g1,g2,g3,g4,g5⟩:=hb;have M:=λW (z:Bw w W)=>DW f A n c x B m d y W (U.on z) (V.on z) j X h4 hj zO
 rw[h5]at M;have N:=λW (z:Bw w W)=>DW b A2 n2 c2 x2 B2 m2 d2 y2 W (g1.on z) (g2.on z) k g3 g4 hk zO
 rw[g5]at N;have M:=zH M;have N:=zH N;have z:Bw w (zw (zw (zw w #[.bool f,.slice A n c,.slice B m d] 217) #[.bool b,.slice A2 n2 c2,.slice B2 m2 d2] 217) #[zF,zn,zn] 217):=((zA _).alloc zP _).alloc zQ _;have X0:Blk (zw (zw (zw w #[.bool f,.slice A n c,.slice B m d] 217) #[.bool b,.slice A2 n2 c2,.slice B2 m2 d2] 217) #[zF,zn,zn] 217) w.heap.size 217 #[.bool f,.slice A n c,.slice B m d]:=((Blk.new w _ _).alloc _).alloc _;have Y0:Blk (zw (zw (zw w #[.bool f,.slice A n c,.slice B m d] 217) #[.bool b,.slice A2 n2 c2,.slice B2 m2 d2] 217) #[zF,zn,zn] 217) (w.heap.size+1) 217 #[.bool b,.slice A2 n2 c2,.slice B2 m2 d2]:=(Blk.new' (zw w #[.bool f,.slice A n c,.slice B m d] 217) 217 #[.bool b,.slice A2 n2 c2,.slice B2 m2 d2] zP).alloc _;have R0:Blk (zw (zw (zw w #[.bool f,.slice A n c,.slice B m d] 217) #[.bool b,.slice A2 n2 c2,.slice B2 m2 d2] 217) #[zF,zn,zn] 217) (w.heap.size+1+1) 217 #[zF,zn,zn]:=Blk.new' (zw (zw w #[.bool f,.slice A n c,.slice B m d] 217) #[.bool b,.slice A2 n2 c2,.slice B2 m2 d2] 217) 217 #[zF,zn,zn] zP;have K:=zH X0;have L:=zH Y0;have Q:=zH R0;clear U V X h4 h5 g1 g2 g3 g4 g5 X0 Y0 R0;have al:w.heap.size<w.heap.size+1+1:=zO;have am:w.heap.size<w.heap.size+1+1+1:=zO;have an:¬w.heap.size+1=w.heap.size:=zO;go_enter func264,ntmps264
 go_upto_region 1 with fail
 go_cut [4] (λs4 wx=>s4=.pointer (sa (w.heap.size+1+1) 0)∧T3 true p q j k w wx)
 case first=>
  go_region_with (first
   | (go_at_call_of 209 (Value.agg #[.bool f,.slice A n c,.slice B m d]);go_must((refine(M.o _ (by exact z.drew)).mono ?_);rintro e w1 ⟨ng,C,cn,cc,E,en,ec,xx,yy,rfl,a1,a2,a3,a4,a5,a6,a⟩;obtain⟨ao,ap⟩:=Cc a;have aq:w.heap.size+1+1<w1.heap.size:=(by have:=a.size;simp at this;omega);have ar:w.heap.size<w1.heap.size:=zO;have au:w.heap.size+1<w1.heap.size:=zO))
   | (go_at_call 209;go_must((refine(N.o _ (by exact z.drew.trans (a.mono z.drew.size))).mono ?_);rintro e w2 ⟨ng2,C2,cn2,cc2,E2,en2,ec2,xx2,yy2,rfl,b1,b2,b3,b4,b5,b6,F⟩;obtain⟨ae,af⟩:=Cc F)))
  all_goals
   have X2:=(K.o.below (w':=w1) (zX a)).below F;have Y2:=(L.o.below (w':=w1) (zX a)).below F;have R2:=(Q.o.below (w':=w1) (zX a)).below F;have J:Bw w w1:=z.trans (Below.mono (zX a) z.size);have HE:=zH (LO (t:=true) (w:=w) (a1.on F) (a2.on F) a3 a4 a5 a6 b1 b2 b3 b4 b5 b6 X2 Y2 (by intro _;exact R2) (zT J F) (NoU.blk X2 zP) (NoU.blk Y2 zP));clear X2 Y2 R2 a1 a2 b1 b2 J
   go_wp2_with fail
   go_meet;exact⟨rfl,HE.o⟩
 case rest=>
  clear K L Q M N z;obtain⟨rfl,l,A1,n1,c1,B1,m1,d1,x1,y1,r,A3,n3,c3,B3,m3,d3,x3,y3,Y,Z,hZ,a1,a2,a3,a4,a5,a6,b1,b2,b3,b4,b5,b6,O⟩:=hcut;have K:=zH Y;have L:=zH Z;have Q:=zH (hZ rfl);have R:=zH (zu2 a1 (zu2 a2 (zu2 b1 b2)));have hs:=six Y Z;have a0:y1*y3≠0:=Nat.mul_ne_zero a3 b3
  have ld:nl (y1*y3)<=1000000:=by
   have U:=Gj y1 y3;have V:=a2.trimmed.1;have X:=b2.trimmed.1;omega
  have l1:nl (sgn l x1*sgn r x3).natAbs<=1000000:=by
   refine zs0 (Er _ _ (j:=j) (k:=k) ?_ ?_) zO
   ·rw[B7];exact zs0 a1.trimmed.1 a5
   rw[B7];exact zs0 b1.trimmed.1 b5
  have S:=λW C cn cc D dn dc (h:Sl W W.heap.size C cn (AC (Aj (sgn l x1*sgn r x3).natAbs))) (hc:cn<=cc) (a7:cn<=1000000) (g:Sl W W.heap.size D dn (AC (Aj (y1*y3)))) (hd:dn<=dc) (a8:dn<=1000000)=>Hk (Ay (sgn l x1*sgn r x3)) C cn cc (sgn l x1*sgn r x3).natAbs D dn dc (y1*y3) W (.of_limbs h hc) (.of_limbs g hd) a7 a8 a0
  rw[CV,<-Ty,a4,b4]at S;have S:=zH S;clear Y Z hZ a1 a2 b1 b2;obtain⟨s0,s1,s2,s3,s4,s5⟩:=hs
  go_wp2_with fail
  have ne0:¬w.heap.size+1+1=w.heap.size:=zO;have ne1:¬w.heap.size=w.heap.size+1+1:=zO;have ne2:¬w.heap.size+1+1=w.heap.size+1:=zO;have ne3:¬w.heap.size+1=w.heap.size+1+1:=zO
  go_region_held3(λw'=>w'.cell? (ad w.heap.size 0)=some (.bool l)∧w'.cell? (ad w.heap.size 1)=some (.slice A1 n1 c1)∧w'.cell? (ad w.heap.size 2)=some (.slice B1 m1 d1)∧w'.cell? (ad (w.heap.size+1) 0)=some (.bool r)∧w'.cell? (ad (w.heap.size+1) 1)=some (.slice A3 n3 c3)∧w'.cell? (ad (w.heap.size+1) 2)=some (.slice B3 m3 d3))
   (go_keep)
   (first
   | (go_at_call 211;go_must((refine(GF l A1 n1 c1 x1 r A3 n3 c3 x3 _ (by exact R.o.1) (by exact R.o.2.2.1) zO zO).mono ?_);rintro e w3 ⟨C3,k3,e3,rfl,r3,a9,G⟩;have s:=zH (show Bw wc w3 from(zX G));have ag:=six (K.o.below s.o) (L.o.below s.o);have lk3:k3<=1000000:=(by rw[<-r3.ulen];exact l1);have HM:=zH r3;clear r3;clear G))
   | (go_at_call 259;go_must((refine(JA B1 B3 m1 m3 d1 d3 y1 y3 _ (by exact R.o.2.1.on s.o) (by exact R.o.2.2.2.on s.o) zO zO).mono ?_);rintro e w4 ⟨C4,k4,e4,rfl,r4,aa,P⟩;have H:=zH (show Bw wc w4 from s.o.trans ((P:Bw w3 w4).mono s.o.size));have ah:=six (K.o.below H.o) (L.o.below H.o);have lk4:k4<=1000000:=(by rw[<-r4.ulen];exact ld);have ab:=zH (HM.o.on P);have ac:=zH r4;clear r4;clear P))
   | (go_at_call 263;go_must((refine(S.o _ C3 k3 e3 C4 k4 e4 ab.o a9 lk3 ac.o aa lk4).mono ?_);rintro e w5 ⟨Cf,nf,cf,Ef,mf,df,rfl,rf1,rf2,rf3,rf4,T⟩;have I:=zH (show Bw wc w5 from H.o.trans ((T:Bw w4 w5).mono H.o.size));have ai:=six (K.o.below I.o) (L.o.below I.o);have Zf:=Q.o.below I.o;have HF:=zH (NN rf1 rf2 rf3 rf4 Zf zP (zT O I.o) zO);have k0:=Zf.c (i:=0) rfl;have k1:=Zf.c (i:=1) rfl;have k2:=Zf.c (i:=2) rfl;have y0':=Zf.frozen 0;have y1':=Zf.frozen 1;have y2':=Zf.frozen 2;clear rf1 rf3 Zf;clear T)))
  go_wp2_with fail
  refine bodyPost_ret (v:=.agg #[.bool (Ay (p*q).num),.slice Cf nf cf,.slice Ef mf df]) (by simp[results,results264,go_sem,k0,k1,k2]) rfl ?_;exact HF.o
end Go.Proofs.YteafekbddckemaaGreatDoor
