/- Parts of the proof. -/
import Derived.Test.YteafekbddckemaaGreatDoorH35
import Derived.Test.YteafekbddckemaaGreatDoorH36
set_option maxRecDepth 100000
set_option maxHeartbeats 40000000
namespace Go.Proofs.YteafekbddckemaaGreatDoor
open Go.Proofs.Tryz Go.RowKit
open Go.Lib hiding intOf
variable{A:oA}{B b i j k m:Nat}{S r vs:lP}{W w w2:World}{a v:Value}{cs:aV}{d p q:Pt}{each ws:List Int}{g:List CR}{l:List As}{s y z:Int}{t:TypeId}{x:CR}{α β:Type}
def Ee(vs:lP)(each:List Int):List Pt:=(List.range vs.length).map λi=>MT (Bb (AQ vs)) (each.getD i 0) (vtx vs i) (vtx vs (i+1))
def Vw(ws:List Int):Bool:=ws.any λw=>decide (w<0)||decide (500<w)
def Dr(l:List As)(ws:List Int):Except Int (List Pt):=
 if Aq l≠0 then .error (Aq l)else if ws.length≠l.length then .error 1 else if Vw ws=true then .error 3 else .ok (Ee (AL l) (CI l ws))
theorem Nv(h:k<vs.length):(Ee vs each)[k]?=some (MT (Bb (AQ vs)) (each.getD k 0) (vtx vs k) (vtx vs (k+1))):=by
 unfold Ee;rw[zr5,zt4 h];rfl
theorem Fc(vs:lP)(each:List Int):(Ee vs each).length=vs.length:=by unfold Ee;simp
theorem Qx(x:Int):Bb x = -1∨Bb x=0∨Bb x=1:=by
 unfold Bb;split
 ·exact .inl rfl
 split
 ·exact .inr (.inr rfl)
 exact .inr (.inl rfl)
theorem SF(e:inG p)(f:inG q)(b:p≠q):∃n r:Nat,(q.1-p.1)*(q.1-p.1)+(q.2-p.2)*(q.2-p.2)=(n:Int)∧n<1125899906842624∧CU n=r∧1<=r∧r<=33554432:=by
 obtain⟨p1,p2,p3,p4⟩:=e;obtain⟨q1,q2,q3,q4⟩:=f;obtain⟨x,g⟩:∃x:Nat,(q.1-p.1).natAbs=x:=⟨_,rfl⟩;obtain⟨y,i⟩:∃y:Nat,(q.2-p.2).natAbs=y:=⟨_,rfl⟩;have e1:(q.1-p.1)*(q.1-p.1)=((x*x:Nat):Int):=by rw[<-g,Int.natCast_mul,Int.natAbs_mul_self']
 have e2:(q.2-p.2)*(q.2-p.2)=((y*y:Nat):Int):=by rw[<-i,Int.natCast_mul,Int.natAbs_mul_self']
 have lx:x<=2097152:=zO;have ly:y<=2097152:=zO;have mx:=Nat.mul_le_mul lx lx;have my:=Nat.mul_le_mul ly ly
 have j:1<=x*x+y*y:=by
  rcases Nat.eq_zero_or_pos x with h|h
  ·rcases Nat.eq_zero_or_pos y with a|a
   ·exact absurd (Prod.ext zO zO) b
   have:=Nat.mul_le_mul a a;omega
  have:=Nat.mul_le_mul h h;omega
 obtain⟨r1,r2⟩:=Mk (x*x+y*y);refine⟨x*x+y*y,_,by rw[e1,e2];omega,by omega,rfl,?_,?_⟩
 ·rcases Nat.eq_zero_or_pos (CU (x*x+y*y))with h|h
  ·rw[h]at r2;omega
  exact h
 rcases Nat.lt_or_ge 33554432 (CU (x*x+y*y))with h|h
 ·have:=Nat.mul_le_mul h h;omega
 exact h
def sY(x:Except Int (List Pt))(w:World)(e:Ending)(w':World):Prop:=Bw w w'∧match x with
 | .ok r=>∃A c,e=.returned (.tuple #[.slice A r.length c,zi 0])∧Ab 2 Ad w' A r.length r∧r.length<=c
 | .error z=>e=.returned (.tuple #[zn,zi z])
theorem wK(h:Aq l≠0):Dr l ws=.error (Aq l):=if_pos h
theorem wL(h:Aq l=0)(a:ws.length≠l.length):Dr l ws=.error 1:=by unfold Dr;rw[if_neg (by rw[h];simp),if_pos a]
theorem Yd(h:Aq l=0)(a:ws.length=l.length)(b:ws[k]?=some z)(e:z<0∨500<z):Dr l ws=.error 3:=by
 unfold Dr Vw;rw[if_neg (by rw[h];simp),if_neg (by rw[a];simp),if_pos];rw[List.any_eq_true];exact⟨z,zq2 b,by simpa using e⟩
theorem yP(h:Aq l=0)(e:ws.length=l.length)(f:∀j,j<ws.length->∃z,ws[j]?=some z∧0<=z∧z<=500):Dr l ws=.ok (Ee (AL l) (CI l ws)):=by
 unfold Dr Vw;rw[if_neg (by rw[h];simp),if_neg (by rw[e];simp),if_neg];rw[List.any_eq_true];rintro⟨z,g,i⟩;obtain⟨j,a,rfl⟩:=List.getElem_of_mem g;obtain⟨y,b,k,m⟩:=f j a;rw[zq0 a]at b;have:=zs6 b;simp only[Bool.or_eq_true,decide_eq_true_eq]at i;omega
theorem Qy{B:oA}(h:Sl w w.heap.size B m (Ar ws))(j:k<m):∃b a z,B=some ⟨b,a,none⟩∧b<w.heap.size∧ws[k]?=some z∧zL w b (a+k) (zi z):=by
 obtain⟨b,a,e,g,i⟩:=h.2 zO;have f:k<ws.length:=by have:=h.1;simp only[Ar,zq6]at this;omega
 exact⟨b,a,ws[k],e,g,zq0 f,i k _ (by simp[Ar,zq0 f])⟩
theorem AaV{g:Nat}{b:Value}(h:Blk w g t #[a,b]):zL w g 0 a∧zL w g 1 b:=⟨h.c rfl,h.c rfl⟩
theorem Io(a b:Int)(A B:Nat)(e : -(A:Int)<=a∧a<=A)(f : -(B:Int)<=b∧b<=B) : -((A*B:Nat):Int)<=a*b∧a*b<=((A*B:Nat):Int):=by
 have h:=Nat.mul_le_mul (show a.natAbs<=A by omega) (show b.natAbs<=B by omega);rw[<-Int.natAbs_mul]at h;omega
theorem Vx(h:Aq l=0):An (AL l)=0:=by
 unfold Aq at h;split at h
 ·cases h
 split at h
 ·cases h
 split at h
 ·rename_i a;exact absurd h a
 split at h
 ·cases h
 exact h
theorem aG(l:List α)(d : α)(g : α->β):(List.range l.length).map (λi=>g (l.getD i d))=l.map g:=by
 apply List.ext_getElem zP;intro i a b;have hi:i<l.length:=by simpa using a
 simp[zq0 hi]
theorem jT(l:List As)(ws:List Int):(CI l ws).length=(AL l).length:=by
 unfold CI AL;rw[List.length_flatMap,List.length_flatMap];congr 1;have h:=aG l ⟨ByteArray.empty,[]⟩ (λe:As=>e.line.length-1);simp only[List.length_replicate,List.length_dropLast];exact h
theorem sZ(e:ws.length=l.length)(h:∀j,j<ws.length->∃z,ws[j]?=some z∧0<=z∧z<=500):∀z∈CI l ws,0<=z∧z<=500:=by
 intro z a;unfold CI at a;obtain⟨i,hi,f⟩:=List.mem_flatMap.1 a;have b:i<ws.length:=by rw[e];simpa using hi
 obtain⟨y,g,k,m⟩:=h i b;have:=List.eq_of_mem_replicate f;rw[zq3,g]at this;simp only[Option.getD_some]at this;omega
theorem aH(A:oA)(n c:Nat)(B:oA)(m d:Nat)(l:List As)(ws:List Int)(w:World)(V:Ab 2 CQ w A n l)(hc:n<=c)(hs:IT l)(hb:Sl w w.heap.size B m (Ar ws))(hm:m<=4611686018427387904) :
  CP 133 #[.slice A n c,.slice B m d] w (sY (Dr l ws) w):=by
 have I:=zH (SE A n c l w V hc hs);have HA:=zH V;have HW:=zH hb;have al:=V.len;have Z:ws.length=m:=by have:=hb.1;simpa[Ar]using this
 have a0:=zH Z;have am:=zH al;clear V hb;by_cases r:Aq l=0
 ·rw[Nu r]at I;by_cases an:m=n
  ·subst an;have J:((m:Int) == (m:Int))=true:=by simp
   go_enter func133,ntmps133;go_wp2_with(go_at_call 134;go_must((refine I.o.mono ?_);rintro e w1 ⟨f,A1,c1,rfl,X,a1⟩;have HV:=zH X;have a:=zH f;clear X f))
   go_loopw[9,35,36,37,38,39,40,41,42,43,44,45] (λ_ i _ _ _ _ _ _ _ _ _ _ wr=>∃k:Nat,k<=m∧i=zi (k:Int)∧Hid (∀j,j<k->∃z,ws[j]?=some z∧0<=z∧z<=500)∧wr=w1) (λ_ i _ _ _ _ _ _ _ _ _ _ _=>m-(intOf i).toNat)
   case atStart=>exact⟨0,zs3 _,rfl,λj Y=>absurd Y zO,rfl⟩
   case round=>
    obtain⟨k,hk,rfl,HK,rfl⟩:=hrel;by_cases ao:k<m
    ·obtain⟨b,ap,z,rfl,aq,C,c0⟩:=Qy (HW.o.on a.o) ao;obtain⟨i1,i2⟩:=zI (k:=k) (n:=m) (by omega);have HZ:=zH C;clear C;by_cases ar:z<0
     ·have t:=zH (Yd (ws:=ws) r zO HZ.o (.inl ar))
      go_wp2_with fail
      refine bodyPost_ret (v:=.tuple #[zn,zi 3]) (by simp[results,results133,go_sem]) rfl ?_;rw[t.o];exact⟨a.o,rfl⟩
     by_cases au:500<z
     ·have t:=zH (Yd (ws:=ws) r zO HZ.o (.inr au))
      go_wp2_with fail
      refine bodyPost_ret (v:=.tuple #[zn,zi 3]) (by simp[results,results133,go_sem]) rfl ?_;rw[t.o];exact⟨a.o,rfl⟩
     have av:Hid (∀j,j<k+1->∃z,ws[j]?=some z∧0<=z∧z<=500):=λj Y=>by
      rcases Nat.lt_or_ge j k with h|h
      ·exact HK.o j h
      obtain rfl:j=k:=zO;exact⟨z,HZ.o,by omega,by omega⟩
     go_wp2_with fail
     go_roundw
     case rel=>exact⟨k+1,by omega,by go_num,av,trivial⟩
     case measure=>exact zM
    obtain rfl:k=m:=zO;have t:=zH (yP (ws:=ws) r zO (by rw[Z];exact HK.o));have a2:=Ej r;have K:=Vx r;have a3:=jT l ws;have a4:=sZ (l:=l) (a0.o.trans am.o.symm) (by rw[a0.o];exact HK.o)
    have a5:∀e∈l,2<=e.line.length∧e.line.length<=40:=λe he=>by
     obtain⟨j,Y,rfl⟩:=List.getElem_of_mem he;have:=CB (a2.2.2 j _ (zq0 Y));exact⟨this.2.1,this.1⟩
    obtain⟨F,bf,h3⟩:=Fs K;have HO:=zH (Hy A1 _ c1 _ wr HV.o a1 zO);have aw:=zH (λW (h:Bw wr W)=>Vv A k c B k d l ws W ((HA.o.on Bq a.o).on Bq h) ((HW.o.on a.o).on h) zO (zs2 _) a5);have L:=(DN K).2.2.2;generalize AL l=vs at *
    generalize CI l ws=each at *
    have ai:=zH L;have a6:=zH F;have ax:=zH a4;have a7:=zH a3;have ay:=λW=>E7 vs.length zO W
    clear L F a4 a3 a2 K a5
    go_wp2_with(first
     | (go_at_call 139;go_must((refine HO.o.mono ?_);rintro e w3 ⟨rfl,a8⟩;have M:=zH a8;clear a8))
     | (go_at_call 135;go_must((refine(aw.o _ M.o).mono ?_);rintro e w4 ⟨A4,c4,rfl,a9,bg,G⟩;have az:=zH a9;have N:=zH (zT M.o G);clear a9 G)))
    clear ay;have b0:=zH (Kq w4 vs.length (Ee vs each))
    go_loopw[13,14,15,16,17,18,19,56,57,58,59,60,61,62,63,64,65,66,67,68,69,70,71,72,73,74,75,76,77,78,79,80,81,82,83,84,85,86,87,88,89,90,91,92,93,94,95,96,97,98,99,100,101,102,103,104,105,106,107,108] (λ_ _ _ _ _ _ _ i _ _ _ _ _ _ _ _ _ _ _ _ _ _ _ _ _ _ _ _ _ _ _ _ _ _ _ _ _ _ _ _ _ _ _ _ _ _ _ _ _ _ _ _ _ _ _ _ _ _ _ _ wq=>∃k:Nat,k<=vs.length∧i=zi (k:Int)∧Hid (F5 wq w4.heap.size vs.length (Ee vs each) k∧Bw w4 wq)) (λ_ _ _ _ _ _ _ i _ _ _ _ _ _ _ _ _ _ _ _ _ _ _ _ _ _ _ _ _ _ _ _ _ _ _ _ _ _ _ _ _ _ _ _ _ _ _ _ _ _ _ _ _ _ _ _ _ _ _ _ _=>vs.length-(intOf i).toNat)
    case atStart=>exact⟨0,zs3 _,rfl,b0.o,zA _⟩
    case round=>
     obtain⟨k,hk,rfl,y⟩:=hrel;by_cases s:k<vs.length
     ·obtain⟨m,O⟩:=zG ((k+1)%vs.length);have lm:m<vs.length:=by rw[<-O];exact Nat.mod_lt _ zO
      have hV:=(HV.o.on Aa N.o).on Aa y.o.2;obtain⟨b,ap,p,rfl,aq,hp,c0,c1⟩:=Ap hV s;obtain⟨b2,bc,q,P,_,J,c2,c3⟩:=Ap hV lm;injection P with P
      injection P with e1 e2
      subst e1;subst e2
      have Q:vtx vs k=p:=by
       have:=Ew (p:=vs) (i:=k) s;rw[hp]at this;exact(zs6 this).symm
      have R:vtx vs (k+1)=q:=by
       have:=Ew (p:=vs) (i:=m) lm;rw[J]at this;rw[<-EZ (p:=vs) (k+1),O];exact(zs6 this).symm
      have aa:p≠q:=λh=>by
       have:=Vp (p:=vs) s h3 (by rw[Q,R];exact h);rw[ai.o]at this
       cases this
      have gp:=a6.o p (zq2 hp);have gq:=a6.o q (zq2 J);obtain⟨sn,sr,b3,aj,ab,bd,be⟩:=SF gp gq aa;obtain⟨b4,ak,z,rfl,G,C,cz⟩:=Qy (az.o.on y.o.2) (k:=k) (by rw[a7.o];exact s);have zb:=ax.o z (zq2 C);have x:=Nv (vs:=vs) (each:=each) s;rw[Q,R,zq3,C,Option.getD_some]at x;have ac:=Qx (AQ vs);obtain⟨sw,ae⟩:=zG (Bb (AQ vs)*z);have swb : -500<=sw∧sw<=500:=by rcases ac with h|h|h <;> rw[h]at ae <;> omega
      have bh:IntKind.i64.wrap sw=sw:=zs5 _ zO;have bi:IntKind.i64.wrap (sn:Int)=(sn:Int):=zs5 _ zO;unfold MT at x;rw[ae,b3,Int.toNat_natCast,ab]at x;simp only at x;have b5:=zH x;obtain⟨p1,p2,p3,p4⟩:=gp;obtain⟨q1,q2,q3,q4⟩:=gq;have bx:=Io (q.1-p.1) (q.1-p.1) 2097152 2097152 zO zO;have by_:=Io (q.2-p.2) (q.2-p.2) 2097152 2097152 zO zO;have b1:=Io sw (q.2-p.2) 500 2097152 zO zO;have b2:=Io (-sw) (q.1-p.1) 500 2097152 zO zO;have w1:IntKind.i64.wrap ((q.1-p.1)*(q.1-p.1))=(q.1-p.1)*(q.1-p.1):=zs5 _ zO;have w2:IntKind.i64.wrap ((q.2-p.2)*(q.2-p.2))=(q.2-p.2)*(q.2-p.2):=zs5 _ zO;have w3:IntKind.i64.wrap (sw*(q.2-p.2))=sw*(q.2-p.2):=zs5 _ zO;have w4':IntKind.i64.wrap (-sw*(q.1-p.1)) = -sw*(q.1-p.1):=zs5 _ zO;have i1:(0:Int)<=(k:Int):=zO;have i2:(k:Int)<(vs.length:Int):=zO;have i3:IntKind.i64.wrap ((k:Int)+1)=(k:Int)+1:=zs5 _ zO;have i4:((k:Int)+1).tmod (vs.length:Int)=(m:Int):=by rw[<-O];rfl
      have i5:¬(vs.length:Int)=0:=zO;have i6:(0:Int)<=(m:Int):=zO;have i7:(m:Int)<(vs.length:Int):=zO;have i8:(k:Int)<(each.length:Int):=by rw[a7.o];exact i2
      have af:=zH (λW=>jQ sn W aj);rw[ab]at af;have b6:=zH (λW=>Qv (sw*(q.2-p.2)) (sr:Int) W zO zO zO zO);have b7:=zH (λW=>Qv (-sw*(q.1-p.1)) (sr:Int) W zO zO zO zO);have H:Bw wr ((wr.alloc (.cells #[zi p.1,zi p.2] 56)).alloc (.cells #[zi q.1,zi q.2] 56)):=(zA _).alloc zP _;have X14:=(Blk.new wr 56 #[zi p.1,zi p.2]).alloc (.cells #[zi q.1,zi q.2] 56);have X15:=Blk.new' (wr.alloc (.cells #[zi p.1,zi p.2] 56)) 56 #[zi q.1,zi q.2] (g:=wr.heap.size+1) zP;have ag:=y.o.1.below H;have ah:=y.o.2.trans (H.mono y.o.2.size);have cz':=(H.cell (p:=ad b4 (ak+k)) G).trans cz;have bj:w4.heap.size<wr.heap.size:=y.o.1.choose_spec.1.lt;clear hp J Q R aa x hV C ac
      go_wp2_with fail
      generalize(wr.alloc (.cells #[zi p.1,zi p.2] 56)).alloc (.cells #[zi q.1,zi q.2] 56)=W1 at *
      obtain⟨x0,x1⟩:=AaV X14;obtain⟨y0,y1⟩:=AaV X15;have S:=zH ag;have T:=zH ah;clear ag ah X14 X15 H cz c0 c1 c2 c3;go_quiet (fail)
      have D:F5 (W1.drewN nq) w4.heap.size vs.length (Ee vs each) k:=S.o;have U:Bw w4 (W1.drewN nq):=Ai T.o nq;clear x0 x1 y0 y1 S T cz';generalize W1.drewN nq=W2 at *
      obtain⟨z0,z1,d0,d1,d2,d3,bk⟩:=LQ D s;have b8:=zH (M4 D b5.o s);have b9:=zH ((U.setCell (p:=ad w4.heap.size (k*2)) (zs2 _) (zi (Bg (sw*(q.2-p.2)) (sr:Int)))).setCell (p:=ad w4.heap.size (k*2+1)) (zs2 _) (zi (Bg (-sw*(q.1-p.1)) (sr:Int))));clear D U
      go_wp2_with(first
       | (go_at_call 177;go_must((refine(af.o _).mono ?_);rintro e w5 ⟨rfl,rfl⟩))
       | (go_at_call_of 178 (Value.int .i64 (sw*(q.2-p.2)));(refine(b6.o _).mono ?_);rintro e w5 ⟨rfl,rfl⟩)
       | (go_at_call 178;go_must((refine(b7.o _).mono ?_);rintro e w5 ⟨rfl,rfl⟩)))
      go_roundw
      case rel=>exact⟨k+1,by omega,by go_num,b8.o,b9.o⟩
      case measure=>exact zM
     obtain rfl:k=vs.length:=zO;have ba:=zH (y.o.1.done (Fc vs each));have bb:=zH (a.o.trans ((N.o.trans (y.o.2.mono N.o.size)).mono a.o.size))
     go_wp2_with fail
     refine bodyPost_ret (v:=.tuple #[.slice (sa w4.heap.size 0) vs.length vs.length,zi 0]) (by simp[results,results133,go_sem]) rfl ?_;rw[t.o];refine⟨bb.o,some ⟨w4.heap.size,0,none⟩,vs.length,?_,?_,?_⟩
     ·rw[Fc]
     ·rw[Fc];exact ba.o
     rw[Fc];exact zs2 _
  have t:=zH (wL (ws:=ws) r zO);have J:((m:Int) == (n:Int))=false:=by simp;omega
  go_enter func133,ntmps133;go_wp2_with(go_at_call 134;go_must((refine I.o.mono ?_);rintro e w1 ⟨f,A1,c1,rfl,X,a1⟩;have a:=zH f;clear X f))
  refine bodyPost_ret (v:=.tuple #[zn,zi 1]) (by simp[results,results133,go_sem]) rfl ?_;rw[t.o];exact⟨a.o,rfl⟩
 rw[Vu r]at I;have t:=zH (wK (ws:=ws) r);obtain⟨E,hE⟩:=zG (Aq l);rw[hE]at I t r;have C:(E == 0)=false:=by simpa using r
 clear hE;go_enter func133,ntmps133;go_wp2_with(go_at_call 134;go_must((refine I.o.mono ?_);rintro e w1 ⟨f,rfl⟩;have a:=zH f;clear f))
 refine bodyPost_ret (v:=.tuple #[zn,zi E]) (by simp[results,results133,go_sem]) rfl ?_;rw[t.o];exact⟨a.o,rfl⟩
def Aaw(r:Except Int (List As))(x:Aw)(w:World)(e:Ending)(w':World):Prop:=∃(E1:oA)(n1 c1:Nat)(N1:oA)(n2 c2:Nat)(C1:oA)(n3 c3:Nat)(D1:oA)(n4 c4:Nat),Bw w w'∧PcA w' x E1 n1 c1 N1 n2 c2 C1 n3 c3 D1 n4 c4∧match r with
 | .error z=>e=.returned (.tuple #[zn,.agg #[.string x.name,.slice E1 n1 c1,zi x.grain,.slice N1 n2 c2,.slice C1 n3 c3,.slice D1 n4 c4,.bool x.match_],zi z])
 | .ok es=>∃A c,e=.returned (.tuple #[.slice A es.length c,.agg #[.string x.name,.slice E1 n1 c1,zi x.grain,.slice N1 n2 c2,.slice C1 n3 c3,.slice D1 n4 c4,.bool x.match_],zi 0])∧(∀W,Bk w.heap.size w' W->Ab 2 CQ W A es.length es)∧es.length<=c
theorem Ip{C r:Nat}(h:Bk B (w2.setCell (ad r i) v) W)(b:r<C)(e:B<=C):Bk C w2 W:=
 ⟨by simpa using h.1,λj f a=>(h.2 j zO (by simpa using a)).trans (Below.heap_setCell w2 ⟨r,i,none⟩ v j (show j≠r by omega))⟩
theorem wM(h:Bk B w2.drew W):Bk B w2 W:=h
theorem aI{s:Al}(h:AA s=0)(f:s.multiples[k]?=some y) : -100<=y∧y<=100:=by
 unfold AA at h;split at h
 ·rename_i b;exact absurd h b
 rename_i b;have a:AM s=0:=by simpa using b
 unfold AM at a;split at a
 ·cases a
 split at a
 ·cases a
 split at a
 ·cases a
 split at a
 ·cases a
 split at a
 ·cases a
 split at a
 ·cases a
 split at a
 ·cases a
 rename_i e;rw[List.any_eq_true]at e;refine Classical.byContradiction λg=>e ⟨y,zq2 f,?_⟩
 simp only[Bool.or_eq_true,decide_eq_true_eq];omega
theorem Vy(s:Al)(Z:oA)(z zc:Nat)(M:oA)(m mc:Nat)(P:oA)(p pc:Nat)(U:oA)(u uc:Nat)(E:oA)(e ec:Nat)(O:oA)(o oc:Nat)(w:World)(h:Co w s Z z zc M m mc P p pc U u uc E e ec O o oc)(F:Dj s)(V:AA s=0)(k j:Nat)(hk:k<z)(hj:j<u)(v:Dw)(C:s.uses[j]?=some v)(x:Aw)(hx:s.pieces[v.piece.toNat]?=some x)(y:Int)(X:s.multiples[k]?=some y) :
  CP 97 #[.agg #[.string s.name,.slice Z z zc,.slice M m mc,.slice P p pc,.slice U u uc,.slice E e ec,.slice O o oc],zi (k:Int),zi (j:Int)] w (Aaw (BL x y) x w):=by
 have hB:Bw w (zw (zw w #[.string s.name,.slice Z z zc,.slice M m mc,.slice P p pc,.slice U u uc,.slice E e ec,.slice O o oc] 29) #[.string ByteArray.empty,zn,zi 0,zn,zn,zn,zF] 66):=(zA _).alloc zP _;have X0:=(Blk.new w 29 #[.string s.name,.slice Z z zc,.slice M m mc,.slice P p pc,.slice U u uc,.slice E e ec,.slice O o oc]).alloc (.cells #[.string ByteArray.empty,zn,zi 0,zn,zn,zn,zF] 66);have X1:=Blk.new' (zw w #[.string s.name,.slice Z z zc,.slice M m mc,.slice P p pc,.slice U u uc,.slice E e ec,.slice O o oc] 29) 66 #[.string ByteArray.empty,zn,zi 0,zn,zn,zn,zF] (g:=w.heap.size+1) zP;have HB:=zH hB;have J:=zH X0;have D:=zH X1;have HA:=zH h;have HS:=zH F;have HY:=zH (zu2 C (zu2 hx X));have a0:=aI V X;have ac:=zH a0;have ae:=Du V v (zq2 C);have Y:=M5 s Z z zc M m mc P p pc U u uc E e ec O o oc (zw (zw w #[.string s.name,.slice Z z zc,.slice M m mc,.slice P p pc,.slice U u uc,.slice E e ec,.slice O o oc] 29) #[.string ByteArray.empty,zn,zi 0,zn,zn,zn,zF] 66) (h.on hB) F;rw[V]at Y;have Y:=zH Y;have l1:z<=9223372036854775807:=by rw[<-h.sizes.slen];exact F.szs
 have l2:u<=9223372036854775807:=by rw[<-h.uses.len];exact F.us
 have l3:p<=9223372036854775807:=by rw[<-h.pieces.len];exact F.pcs
 have l4:k<m:=by
  have h1:=(zq1.1 X).1;have h2:=h.mults.ilen;omega
 have l5:m<=9223372036854775807:=by have:=h.mults.ilen;have:=F.mul;omega
 obtain⟨q,f⟩:∃q:Nat,v.piece=(q:Int):=⟨v.piece.toNat,by omega⟩
 have af:q<p:=by
  have h2:=h.pieces.len;omega
 have HQ:=zH f;clear hB X0 X1 h F V C hx X a0 ae f;go_enter func97,ntmps97;go_wp2_with(go_at_call 32;go_must((refine Y.o.mono ?_);rintro e1 w1 ⟨rfl,I⟩;have r:=zH (zT HB.o I);have a1:=zH (J.o.below I);have a3:=zH (D.o.below I);obtain⟨x0,x1,x2,x3,x4,x5,x6⟩:=AS a1.o;have i1:(0:Int)<=(k:Int):=zO;have i2:(k:Int)<(z:Int):=zO;have i3:(0:Int)<=(j:Int):=zO;have i4:(j:Int)<(u:Int):=zO;clear I))
 obtain⟨b,a4,v',rfl,an,a5,d0,d1,d2⟩:=Lg (HA.o.uses.on JK r.o) hj;obtain rfl:v'=v:=by have:=HY.o.1;rw[a5]at this;exact zs6 this
 obtain⟨b3,l,x',E1,n1,c1,N1,n2,c2,C1,n3,c3,D1,n4,c4,rfl,K,L,g0,g1,g2,g3,g4,g5,g6,r1,r2,r3,r4,r5,r6,r7,r8⟩:=Ex HA.o.pieces af;have gk:=λi=>r.o.cell (p:=ad b3 i) K
 replace g0:=(gk _).trans g0;replace g1:=(gk _).trans g1;replace g2:=(gk _).trans g2;replace g3:=(gk _).trans g3;replace g4:=(gk _).trans g4;replace g5:=(gk _).trans g5;replace g6:=(gk _).trans g6;have K:=zs1 K r.o.size;obtain rfl:x'=x:=by have:=HY.o.2.1;rw[HQ.o,Int.toNat_natCast,L]at this;exact zs6 this
 obtain⟨b5,n,y',rfl,a6,a7,cy⟩:=Qy (HA.o.mults.on r.o) l4;obtain rfl:y'=y:=by have:=HY.o.2.2;rw[a7]at this;exact zs6 this
 have N:=zH (PcA.mk r1 r2 r3 r4 r5 r6 r7 r8 (HS.o.pc x' (zq2 L)));rw[HQ.o]at d0;obtain⟨i5,i6⟩:=zI (k:=q) (n:=p) (by omega);have i7:(k:Int)<(m:Int):=zO;clear a5 L a7 r1 r2 r3 r4 r5 r6 r7 r8 gk;have ag:=zH cy;have HG:=zH (λW (G:Bw w1 W)=>WY x' y' E1 n1 c1 N1 n2 c2 C1 n3 c3 D1 n4 c4 W (N.o.on (zT r.o G)) ac.o);generalize BL x' y'=R at *
 have ao:=a3.o.lt
 go_upto_region 6 with fail
 obtain⟨wo,a8⟩:∃wo:World,wo=w1:=⟨_,rfl⟩
 go_cut [10] (λs10 wx=>∃g:Nat,s10=.pointer (sa g 0)∧Blk wx g 66 #[.string x'.name,.slice E1 n1 c1,zi x'.grain,.slice N1 n2 c2,.slice C1 n3 c3,.slice D1 n4 c4,.bool x'.match_]∧Bw w1 wx∧w1.heap.size<=g)
 case first=>
  clear a8
  go_region_held3(λw'=>w'.cell? (ad w.heap.size 3)=some (.slice (sa b3 l) p pc)∧w'.cell? (ad w.heap.size 4)=some (.slice (sa b a4) u uc)∧w'.cell? (ad b (a4+j*3))=some (zi (q:Int))∧w'.cell? (ad b3 (l+q*7))=some (.string x'.name)∧w'.cell? (ad b3 (l+q*7+1))=some (.slice E1 n1 c1)∧w'.cell? (ad b3 (l+q*7+2))=some (zi x'.grain)∧w'.cell? (ad b3 (l+q*7+3))=some (.slice N1 n2 c2)∧w'.cell? (ad b3 (l+q*7+4))=some (.slice C1 n3 c3)∧w'.cell? (ad b3 (l+q*7+5))=some (.slice D1 n4 c4)∧w'.cell? (ad b3 (l+q*7+6))=some (.bool x'.match_))
   (go_keep)
   (fail)
  all_goals
   go_wp2_with fail
   go_meet;exact⟨_,rfl,Blk.new _ _ _,(zA _).drew,zs2 _⟩
 case rest=>
  obtain⟨g,rfl,hG,t,ap⟩:=hcut;have aq:¬g=w.heap.size+1:=zO;have am:¬w.heap.size+1=g:=zO;clear a8 d0 d1 d2 g0 g1 g2 g3 g4 g5 g6 x0 x1 x2 x3 x4 x5 x6;have J:=zH (a1.o.below t);have D:=zH (a3.o.below t);have B:=zH (zT r.o t);have cy2:=(t.cell (p:=ad b5 (n+k)) a6).trans ag.o;have ab:=zs1 a6 t.size;have Q:=zH hG;have a9:=zH (λW (G:Bw wc W)=>HG.o W (zT t G));have HK:=λw'=>zH (λ(G:Bw wc w')=>zu2 (AS (Q.o.below G)) (zu2 ((J.o.below G).c (i:=2) (v:=.slice (sa b5 n) m mc) rfl) ((G.cell (p:=ad b5 (n+k)) ab).trans cy2)))
  have f:=Below.refl wc.heap.size wc;clear cy cy2 t hG HG
  cases R with
  | error zz=>
   go_wp2_with fail
   go_region_held3(λw'=>(w'.cell? (ad g 0)=some (.string x'.name)∧w'.cell? (ad g 1)=some (.slice E1 n1 c1)∧w'.cell? (ad g 2)=some (zi x'.grain)∧w'.cell? (ad g 3)=some (.slice N1 n2 c2)∧w'.cell? (ad g 4)=some (.slice C1 n3 c3)∧w'.cell? (ad g 5)=some (.slice D1 n4 c4)∧w'.cell? (ad g 6)=some (.bool x'.match_))∧w'.cell? (ad w.heap.size 2)=some (.slice (sa b5 n) m mc)∧w'.cell? (ad b5 (n+k))=some (zi y'))
    ((refine(HK _).out ?_;repeat(first|(with_reducible exact zJ)|(with_reducible exact f)|(with_reducible refine Below.drew ?_))))
    ((go_at_call 83;go_must((refine(a9.o _ zB).mono ?_);rintro e w2 ⟨C,H⟩;replace H:e=.returned (.tuple #[zn,zi zz]):=H;subst H;replace f:=Ag f C;clear C)))
   have ah:=AS (Q.o.below f);have a:=D.o.below f;have S:=zH (zT B.o f);obtain⟨y0,y1,y2,y3,y4,y5,y6⟩:=AS a;have z0:=a.frozen 0;have z1:=a.frozen 1;have z2:=a.frozen 2;have z3:=a.frozen 3;have z4:=a.frozen 4;have z5:=a.frozen 5;have z6:=a.frozen 6;have ai:=a.lt;have aj:=zH (B.o.size);clear a HK f
   go_wp2_with fail
   go_region_held3(λw'=>(w'.cell? (ad g 0)=some (.string x'.name)∧w'.cell? (ad g 1)=some (.slice E1 n1 c1)∧w'.cell? (ad g 2)=some (zi x'.grain)∧w'.cell? (ad g 3)=some (.slice N1 n2 c2)∧w'.cell? (ad g 4)=some (.slice C1 n3 c3)∧w'.cell? (ad g 5)=some (.slice D1 n4 c4)∧w'.cell? (ad g 6)=some (.bool x'.match_)))
    (go_keep)
    (fail)
   go_wp2_with fail
   refine bodyPost_ret (v:=.tuple #[zn,.agg #[.string x'.name,.slice E1 n1 c1,zi x'.grain,.slice N1 n2 c2,.slice C1 n3 c3,.slice D1 n4 c4,.bool x'.match_],zi zz]) (by simp[results,results97,go_sem,y0,y1,y2,y3,y4,y5,y6]) rfl ?_;have T:=(((((((S.o.setCell (p:=ad (w.heap.size+1) 0) (zt1 _) (.string x'.name)).setCell (p:=ad (w.heap.size+1) 1) (zt1 _) (.slice E1 n1 c1)).setCell (p:=ad (w.heap.size+1) 2) (zt1 _) (zi x'.grain)).setCell (p:=ad (w.heap.size+1) 3) (zt1 _) (.slice N1 n2 c2)).setCell (p:=ad (w.heap.size+1) 4) (zt1 _) (.slice C1 n3 c3)).setCell (p:=ad (w.heap.size+1) 5) (zt1 _) (.slice D1 n4 c4)).setCell (p:=ad (w.heap.size+1) 6) (zt1 _) (.bool x'.match_));have hP:=N.o.on T.drew;refine⟨E1,n1,c1,N1,n2,c2,C1,n3,c3,D1,n4,c4,T.drew,hP,rfl⟩
  | ok es=>
   go_wp2_with fail
   go_region_held3(λw'=>(w'.cell? (ad g 0)=some (.string x'.name)∧w'.cell? (ad g 1)=some (.slice E1 n1 c1)∧w'.cell? (ad g 2)=some (zi x'.grain)∧w'.cell? (ad g 3)=some (.slice N1 n2 c2)∧w'.cell? (ad g 4)=some (.slice C1 n3 c3)∧w'.cell? (ad g 5)=some (.slice D1 n4 c4)∧w'.cell? (ad g 6)=some (.bool x'.match_))∧w'.cell? (ad w.heap.size 2)=some (.slice (sa b5 n) m mc)∧w'.cell? (ad b5 (n+k))=some (zi y'))
    ((refine(HK _).out ?_;repeat(first|(with_reducible exact zJ)|(with_reducible exact f)|(with_reducible refine Below.drew ?_))))
    ((go_at_call 83;go_must((refine(a9.o _ zB).mono ?_);rintro e w2 ⟨C,H⟩;obtain⟨A2,a2,H,aa,ak⟩:=H;subst H;have al:=zH aa;have ar:=zH f.size;clear aa;replace f:=Ag f C;clear C)))
   have ah:=AS (Q.o.below f);have a:=D.o.below f;have S:=zH (zT B.o f);obtain⟨y0,y1,y2,y3,y4,y5,y6⟩:=AS a;have z0:=a.frozen 0;have z1:=a.frozen 1;have z2:=a.frozen 2;have z3:=a.frozen 3;have z4:=a.frozen 4;have z5:=a.frozen 5;have z6:=a.frozen 6;have ai:=a.lt;have aj:=zH (B.o.size);clear a HK f
   go_wp2_with fail
   go_region_held3(λw'=>(w'.cell? (ad g 0)=some (.string x'.name)∧w'.cell? (ad g 1)=some (.slice E1 n1 c1)∧w'.cell? (ad g 2)=some (zi x'.grain)∧w'.cell? (ad g 3)=some (.slice N1 n2 c2)∧w'.cell? (ad g 4)=some (.slice C1 n3 c3)∧w'.cell? (ad g 5)=some (.slice D1 n4 c4)∧w'.cell? (ad g 6)=some (.bool x'.match_)))
    (go_keep)
    (fail)
   go_wp2_with fail
   refine bodyPost_ret (v:=.tuple #[.slice A2 es.length a2,.agg #[.string x'.name,.slice E1 n1 c1,zi x'.grain,.slice N1 n2 c2,.slice C1 n3 c3,.slice D1 n4 c4,.bool x'.match_],zi 0]) (by simp[results,results97,go_sem,y0,y1,y2,y3,y4,y5,y6]) rfl ?_;have T:=(((((((S.o.setCell (p:=ad (w.heap.size+1) 0) (zt1 _) (.string x'.name)).setCell (p:=ad (w.heap.size+1) 1) (zt1 _) (.slice E1 n1 c1)).setCell (p:=ad (w.heap.size+1) 2) (zt1 _) (zi x'.grain)).setCell (p:=ad (w.heap.size+1) 3) (zt1 _) (.slice N1 n2 c2)).setCell (p:=ad (w.heap.size+1) 4) (zt1 _) (.slice C1 n3 c3)).setCell (p:=ad (w.heap.size+1) 5) (zt1 _) (.slice D1 n4 c4)).setCell (p:=ad (w.heap.size+1) 6) (zt1 _) (.bool x'.match_));have hP:=N.o.on T.drew;refine⟨E1,n1,c1,N1,n2,c2,C1,n3,c3,D1,n4,c4,T.drew,hP,A2,a2,rfl,λW h=>al.o W ?_,ak⟩;have q3:w.heap.size+1<wc.heap.size:=D.o.lt;exact Ip (Ip (Ip (Ip (Ip (Ip (Ip (wM h) q3 zO) q3 (zs2 _)) q3 (zs2 _)) q3 (zs2 _)) q3 (zs2 _)) q3 (zs2 _)) q3 (zs2 _)
def aK(_:World)(x:CR)(vs:lV):Prop:=vs=[zi x.a.1,zi x.a.2,zi x.b.1,zi x.b.2,zi x.w]
theorem Vz:GC aK:=λ_ _ _ _ _ h=>h
def Kc(cs:aV)(b:Nat)(x:CR):Array Value:=((((cs.setIfInBounds b (zi x.a.1)).setIfInBounds (b+1) (zi x.a.2)).setIfInBounds (b+2) (zi x.b.1)).setIfInBounds (b+3) (zi x.b.2)).setIfInBounds (b+4) (zi x.w)
theorem JH(x:CR)(h:i<b∨b+4<i):(Kc cs b x)[i]?=cs[i]?:=by
 unfold Kc;rw[Array.getElem?_setIfInBounds_ne zO,Array.getElem?_setIfInBounds_ne zO,Array.getElem?_setIfInBounds_ne zO,Array.getElem?_setIfInBounds_ne zO,Array.getElem?_setIfInBounds_ne zO]
theorem jV(cs:aV)(b:Nat)(x:CR):(Kc cs b x).size=cs.size:=by simp[Kc]
theorem wP(x:CR)(h:b+4<cs.size):(Kc cs b x)[b]?=some (zi x.a.1)∧(Kc cs b x)[b+1]?=some (zi x.a.2)∧(Kc cs b x)[b+2]?=some (zi x.b.1)∧(Kc cs b x)[b+3]?=some (zi x.b.2)∧(Kc cs b x)[b+4]?=some (zi x.w):=by
 unfold Kc;refine⟨?_,?_,?_,?_,?_⟩
 ·rw[Array.getElem?_setIfInBounds_ne zO,Array.getElem?_setIfInBounds_ne zO,Array.getElem?_setIfInBounds_ne zO,Array.getElem?_setIfInBounds_ne zO,zs9,if_pos rfl,if_pos zO]
 ·rw[Array.getElem?_setIfInBounds_ne zO,Array.getElem?_setIfInBounds_ne zO,Array.getElem?_setIfInBounds_ne zO,zs9,if_pos rfl,if_pos zQ]
 ·rw[Array.getElem?_setIfInBounds_ne zO,Array.getElem?_setIfInBounds_ne zO,zs9,if_pos rfl,if_pos zQ]
 ·rw[Array.getElem?_setIfInBounds_ne zO,zs9,if_pos rfl,if_pos zQ]
 rw[zs9,if_pos rfl,if_pos zQ]
def Iq(w:World)(g n:Nat)(l:List CR)(k:Nat):Prop:=∃cs:Array Value,Blk w g 246 cs∧cs.size=n*5∧(∀i,i<n*5->∃z:Int,cs[i]?=some (zi z))∧∀(j:Nat)(x:CR),j<k->l[j]?=some x->cs[j*5]?=some (zi x.a.1)∧cs[j*5+1]?=some (zi x.a.2)∧cs[j*5+2]?=some (zi x.b.1)∧cs[j*5+3]?=some (zi x.b.2)∧cs[j*5+4]?=some (zi x.w)
section
variable{w w':World}{g n k:Nat}{l:List CR}
theorem rC(h:Iq w g n l k)(m:l[k]?=some x)(y:k<n):Iq (((((w.setCell (ad g (k*5)) (zi x.a.1)).setCell (ad g (k*5+1)) (zi x.a.2)).setCell (ad g (k*5+2)) (zi x.b.1)).setCell (ad g (k*5+3)) (zi x.b.2)).setCell (ad g (k*5+4)) (zi x.w)) g n l (k+1):=by
 obtain⟨cs,o,p,s,t⟩:=h;have v:k*5+4<cs.size:=zO;obtain⟨a0,a1,a2,a3,a4⟩:=wP x v;refine⟨Kc cs (k*5) x,((((o.set_ _ _).set_ _ _).set_ _ _).set_ _ _).set_ _ _,by rw[jV,p],λi hi=>?_,λj q z f=>?_⟩
 ·by_cases e:i<k*5∨k*5+4<i
  ·rw[JH x e];exact s i hi
  have:i=k*5∨i=k*5+1∨i=k*5+2∨i=k*5+3∨i=k*5+4:=zO;rcases this with rfl|rfl|rfl|rfl|rfl
  ·exact⟨_,a0⟩
  ·exact⟨_,a1⟩
  ·exact⟨_,a2⟩
  ·exact⟨_,a3⟩
  exact⟨_,a4⟩
 by_cases e:j=k
 ·subst e;rw[m]at f;obtain rfl:=zs6 f;exact⟨a0,a1,a2,a3,a4⟩
 obtain⟨c0,c1,c2,c3,c4⟩:=t j q zO f;rw[JH x zO,JH x zO,JH x zO,JH x zO,JH x zO];exact⟨c0,c1,c2,c3,c4⟩
theorem Iq.below(h:Iq w g n l k)(a:Bw w w'):Iq w' g n l k:=by
 obtain⟨cs,b,e⟩:=h;exact⟨cs,b.below a,e⟩
theorem Iq.lt(h:Iq w g n l k):g<w.heap.size:=h.choose_spec.1.lt
theorem Iq.cells(h:Iq w g n l k)(e:k<n):∃z0 z1 z2 z3 z4:Int,zL w g (k*5) (zi z0)∧zL w g (k*5+1) (zi z1)∧zL w g (k*5+2) (zi z2)∧zL w g (k*5+3) (zi z3)∧zL w g (k*5+4) (zi z4)∧(∀i,w.frozen? (ad g i)=false):=by
 obtain⟨cs,a,f,b,j⟩:=h;obtain⟨z0,e0⟩:=b (k*5) zO;obtain⟨z1,e1⟩:=b (k*5+1) zO;obtain⟨z2,e2⟩:=b (k*5+2) zO;obtain⟨z3,e3⟩:=b (k*5+3) zO;obtain⟨z4,e4⟩:=b (k*5+4) zO;exact⟨z0,z1,z2,z3,z4,a.c e0,a.c e1,a.c e2,a.c e3,a.c e4,λi=>a.frozen i⟩
theorem Iq.done(h:Iq w g n l n)(f:l.length=n):Ab 5 aK w (sa g 0) n l:=by
 obtain⟨cs,b,p,q,m⟩:=h;refine⟨f,λ_=>⟨g,0,rfl,b.lt,λj x e=>⟨_,rfl,λi u a=>?_⟩⟩⟩;have o:j<n:=by have:=(zq1.1 e).1;omega
 obtain⟨a0,a1,a2,a3,a4⟩:=m j x o e;rw[Nat.zero_add]
 match i,a with
 | 0,a=>obtain rfl:=zs6 a;exact b.c a0
 | 1,a=>obtain rfl:=zs6 a;exact b.c a1
 | 2,a=>obtain rfl:=zs6 a;exact b.c a2
 | 3,a=>obtain rfl:=zs6 a;exact b.c a3
 | 4,a=>obtain rfl:=zs6 a;exact b.c a4
 | i+5,a=>simp at a
theorem jW(h:Ab 5 aK w A n l)(o:j<n):∃b f x,A=some ⟨b,f,none⟩∧b<w.heap.size∧l[j]?=some x∧zL w b (f+j*5) (zi x.a.1)∧zL w b (f+j*5+1) (zi x.a.2)∧zL w b (f+j*5+2) (zi x.b.1)∧zL w b (f+j*5+3) (zi x.b.2)∧zL w b (f+j*5+4) (zi x.w):=by
 obtain⟨b,f,x,vs,e,m,p,q,i⟩:=h.at_ o;subst q;exact⟨b,f,x,e,m,p,i 0 _ rfl,i 1 _ rfl,i 2 _ rfl,i 3 _ rfl,i 4 _ rfl⟩
end
theorem rD:(prog.info? 246).map (λi=>(i.zero,i.size,i.bytes))=some (some (.agg #[zi 0,zi 0,zi 0,zi 0,zi 0]),5,40):=zk
theorem jX(n:Nat)(f:n<=1000000)(W:World):(Instr.makeSlice 243 (zi (n:Int)) (zi (n:Int))).run prog W=.ok (.slice (sa W.heap.size 0) n n) (W.alloc (.cells (madeCells #[zi 0,zi 0,zi 0,zi 0,zi 0] (n*5)) 246)):=by
 obtain⟨i0,hi,a,b,e⟩:=info_parts rD;have h:=run_make (P:=prog) W 243 246 i0 _ underlying243 hi a .i64 .i64 (n:Int) (n:Int) zO zO (by rw[e];omega) zO;rw[b,Int.toNat_natCast]at h;exact h
theorem rE(W:World)(n:Nat)(l:List CR):Iq (W.alloc (.cells (madeCells #[zi 0,zi 0,zi 0,zi 0,zi 0] (n*5)) 246)) W.heap.size n l 0:=by
 refine⟨_,Blk.new _ _ _,by simp[madeCells],λi hi=>⟨0,?_⟩,λj p a=>by omega⟩;unfold madeCells;rw[Array.getElem?_map,Array.getElem?_eq_getElem (by simpa using hi)];have h:i%5=0∨i%5=1∨i%5=2∨i%5=3∨i%5=4:=zO;rcases h with h|h|h|h|h <;> simp[h]
theorem jY(vs:lP)(each:List Int):(Gl vs each).length=vs.length:=by simp[Gl]
theorem SH(hi:i<vs.length)(hd:(Ee vs each)[i]?=some d):(Gl vs each)[i]?=some ⟨((vtx vs i).1+d.1,(vtx vs i).2+d.2),((vtx vs (i+1)).1+d.1,(vtx vs (i+1)).2+d.2),each.getD i 0⟩:=by
 rw[Nv hi]at hd;obtain rfl:=zs6 hd;unfold Gl;simp only;rw[zr5,zt4 hi];rfl
theorem SI{n:Nat}(a:g.length=n)(hi:i%n=j)(b:g[j]?=some x):Gu g i=x:=by
 unfold Gu;rw[a,hi,zq3,b];rfl
def FA(vs:lP)(g:List CR)(k:Nat):List Pt:=((List.range k).flatMap λi=>By (vtx vs i) (Gu g (i+vs.length-1)) (Gu g i)).foldl Ck []
theorem aL(vs:lP)(g:List CR):FA vs g 0=[]:=rfl
theorem Qz(vs:lP)(g:List CR)(k:Nat):FA vs g (k+1)=(By (vtx vs k) (Gu g (k+vs.length-1)) (Gu g k)).foldl Ck (FA vs g k):=by
 unfold FA;rw[List.range_succ,zr7,List.foldl_append];simp
theorem W5(s r:lP)(a:s[j]?=some p):(s.take (j+1)).foldl Ck r=Ck ((s.take j).foldl Ck r) p:=by
 rw[List.take_add_one,a,List.foldl_append];rfl
theorem aM(l:lP)(p:Pt):(Ck l p).length<=l.length+1:=by
 unfold Ck;split
 ·omega
 simp
theorem K0:∀(s r:lP),(s.foldl Ck r).length<=r.length+s.length
 | [],r=>by simp
 | p::s,r=>by
  have a:=K0 s (Ck r p);have b:=aM r p;simp only[List.foldl_cons,zt5];omega
theorem VA(v:Pt)(x y:CR):(By v x y).length<=2:=by
 unfold By;split
 ·simp
 split
 ·simp
 split <;> simp
theorem Nx(vs:lP)(g:List CR):∀k,(FA vs g k).length<=2*k
 | 0=>by simp[aL]
 | k+1=>by
  have a:=Nx vs g k;have b:=K0 (By (vtx vs k) (Gu g (k+vs.length-1)) (Gu g k)) (FA vs g k);have e:=VA (vtx vs k) (Gu g (k+vs.length-1)) (Gu g k);rw[Qz];omega
theorem aN{l:lP}(h:l.getLast?=some q)(a:q≠p):Ck l p=l++[p]:=by
 unfold Ck;rw[if_neg (by rw[h];intro e;exact a (zs6 e))]
theorem jZ{l:lP}(h:l.getLast?=some p):Ck l p=l:=if_pos h
theorem kA{l:lP}(b:2<=l.length)(e:l.getLast?=l.head?):Fy l.length l=Fy (l.take (l.length-1)).length (l.take (l.length-1)):=by
 obtain⟨n,a⟩:∃n,l.length=n+1:=⟨l.length-1,by omega⟩;have f:(l.take (l.length-1)).length=n:=by rw[zq7];omega
 rw[f,a];show(if 2<=l.length∧l.getLast?=l.head? then Fy n l.dropLast else l)=_;rw[if_pos ⟨b,e⟩,List.dropLast_eq_take,a]
theorem SJ{l:lP}(h:¬(2<=l.length∧l.getLast?=l.head?)):Fy l.length l=l:=by
 cases hn:l.length with
 | zero=>rfl
 | succ n=>
  show(if 2<=l.length∧l.getLast?=l.head? then Fy n l.dropLast else l)=_;rw[if_neg h]
theorem VB{l:lP}(a:FA vs (Gl vs each) vs.length=r)(b:Fy r.length r=l):GG vs each=l:=by
 unfold GG;simp only;rw[<-b,<-a];rfl
section
variable{l:List As}{ws:List Int}{r:lP}
theorem kB(h:Dr l ws=.error z):DK l ws=.error z:=by
 unfold Dr Vw at h;unfold DK;split at h
 ·rename_i a;rw[if_pos a];injection h with h
  rw[h]
 rename_i a;rw[if_neg a];split at h
 ·rename_i b;rw[if_pos b];injection h with h
  rw[h]
 rename_i b;rw[if_neg b];split at h
 ·rename_i e;rw[if_pos e];injection h with h
  rw[h]
 cases h
theorem kC(h:Dr l ws=.ok S):Aq l=0∧ws.length=l.length∧(∀j,j<ws.length->∃z,ws[j]?=some z∧0<=z∧z<=500)∧S=Ee (AL l) (CI l ws)∧DK l ws =
  (let r:=GG (AL l) (CI l ws)
   if (r.any λp=>!Cv p 1048576)=true then .error 3 else if An r≠0 then .error (An r)else if Bb (AQ r)≠Bb (AQ (AL l))then .error 11 else .ok r):=by
 unfold Dr Vw at h;split at h
 ·cases h
 rename_i b;split at h
 ·cases h
 rename_i e;split at h
 ·cases h
 rename_i a;injection h with h
 refine⟨by simpa using b,by simpa using e,λj f=>⟨_,zq0 f,?_⟩,h.symm,?_⟩
 ·rw[Bool.not_eq_true,List.any_eq_false]at a;have:=a _ (List.getElem_mem f);simp only[Bool.or_eq_true,decide_eq_true_eq]at this;omega
 unfold DK;rw[if_neg b,if_neg e,if_neg a]
end
def Hz(r:lP)(s:Int):Except Int (List Pt):=
 if (r.any λp=>!Cv p 1048576)=true then .error 3 else if An r≠0 then .error (An r)else if Bb (AQ r)≠s then .error 11 else .ok r
theorem Ye(a:r[j]?=some p)(h:Cv p 1048576=false):Hz r s=.error 3:=by
 unfold Hz;rw[if_pos (List.any_eq_true.2 ⟨p,zq2 a,by rw[h];rfl⟩)]
theorem VC(h:∀(j:Nat)(p:Pt),r[j]?=some p->Cv p 1048576=true):Hz r s=if An r≠0 then .error (An r)else if Bb (AQ r)≠s then .error 11 else .ok r:=by
 unfold Hz;rw[if_neg];rw[List.any_eq_true];rintro⟨p,b,a⟩;obtain⟨j,e⟩:=List.getElem?_of_mem b;rw[h j p e]at a
 cases a
end Go.Proofs.YteafekbddckemaaGreatDoor
