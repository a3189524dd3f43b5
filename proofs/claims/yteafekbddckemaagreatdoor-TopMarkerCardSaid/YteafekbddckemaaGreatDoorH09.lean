/- Parts of the proof. -/
import Derived.Test.YteafekbddckemaaGreatDoorH08
set_option maxRecDepth 100000
set_option maxHeartbeats 40000000
namespace Go.Proofs.YteafekbddckemaaGreatDoor
open Tryz Go.RowKit
open Go.Lib hiding intOf
variable{A B:oA}{W X a w w' w4:World}{c d g j k m n r:Nat}{cs:aV}{i:Int}{l:List Nat}{p q:Rat}{t:TypeId}{u0 u1 v:Value}
def KL(q:Rat)(w:World)(e:Ending)(w':World):Prop:=
 ∃A n c B m d,e=.returned (.agg #[.bool (Ay q.num),.slice A n c,.slice B m d])∧Sl w' w'.heap.size A n (AC (Aj q.num.natAbs))∧n<=c∧Sl w' w'.heap.size B m (AC (Aj q.den))∧m<=d∧Bw w w'
def AaO(q:Rat)(k:Nat)(w:World)(e:Ending)(w':World):Prop:=
 ∃a A n c B m d x y,e=.returned (.agg #[.bool a,.slice A n c,.slice B m d])∧At w' A n c x∧At w' B m d y∧y≠0∧rv (sgn a x) y=q∧n<=k∧m<=k∧Bw w w'
theorem NoU.blk(h:Blk w g t cs)(a:∀v∈cs.toList,∀x,v≠.int .u32 x):NoU w g:=by
 intro o x e;rw[h.cell]at e;have b:Value.int .u32 x∈cs:=Array.mem_of_getElem? e;exact a _ (by simpa using b) x rfl
theorem Sl.no3(h:Sl w w.heap.size A n (AC l))(a:NoU w r)(u2:Value)(b:∀x,u0≠.int .u32 x:=by simp)(e:∀x,u1≠.int .u32 x:=by simp) :
  Sl (((w.setCell (ad r 0) u0).setCell (ad r 1) u1).setCell (ad r 2) u2) (((w.setCell (ad r 0) u0).setCell (ad r 1) u1).setCell (ad r 2) u2).heap.size A n (AC l):=
 ((h.no a 0 _).no (a.set _ b) 1 _).no ((a.set _ b).set _ e) 2 _
theorem At.no3{v:Nat}(h:At w A n c v)(a:NoU w r)(u2:Value)(b:∀x,u0≠.int .u32 x:=by simp)(e:∀x,u1≠.int .u32 x:=by simp) :
  At (((w.setCell (ad r 0) u0).setCell (ad r 1) u1).setCell (ad r 2) u2) A n c v:=by
 obtain⟨l,g1,g2,g3,g4⟩:=h;exact⟨l,g1.no3 a u2 b e,g2,g3,g4⟩
theorem Fi{B:Nat}(h:Below B a w)(b:B<=r)(u0 u1 u2:Value):Below B a (((w.setCell (ad r 0) u0).setCell (ad r 1) u1).setCell (ad r 2) u2):=
 ((h.setCell (p:=ad r 0) b _).setCell (p:=ad r 1) b _).setCell (p:=ad r 2) b _
theorem LK(A:oA)(n c x:Nat)(w:World)(b:At w A n c x)(f:n<=1000000) :
  CP 254 #[.slice A n c] w λe w'=>e=.returned (.bool (decide (x=0)))∧∃k,w'=w.drewN k:=by
 have a:(CS x 0 == 0)=decide (x=0):=by
  by_cases h:x=0
  ·subst h;rfl
  rw[GT zO];simp[h]
 have g:=zH a;clear a;go_enter func254,ntmps254;go_wp2_with(go_at_call 257;refine(GX A none n 0 c 0 x 0 _ b (At.nil w none 0) f zO).mono ?_;rintro e w' ⟨rfl,nq,rfl⟩;rw[show CS x 0=CS x 0 from rfl])
 go_ret;exact⟨by rw[<-g.o];rfl,nq,rfl⟩
theorem EJ(A:oA)(n c:Nat)(w:World) :
  CP 212 #[.slice A n c] w (zR (.agg #[zF,.slice A n c]) w):=by
 go_enter func212,ntmps212;go_wp2;refine bodyPost_ret (v:=.agg #[zF,.slice A n c]) (by simp[results,results212,go_sem]) rfl ⟨rfl,?_⟩;exact zA _
theorem DW(b:Bool)(A:oA)(n c x:Nat)(B:oA)(m d y:Nat)(w:World)(p:At w A n c x)(q:At w B m d y)(k:Nat)(C:n<=k)(D:m<=k)(J:1<=k)(G:k<=1000000) :
  CP 209 #[.agg #[.bool b,.slice A n c,.slice B m d]] w (AaO (rv (sgn b x) y) k w):=by
 have i:=zH (zu2 p q);clear p q;have f:Bw w (zw (zw w #[.bool b,.slice A n c,.slice B m d] 217) #[zF,zn,zn] 217):=(zA _).alloc zP _;by_cases j:y=0
 ·have hd:decide (y=0)=true:=by simpa using j
  go_enter func209,ntmps209
  go_wp2_with(first
   | (go_at_call 254;go_must((refine(LK B m d y _ (i.o.2.on f) zO).mono ?_);rintro e w' ⟨rfl,nq,rfl⟩;rw[hd]))
   | (go_at_call 255;go_must((refine(Pk 1 _ zO).mono ?_);rintro e w1 ⟨A1,n1,c1,rfl,s,t,a⟩;obtain⟨z,H⟩:=Cc a)))
  refine bodyPost_ret (v:=.agg #[zF,zn,.slice A1 n1 c1]) (by simp[results,results209,go_sem,z]) rfl ?_
  have E:NoU w1 (w.heap.size+1):=by
   have h:=NoU.new (zw w #[.bool b,.slice A n c,.slice B m d] 217) #[zF,zn,zn] 217 zP;have F:=(show NoU _ _ from h).below (w':=w1) (zX a) zP;simpa using F
  have l:Bw w w1:=f.trans (Below.mono (zX a) f.size);have I:n1<=1:=by rw[<-s.ulen];exact JQ (by unfold bs;omega)
  refine⟨false,none,0,0,A1,n1,c1,0,1,rfl,At.nil _ _ _,(At.of_limbs s t).no3 E _,by omega,?_,by omega,by omega,Fi l zO _ _ _⟩;rw[j,QL];exact Rat.zero_mkRat 1
 have hd:decide (y=0)=false:=by simpa using j
 go_enter func209,ntmps209;go_wp2_with(go_at_call 254;go_must((refine(LK B m d y _ (i.o.2.on f) zO).mono ?_);rintro e w' ⟨rfl,nq,rfl⟩;rw[hd]))
 refine bodyPost_ret (v:=.agg #[.bool b,.slice A n c,.slice B m d]) (by simp[results,results209,go_sem]) rfl ?_;have g:=Fi (Ai f nq) (r:=w.heap.size+1) zO (.bool b) (.slice A n c) (.slice B m d);exact⟨b,A,n,c,B,m,d,x,y,rfl,i.o.1.on g,i.o.2.on g,j,rfl,C,D,g⟩
theorem TU(a:Bool)(x g:Nat):Ay (sgn (Ay (sgn a x)) (x/g))=Ay (sgn a (x/g)):=by
 rw[GA,GA,GA]
 cases a
 ·rfl
 by_cases h:0<x/g
 ·have:0<x:=by
   rcases Nat.eq_zero_or_pos x with b|b
   ·rw[b,Nat.zero_div]at h;omega
   exact b
  simp[h,this]
 simp[h]
theorem MP(a b:Nat):nl (a/b)<=nl a:=GW (Nat.div_le_self a b)
theorem Hk(b:Bool)(A:oA)(n c x:Nat)(B:oA)(m d y:Nat)(w:World)(F:At w A n c x)(H:At w B m d y)(M:n<=1000000)(N:m<=1000000)(I:y≠0) :
  CP 263 #[.agg #[.bool b,.slice A n c],.slice B m d] w (KL (rv (sgn b x) y) w):=by
 have t1:=F.trimmed.1;have t2:=H.trimmed.1;have p:=zH (zu2 F H);clear F H;have l:Bw w (zw (zw w #[.bool b,.slice A n c] 215) #[zF,zn,zn] 217):=(zA _).alloc zP _;have s:x.gcd y≠0:=by have:=OI (a:=x) I;omega
 have O:nl (x.gcd y)<=1000000:=by
  have:=GW (Nat.gcd_le_right x (by omega:0<y));omega
 obtain⟨r1,r2⟩:=Tx (i:=sgn b x) (d:=y) I;have r3:=cP (i:=sgn b x) (d:=y) I;rw[B7]at r1 r2 r3;rw[TU]at r3;generalize V:rv (sgn b x) y=q at *
 have J:=zH (zu2 r1 (zu2 r2 r3));clear r1 r2 r3 V;have X0:Blk (zw (zw w #[.bool b,.slice A n c] 215) #[zF,zn,zn] 217) w.heap.size 215 #[.bool b,.slice A n c]:=(Blk.new w _ _).alloc _;have Y0:Blk (zw (zw w #[.bool b,.slice A n c] 215) #[zF,zn,zn] 217) (w.heap.size+1) 217 #[zF,zn,zn]:=Blk.new' _ _ _ zP;go_enter func263,ntmps263
 go_wp2_with fail
 refine(tM A B n m c d x y _ (p.o.1.on l) (p.o.2.on l) M N).mono ?_;rintro e w1 ⟨G,gn,gc,rfl,r,t,j⟩;have B1:=zT l j;have X1:=X0.below j;have Y1:=Y0.below j;have c0:=X1.c (i:=0) rfl;have c1:=X1.c (i:=1) rfl;have z:gn<=1000000:=by rw[<-r.ulen];exact O
 clear X0 Y0 j l
 go_wp2_with fail
 refine(Jd A G n gn c gc x (x.gcd y) _ (p.o.1.on B1) (.of_limbs r t) M z s).mono ?_;rintro e w2 ⟨A2,n2,c2,R2,rn2,rc2,rfl,K,P,_,_,f⟩;have C:=r.on f;have B2:=zT B1 f;have X2:=X1.below f;have Y2:=Y1.below f;clear r B1 X1 Y1 c0 c1 f
 go_wp2_with fail
 refine(Jd B G m gn d gc y (x.gcd y) _ (p.o.2.on B2) (.of_limbs C t) N z s).mono ?_;rintro e w3 ⟨A3,n3,c3,R3,rn3,rc3,rfl,Q,R,_,_,g⟩;have D:=K.on g;have B3:=zT B2 g;have X3:=X2.below g;have Y3:=Y2.below g;have c0:=X3.c (i:=0) rfl
 have S:n2<=1000000:=by
  have h:=K.ulen;have X:n2=nl (x/x.gcd y):=h.symm;have:=MP x (x.gcd y);omega
 clear K C B2 X2 Y2 g
 go_wp2_with fail
 refine(AaU b A2 n2 c2 (x/x.gcd y) _ (.of_limbs D P) S).mono ?_;rintro e w4 ⟨A4,n4,c4,rfl,L,T,k⟩;have E:=Q.on k;have B4:=zT B3 k;have Y4:=Y3.below k;have f0:=Y4.c (i:=0) rfl;have f1:=Y4.c (i:=1) rfl;have f2:=Y4.c (i:=2) rfl;have g0:=Y4.frozen 0;have g1:=Y4.frozen 1;have g2:=Y4.frozen 2;clear Q D B3 X3 Y3 c0 k
 have W:Hid (KL q w (.returned (.agg #[.bool (Ay (sgn b (x/x.gcd y))),.slice A4 n4 c4,.slice A3 n3 c3])) (((w4.setCell (ad (w.heap.size+1) 0) (.bool (Ay (sgn b (x/x.gcd y))))).setCell (ad (w.heap.size+1) 1) (.slice A4 n4 c4)).setCell (ad (w.heap.size+1) 2) (.slice A3 n3 c3))):=by
  have U:=NoU.blk Y4 zP;rw[B7]at L;exact⟨A4,n4,c4,A3,n3,c3,by rw[J.o.2.2],by rw[J.o.1];exact L.no3 U _,T,by rw[J.o.2.1];exact E.no3 U _,R,Fi B4 zO _ _ _⟩
 clear L E B4 Y4
 go_wp2_with fail
 refine bodyPost_ret (v:=.agg #[.bool (Ay (sgn b (x/x.gcd y))),.slice A4 n4 c4,.slice A3 n3 c3]) (by simp[results,results263,go_sem,f0,f1,f2]) rfl ?_;exact W.o
theorem CL(x y:Pt)(w:World):(Op.equalIn 10000 56 (.agg #[zi x.1,zi x.2]) (.agg #[zi y.1,zi y.2])).run prog w=.ok (decide (x=y)) w:=by
 have u3:=underlying3;have a3:=isAgg3;have z3:=sizeOf3;have e:prog.underlying 56=some (.struct (prog.fieldsOf 56)):=zk;have f:prog.stoodInHeld 56=false:=zk;rw[show(10000:Nat)=9999+1 from rfl,run_equalIn_agg w 9999 _ _ _ e f];simp only[Program.fieldsOf,underlying56];go_simp
 obtain⟨a,b⟩:=x;obtain⟨c,d⟩:=y;by_cases g:a=c <;> by_cases i:b=d <;> simp[g,i]
theorem Below.alo(h:Bw X W)(o:Obj):Bw X (W.alloc o):=h.alloc h.size o
theorem Ag{wd w1:World}(b:Bw a w)(e:Bw wd w1)(h:wd.heap=w.heap∧wd.os=w.os∧wd.tape=w.tape∧wd.output=w.output:=by exact⟨rfl,rfl,rfl,rfl⟩):Bw a w1:=by
 obtain⟨f,g,j,k⟩:=h;refine⟨e.os.trans (g.trans b.os),e.tape.trans (j.trans b.tape),e.output.trans (k.trans b.output),?_,λi hi=>?_⟩
 ·have:=e.size;rw[f]at this;exact zs0 b.size this
 have:=e.block i (by rw[f];exact zs1 hi b.size);rw[f]at this;exact this.trans (b.block i hi)
section
variable(p:Pt)(w:World)
theorem CW:Bw w (zw w #[zi p.1,zi p.2] 56):=zA _
theorem YH:CP 216 #[.agg #[zi p.1,zi p.2]] w (zR (.bool (Av p)) w):=by
 have a:=zH (CW p w);obtain⟨x,y⟩:=p;simp only at a⊢
 by_cases b:x < -1048576
 ·go_enter func216,ntmps216;go_wp2;go_ret;exact⟨by simp[Av,b],a.o⟩
 by_cases f:1048576<x
 ·go_enter func216,ntmps216;go_wp2;go_ret;exact⟨by simp[Av,f],a.o⟩
 by_cases g:y < -1048576
 ·go_enter func216,ntmps216;go_wp2;go_ret;exact⟨by simp[Av,g],a.o⟩
 have i:Hid (Av (x,y)=decide (1048576<y)):=by
  unfold Av;simp only;rw[zu0 b,zu0 f,zu0 g];rfl
 go_enter func216,ntmps216;go_wp2;go_ret;exact⟨by rw[i.o];rfl,a.o⟩
theorem YI:CP 86 #[.agg #[zi p.1,zi p.2]] w (zR (.bool (Av p)) w):=by
 have a:=zH (CW p w);obtain⟨x,y⟩:=p;simp only at a⊢
 by_cases b:x < -1048576
 ·go_enter func86,ntmps86;go_wp2;go_ret;exact⟨by simp[Av,b],a.o⟩
 by_cases f:1048576<x
 ·go_enter func86,ntmps86;go_wp2;go_ret;exact⟨by simp[Av,f],a.o⟩
 by_cases g:y < -1048576
 ·go_enter func86,ntmps86;go_wp2;go_ret;exact⟨by simp[Av,g],a.o⟩
 have i:Hid (Av (x,y)=decide (1048576<y)):=by
  unfold Av;simp only;rw[zu0 b,zu0 f,zu0 g];rfl
 go_enter func86,ntmps86;go_wp2;go_ret;exact⟨by rw[i.o];rfl,a.o⟩
end
structure Ps(g:Nat)(f:Pt->Bool):Prop where
 calls:∀(p:Pt)(w:World),Calls prog g #[.agg #[zi p.1,zi p.2]] w (zR (.bool (f p)) w)
 enters:∀args w,(callFunc g args).run prog w=.ok (.enter g args) w
theorem tU:Ps 216 Av:=⟨YH,enters_of func216 zk rfl⟩
theorem tV:Ps 86 Av:=⟨YI,enters_of func86 zk rfl⟩
def xV(f:Pt->Bool)(ps:lP)(w:World)(e:Ending)(w':World):Prop:=∃z:Int,e=.returned (zi z)∧decide (0<=z)=ps.any f∧Bw w w'
theorem YJ(g:Nat)(f:Pt->Bool)(r:Ps g f)(A:oA)(n c:Nat)(ps:lP)(w:World)(z:Ab 2 Ad w A n ps)(J:n<=9223372036854775807) :
  CP 125 #[.slice A n c,.func (.func g) #[] #[]] w (xV f ps w):=by
 have eg:=r.enters;have E:=zH r;have F:=zH z;have G:=zH z.len;clear r z;go_enter func125,ntmps125;go_wp2
 go_loopw[8] (λi wr=>∃k:Nat,k<=n∧i=zi (k:Int)∧Hid (∀(j:Nat)(p:Pt),j<k->ps[j]?=some p->f p=false)∧Bw w wr) (λi _=>n-(intOf i).toNat)
 case atStart=>exact⟨0,zs3 _,rfl,(λj p h=>by omega),zJ⟩
 case round=>
  obtain⟨k,K,rfl,l,a⟩:=hrel;by_cases D:k<n
  ·obtain⟨b,H,p,rfl,I,x,c0,c1⟩:=Ap (F.o.on Aa a) D;have y:=zH x;have m:=zH a;have q:=E.o.calls p wr;obtain⟨i1,i2⟩:=zI (k:=k) (n:=n) (by omega);clear x a
   cases hq:f p
   ·have s:Hid (∀(j:Nat)(p:Pt),j<k+1->ps[j]?=some p->f p=false):=λj p' B t=>by
     by_cases e:j=k
     ·subst e;rw[y.o]at t;rw[<-zs6 t];exact hq
     exact l.out j p' zO t
    rw[hq]at q;have C:=zH q;clear q hq;go_wp2_with(go_at_fn g;refine C.o.mono ?_;rintro e w' ⟨rfl,v⟩)
    go_roundw
    case rel=>exact⟨k+1,by omega,by go_num,s,zT m.o v⟩
    case measure=>exact zM
   have s:Hid (ps.any f=true):=List.any_eq_true.2 ⟨p,zq2 y.o,hq⟩;rw[hq]at q;have C:=zH q;clear q hq;go_wp2_with(go_at_fn g;refine C.o.mono ?_;rintro e w' ⟨rfl,v⟩)
   go_ret;exact⟨k,rfl,by rw[s.o];simp,zT m.o v⟩
  obtain rfl:n=k:=zO
  have s:Hid (ps.any f=false):=by
   rw[Hid,List.any_eq_false];intro p r;obtain⟨j,B⟩:=List.getElem?_of_mem r;have:=l.out j p (by have:=(zq1.1 B).1;rw[G.o]at this;exact this) B;simp[this]
  have m:=zH a;clear l a;go_wp2;go_ret;exact⟨-1,rfl,by rw[s.o];rfl,m.o⟩
theorem Gt(g:Nat)(f:Pt->Bool)(a:Ps g f)(A:oA)(n c:Nat)(ps:lP)(w:World)(b:Ab 2 Ad w A n ps)(k:n<=9223372036854775807) :
  CP 85 #[.slice A n c,.func (.func g) #[] #[]] w (zR (.bool (ps.any f)) w):=by
 have l:=zH (YJ g f a A n c ps w b k);clear a b;go_enter func85,ntmps85;go_wp2_with(go_at_call 125;refine l.o.mono ?_;rintro e w' ⟨z,rfl,i,j⟩;have m:=zH i;have q:=zH j;clear i j)
 go_ret;exact⟨by rw[<-m.o];rfl,q.o⟩
theorem ON(w:World)(a b c:Pt):Bw w (zw (zw (zw w #[zi a.1,zi a.2] 56) #[zi b.1,zi b.2] 56) #[zi c.1,zi c.2] 56):=
 ((zA _).alloc zP _).alloc zQ _
theorem xW(w:World)(a b c d:Pt):Bw w (zw (zw (zw (zw w #[zi a.1,zi a.2] 56) #[zi b.1,zi b.2] 56) #[zi c.1,zi c.2] 56) #[zi d.1,zi d.2] 56):=
 (ON w a b c).trans (zJ.alloc zQ _)
theorem IP(a b c:Pt)(w:World)(f:inG a)(g:inG b)(i:inG c) :
  CP 173 #[.agg #[zi a.1,zi a.2],.agg #[zi b.1,zi b.2],.agg #[zi c.1,zi c.2]] w (zR (zi (Ao a b c)) w):=by
 have j:=zH (ON w a b c);have k:=OJ f g i;have l:Hid (Ao a b c=(b.1-a.1)*(c.2-a.2)-(b.2-a.2)*(c.1-a.1)):=rfl;obtain⟨a1,a2⟩:=a;obtain⟨b1,b2⟩:=b;obtain⟨c1,c2⟩:=c;obtain⟨q1,q2,q3,q4⟩:=f;obtain⟨q5,q6,q7,q8⟩:=g;obtain⟨q9,q10,q11,q12⟩:=i;obtain⟨⟨x1,x2⟩,x3,x4⟩:=k;simp only at *
 go_enter func173,ntmps173;go_wp2;go_ret;exact⟨by rw[l.o];rfl,j.o⟩
theorem NM(a b p:Pt)(w:World)(v:inG a)(y:inG b)(z:inG p) :
  CP 174 #[.agg #[zi a.1,zi a.2],.agg #[zi b.1,zi b.2],.agg #[zi p.1,zi p.2]] w (zR (.bool (onP a b p)) w):=by
 have i:=zH (ON w a b p);have m:=zH (λW=>IP a b p W v y z);clear v y z;obtain⟨x,q⟩:=zG (Ao a b p);simp only[q]at m;have D:=zH q;have n:Hid (onP a b p=(decide (x=0)&&(decide (min a.1 b.1<=p.1)&&(decide (p.1<=max a.1 b.1)&&(decide (min a.2 b.2<=p.2)&&decide (p.2<=max a.2 b.2)))))):=by rw[Hid,onP,q]
 clear q;by_cases r:x=0
 ·subst r;by_cases s:min a.1 b.1<=p.1
  ·skip
   by_cases t:p.1<=max a.1 b.1
   ·skip
    by_cases B:min a.2 b.2<=p.2
    ·skip
     have j:Hid (onP a b p=decide (p.2<=max a.2 b.2)):=by rw[Hid,n.o,zu1 s,zu1 t,zu1 B];rfl
     go_enter func174,ntmps174;go_wp2_with(go_at_call 173;refine(m.o _).mono ?_;rintro e w' ⟨rfl,f⟩;obtain⟨k,l⟩:=Cc f;have g:=zH f;clear f)
     go_ret;exact⟨by rw[j.o];rfl,zT i.o g.o⟩
    have j:Hid (onP a b p=false):=by rw[Hid,n.o,zu1 s,zu1 t,zu0 B];rfl
    go_enter func174,ntmps174;go_wp2_with(go_at_call 173;refine(m.o _).mono ?_;rintro e w' ⟨rfl,f⟩;obtain⟨k,l⟩:=Cc f;have g:=zH f;clear f)
    go_ret;exact⟨by rw[j.o];rfl,zT i.o g.o⟩
   have j:Hid (onP a b p=false):=by rw[Hid,n.o,zu1 s,zu0 t];rfl
   go_enter func174,ntmps174;go_wp2_with(go_at_call 173;refine(m.o _).mono ?_;rintro e w' ⟨rfl,f⟩;obtain⟨k,l⟩:=Cc f;have g:=zH f;clear f)
   go_ret;exact⟨by rw[j.o];rfl,zT i.o g.o⟩
  have j:Hid (onP a b p=false):=by rw[Hid,n.o,zu0 s];rfl
  go_enter func174,ntmps174;go_wp2_with(go_at_call 173;refine(m.o _).mono ?_;rintro e w' ⟨rfl,f⟩;obtain⟨k,l⟩:=Cc f;have g:=zH f;clear f)
  go_ret;exact⟨by rw[j.o];rfl,zT i.o g.o⟩
 have j:Hid (onP a b p=false):=by rw[Hid,n.o,zu0 r];rfl
 have C:(x == 0)=false:=by simpa using r
 clear r;go_enter func174,ntmps174;go_wp2_with(go_at_call 173;refine(m.o _).mono ?_;rintro e w' ⟨rfl,f⟩;obtain⟨k,l⟩:=Cc f;have g:=zH f;clear f)
 go_ret;exact⟨by rw[j.o];rfl,zT i.o g.o⟩
theorem Kj{w w':World}{a b c d:Pt}(h:Bw (zw (zw (zw (zw w #[zi a.1,zi a.2] 56) #[zi b.1,zi b.2] 56) #[zi c.1,zi c.2] 56) #[zi d.1,zi d.2] 56) w') :
  (zL w' w.heap.size 0 (zi a.1)∧zL w' w.heap.size 1 (zi a.2))∧(zL w' (w.heap.size+1) 0 (zi b.1)∧zL w' (w.heap.size+1) 1 (zi b.2))∧(zL w' (w.heap.size+1+1) 0 (zi c.1)∧zL w' (w.heap.size+1+1) 1 (zi c.2))∧(zL w' (w.heap.size+1+1+1) 0 (zi d.1)∧zL w' (w.heap.size+1+1+1) 1 (zi d.2)):=by
 have X1:=((((Blk.new w 56 #[zi a.1,zi a.2]).alloc (.cells #[zi b.1,zi b.2] 56)).alloc (.cells #[zi c.1,zi c.2] 56)).alloc (.cells #[zi d.1,zi d.2] 56)).below h;have X2:=(((Blk.new' (zw w #[zi a.1,zi a.2] 56) 56 #[zi b.1,zi b.2] (g:=w.heap.size+1) zP).alloc (.cells #[zi c.1,zi c.2] 56)).alloc (.cells #[zi d.1,zi d.2] 56)).below h;have X3:=((Blk.new' (zw (zw w #[zi a.1,zi a.2] 56) #[zi b.1,zi b.2] 56) 56 #[zi c.1,zi c.2] (g:=w.heap.size+1+1) zP).alloc (.cells #[zi d.1,zi d.2] 56)).below h;have X4:=(Blk.new' (zw (zw (zw w #[zi a.1,zi a.2] 56) #[zi b.1,zi b.2] 56) #[zi c.1,zi c.2] 56) 56 #[zi d.1,zi d.2] (g:=w.heap.size+1+1+1) zP).below h;exact⟨⟨X1.c rfl,X1.c rfl⟩,⟨X2.c rfl,X2.c rfl⟩,⟨X3.c rfl,X3.c rfl⟩,X4.c rfl,X4.c rfl⟩
theorem Xu(x:Int) : -1<=Bb x∧Bb x<=1:=by
 unfold Bb;split
 ·omega
 split <;> omega
theorem nK(x y:Int):IntKind.i64.wrap (Bb x*Bb y)=Bb x*Bb y:=by
 have h:=FE (a:=1) (b:=1) (x:=Bb x) (y:=Bb y) (Xu x) (Xu y);exact zs5 _ zO
theorem Pu(a b c d:Pt)(w:World)(g:inG a)(i:inG b)(j:inG c)(hd:inG d) :
  CP 175 #[.agg #[zi a.1,zi a.2],.agg #[zi b.1,zi b.2],.agg #[zi c.1,zi c.2],.agg #[zi d.1,zi d.2]] w (zR (.bool (GU a b c d)) w):=by
 have k:=zH (xW w a b c d);have s:=λw'=>zH (@Kj w w' a b c d)
 have m:=zH (λW=>IP a b c W g i j);have n:=zH (λW=>IP a b d W g i hd);have p:Hid (GU a b c d=decide (Bb (Ao a b c)*Bb (Ao a b d)<0)):=rfl;have t:=nK (Ao a b c) (Ao a b d);generalize Ao a b c=x at *
 generalize Ao a b d=y at *
 have q:Hid (∀W,CP 107 #[zi x,zi 0] W λe w'=>e=.returned (zi (Bb x))∧W=w'):=λW=>(Tryz.cmp_Compare_int x 0 W).mono λ_ _ h=>⟨h.1,h.2.symm⟩
 have r:Hid (∀W,CP 107 #[zi y,zi 0] W λe w'=>e=.returned (zi (Bb y))∧W=w'):=λW=>(Tryz.cmp_Compare_int y 0 W).mono λ_ _ h=>⟨h.1,h.2.symm⟩
 generalize Bb x=u at *
 generalize Bb y=v at *
 clear g i j hd;go_enter func175,ntmps175
 go_wp2_with fail
 have f:=Below.refl (zw (zw (zw (zw w #[zi a.1,zi a.2] 56) #[zi b.1,zi b.2] 56) #[zi c.1,zi c.2] 56) #[zi d.1,zi d.2] 56).heap.size (zw (zw (zw (zw w #[zi a.1,zi a.2] 56) #[zi b.1,zi b.2] 56) #[zi c.1,zi c.2] 56) #[zi d.1,zi d.2] 56)
 go_region_held3(λw'=>(w'.cell? (ad w.heap.size 0)=some (zi a.1)∧w'.cell? (ad w.heap.size 1)=some (zi a.2))∧(w'.cell? (ad (w.heap.size+1) 0)=some (zi b.1)∧w'.cell? (ad (w.heap.size+1) 1)=some (zi b.2))∧(w'.cell? (ad (w.heap.size+1+1) 0)=some (zi c.1)∧w'.cell? (ad (w.heap.size+1+1) 1)=some (zi c.2))∧(w'.cell? (ad (w.heap.size+1+1+1) 0)=some (zi d.1)∧w'.cell? (ad (w.heap.size+1+1+1) 1)=some (zi d.2)))
  ((refine Kj ?_;repeat(first|(with_reducible exact zJ)|(with_reducible exact f)|(with_reducible refine Below.drew ?_))))
  (first
   | (go_at_call 173;go_must((first|(with_reducible refine(m.o _).mono ?_)|(with_reducible refine(n.o _).mono ?_));rintro e w1 ⟨rfl,l⟩;replace f:=Ag f l;clear l))
   | (go_at_call 107;go_must((first|(with_reducible refine(q.o _).mono ?_)|(with_reducible refine(r.o _).mono ?_));rintro e w1 ⟨rfl,rfl⟩)))
 all_goals
  go_wp2_with fail
  go_ret;exact⟨by rw[p.o];rfl,zT k.o f⟩
theorem nT(n:Nat)(w:World)(J:n<=8800000000000000000):CP 260 #[zi (n:Int)] w λe w'=>e=.returned (zi (CU n:Int))∧w=w':=by
 by_cases s:n<2
 ·have f:Hid (CU n=n):=by rw[Hid,CU,if_pos s]
  go_enter func260,ntmps260;go_wp2;go_ret;exact⟨by rw[f.o];rfl,rfl⟩
 have v:∀W,CP 145 #[.int .u64 (n:Int)] W λe w'=>e=.returned (zi (Bn n:Int))∧W=w':=λW=>by
  have:=Tryz.bits_Len (n:Int) W zO zO;rw[Int.toNat_natCast,RF zO]at this;exact this.mono λ_ _ h=>⟨h.1,h.2.symm⟩
 have E:=Ko (n:=n) zO;have F:=JZ 63 n zO;have f:Hid (CU n=Ei n (2^((Bn n+1)/2))):=by rw[Hid,CU,if_neg s]
 have k:=Px n zO;generalize Bn n=b at *
 obtain⟨r,z⟩:=zG ((b+1)/2);have B:((b:Int)+1)/2=(r:Int):=zO;rw[z]at f k;have g:1<=2^r:=Nat.one_le_two_pow;have i:2^r<=4294967296:=zs0 (Nat.pow_le_pow_right zO k) zD
 have C:IntKind.i64.wrap ((2:Int)^r)=((2^r:Nat):Int):=by
  rw[show((2:Int)^r)=((2^r:Nat):Int)by simp];exact zs5 _ zO
 have l:min r 64=r:=zO;have G:=zH v;clear v z;go_enter func260,ntmps260;go_wp2_with(go_at_call 145;refine(G.o _).mono ?_;rintro e w' ⟨rfl,rfl⟩)
 clear B C l;have H:Hid (zi ((2:Int)^r)=zi ((2^r:Nat):Int)):=by rw[Hid];simp
 go_loop [3] (λt=>∃x:Nat,1<=x∧x<=4294967296∧t=zi (x:Int)∧Hid (Ei n x=CU n)) (λt=>(intOf t).toNat)
 case atStart=>exact⟨2^r,g,i,H.o,f.o.symm⟩
 case round=>
  obtain⟨x,g1,g2,rfl,a⟩:=hrel;clear g i E F k;have hd:n/x<=n:=Nat.div_le_self _ _;have K:=Py (n:=n) (x:=x) zO g1;have L:(n:Int)/(x:Int)=((n/x:Nat):Int):=rfl
  have D:Hid (∀y,y=(x+n/x)/2->(y<x->Ei n y=CU n)∧(¬y<x->x=CU n)):=λy I=>by
   subst I;exact⟨λh=>by rw[<-YN h];exact a.out,λh=>by rw[<-a.out,eK h]⟩
  generalize n/x=q at *
  by_cases j:(x+q)/2<x
  ·have m:=zH ((D.o _ rfl).1 j);have p:¬((x:Int))<=((x:Int)+(q:Int))/2:=zO;go_wp2;go_round
   case rel=>exact⟨(x+q)/2,by omega,by omega,by go_num,m⟩
   case measure=>exact zM
  have m:=zH ((D.o _ rfl).2 j);have p:((x:Int))<=((x:Int)+(q:Int))/2:=zO;go_wp2;go_ret;exact⟨by rw[<-m.o];rfl,rfl⟩
theorem Wg(p q:Pt)(w:World)(a:inG p)(b:inG q) :
  CP 217 #[.agg #[zi p.1,zi p.2],.agg #[zi q.1,zi q.2]] w (zR (zi (LB p q:Int)) w):=by
 have f:Hid (Bw w (zw (zw w #[zi p.1,zi p.2] 56) #[zi q.1,zi q.2] 56)):=(zA _).alloc zP _;obtain⟨s1,s2,s3,s4⟩:=eL a b
 have g:Hid (∀W,CP 260 #[zi (1000000*((q.1-p.1)*(q.1-p.1)+(q.2-p.2)*(q.2-p.2)))] W λe w'=>e=.returned (zi (LB p q:Int))∧W=w'):=λW=>by
  have:=nT (1000000*((q.1-p.1)*(q.1-p.1)+(q.2-p.2)*(q.2-p.2))).toNat W zO;rw[Int.toNat_of_nonneg zO]at this;exact this
 generalize LB p q=z at *
 obtain⟨p1,p2⟩:=p;obtain⟨q1,q2⟩:=q;obtain⟨x1,x2,x3,x4⟩:=a;obtain⟨x5,x6,x7,x8⟩:=b;simp only at *
 have e1:IntKind.i64.wrap (q1-p1)=q1-p1:=zs5 _ zO;have e2:IntKind.i64.wrap (q2-p2)=q2-p2:=zs5 _ zO;go_enter func217,ntmps217
 go_wp2_with fail
 go_quiet (fail)
 clear e1 e2;go_wp2_with(go_at_call 260;refine(g.o _).mono ?_;rintro e w' ⟨rfl,rfl⟩)
 go_ret;exact⟨rfl,Ai f.o _⟩
theorem TZ(A:oA)(n c:Nat)(l:lP)(w:World)(B:Ab 2 Ad w A n l)(J:n<=9223372036854775807) :
  CP 167 #[.slice A n c] w (zR (zi (AK l)) w):=by
 have E:=zH B;have m:=zH B.len;have C:=zH (Gt 216 Av tU A n c l w B J);clear B;by_cases x:40<n
 ·have f:Hid (AK l=5):=cU (by rw[m.o];exact x);go_enter func167,ntmps167;go_wp2;go_ret;exact⟨by rw[f.o];rfl,zJ⟩
 by_cases F:n<2
 ·have f:Hid (AK l=11):=Ys (by rw[m.o];exact x) (by rw[m.o];exact F);go_enter func167,ntmps167;go_wp2;go_ret;exact⟨by rw[f.o];rfl,zJ⟩
 have v:=zH (zu2 (show ¬40<l.length by rw[m.o];exact x) (show ¬l.length<2 by rw[m.o];exact F))
 cases ho:l.any Av
 ·rw[ho]at C;have G:=zH ho;clear ho;go_enter func167,ntmps167;go_wp2_with(go_at_call 85;refine C.o.mono ?_;rintro e w1 ⟨rfl,g⟩;have y:=zH g;clear g)
  go_loopw[15] (λi wr=>∃k:Nat,k<=n-1∧i=zi (k:Int)∧Hid (∀j,j<k->l[j]?≠l[j+1]?)∧Bw w wr) (λi _=>n-(intOf i).toNat)
  case atStart=>exact⟨0,zs3 _,rfl,(λj K=>by omega),y.o⟩
  case round=>
   obtain⟨k,P,rfl,r,a⟩:=hrel;by_cases M:k<n-1
   ·obtain⟨b,N,p,rfl,O,H,c0,c1⟩:=Ap (E.o.on Aa a) (j:=k) zO;obtain⟨b2,L,q,z,_,I,c2,c3⟩:=Ap (E.o.on Aa a) (j:=k+1) zO;injection z with z
    injection z with e1 e2
    subst e1;subst e2;have s:=zH (zu2 H I);have D:=zH a;obtain⟨i1,i2⟩:=zI (k:=k) (n:=n) (by omega);have i3:(k:Int)<(n:Int)-1:=zO;have i4:IntKind.i64.wrap ((k:Int)+1)=(k:Int)+1:=zs5 _ zO;have i5:(0:Int)<=(k:Int)+1:=zO;have i6:((k:Int)+1)<(n:Int):=zO;have i7:((k:Int)+1).toNat=k+1:=zO;have t:=λW=>CL p q W
    clear H I a;by_cases e:p=q
    ·have f:Hid (AK l=11):=cV v.o.1 v.o.2 G.o (i:=k) (by rw[m.o];omega) (by rw[s.o.1,s.o.2,e]);simp only[zu1 e]at t;clear e
     go_wp2_with fail
     go_quiet (fail)
     clear i4 i7 t
     go_wp2_with fail
     go_ret;exact⟨by rw[f.o];rfl,Ai D.o _⟩
    have f:Hid (∀j,j<k+1->l[j]?≠l[j+1]?):=λj K=>by
     by_cases ej:j=k
     ·subst ej;rw[s.o.1,s.o.2];exact λh=>e (zs6 h)
     exact r.out j zO
    simp only[zu0 e]at t;clear e
    go_wp2_with fail
    go_quiet (fail)
    clear i4 i7 t
    go_wp2_with fail
    go_roundw
    case rel=>exact⟨k+1,by omega,by go_num,f,Ai D.o _⟩
    case measure=>exact zM
   have f:Hid (AK l=0):=tG v.o.1 v.o.2 G.o λi hi=>r.out i (by rw[m.o]at hi;omega)
   have D:=zH a;have i3:¬(k:Int)<(n:Int)-1:=zO;clear a r
   go_wp2_with fail
   go_ret;exact⟨by rw[f.o];rfl,D.o⟩
 rw[ho]at C;have f:Hid (AK l=3):=mO v.o.1 v.o.2 ho;clear ho;go_enter func167,ntmps167;go_wp2_with(go_at_call 85;refine C.o.mono ?_;rintro e w1 ⟨rfl,g⟩;have y:=zH g;clear g)
 go_ret;exact⟨by rw[f.o];rfl,y.o⟩
def T0(l:lP)(w:World)(e:Ending)(w':World):Prop:=e=.returned (.tuple #[zi (if AK l=0 then(Dc l:Int)else 0),zi (AK l)])∧Bw w w'
theorem nU{o1 o2:Nat}{a0 a1 b0 b1:Value}(a:g<w.heap.size)(c0:zL w g o1 a0)(c1:zL w g (o1+1) a1)(c2:zL w g o2 b0)(c3:zL w g (o2+1) b1)(b:Bw w w') :
  zL w' g o1 a0∧zL w' g (o1+1) a1∧zL w' g o2 b0∧zL w' g (o2+1) b1:=
 ⟨(b.cell (p:=ad g o1) a).trans c0,(b.cell (p:=ad g (o1+1)) a).trans c1,(b.cell (p:=ad g o2) a).trans c2,(b.cell (p:=ad g (o2+1)) a).trans c3⟩
theorem Pz(A:oA)(n c:Nat)(l:lP)(w:World)(s:Ab 2 Ad w A n l)(X:n<=1000000) :
  CP 170 #[.slice A n c] w (T0 l w):=by
 have L:=zH s;have v:=zH s.len;have D:=zH (TZ A n c l w s zO);clear s;obtain⟨E,F⟩:=zG (AK l);rw[F]at D;have G:=zH F;clear F;by_cases y:E=0
 ·subst y;obtain⟨k1,k2,k3,_⟩:=CB G.o;have H:=zH k3;have k4:n<=40:=by rw[<-v.o];exact k1
  have k5:2<=n:=by rw[<-v.o];exact k2
  clear k1 k2 k3;go_enter func170,ntmps170;go_wp2_with(go_at_call 167;refine D.o.mono ?_;rintro e w1 ⟨rfl,f⟩;have m:=zH f;clear f)
  go_loopw[5,15] (λt i wr=>∃k:Nat,k<=n-1∧t=zi (Hj l k:Int)∧i=zi (k:Int)∧Bw w wr) (λ_ i _=>n-(intOf i).toNat)
  case atStart=>exact⟨0,zs3 _,rfl,rfl,m.o⟩
  case round=>
   obtain⟨k,Y,rfl,rfl,a⟩:=hrel;by_cases U:k<n-1
   ·obtain⟨b,g,p,rfl,M,I,c0,c1⟩:=Ap (L.o.on Aa a) (j:=k) zO;obtain⟨b2,O,q,r,_,J,c2,c3⟩:=Ap (L.o.on Aa a) (j:=k+1) zO;injection r with r
    injection r with e1 e2
    subst e1;subst e2;have P:=λw'=>zH (nU (w':=w') M c0 c1 c2 c3)
    have gp:=H.o p (zq2 I);have gq:=H.o q (zq2 J);have Q:=zH (λW=>Wg p q W gp gq);have R:=XA gp gq;have S:=OO H.o k (by rw[v.o];omega);have K:Hid (Hj l (k+1)=Hj l k+LB p q):=by rw[Hid,Hj,nS I J]
    have B:=zH a;obtain⟨i1,i2⟩:=zI (k:=k) (n:=n) (by omega);have i3:(k:Int)<(n:Int)-1:=zO;have i4:IntKind.i64.wrap ((k:Int)+1)=(k:Int)+1:=zs5 _ zO;have i5:(0:Int)<=(k:Int)+1:=zO;have i6:((k:Int)+1)<(n:Int):=zO;have i7:((k:Int)+1).toNat=k+1:=zO;generalize LB p q=z at *
    generalize Hj l k=x at *
    have i8:IntKind.i64.wrap ((x:Int)+(z:Int))=(x:Int)+(z:Int):=zs5 _ zO;have C:=Below.refl wr.heap.size wr;clear I J a gp gq
    go_wp2_with fail
    go_region_held3(λw'=>w'.cell? (ad b (g+k*2))=some (zi p.1)∧w'.cell? (ad b (g+k*2+1))=some (zi p.2)∧w'.cell? (ad b (g+(k+1)*2))=some (zi q.1)∧w'.cell? (ad b (g+(k+1)*2+1))=some (zi q.2))
     ((refine(P _).out ?_;repeat(first|(with_reducible exact zJ)|(with_reducible exact C)|(with_reducible refine Below.drew ?_))))
     ((go_at_call 217;go_must((with_reducible refine(Q.o _).mono ?_);rintro e w1 ⟨rfl,N⟩;replace C:=Ag C N;clear N)))
    clear i4 i7 i8
    go_wp2_with fail
    go_roundw
    case rel=>exact⟨k+1,by omega,by rw[K.o];rfl,by go_num,zT B.o C⟩
    case measure=>exact zM
   obtain rfl:k=n-1:=zO;have K:Hid (Dc l=Hj l (n-1)):=by rw[Hid,Dc,v.o]
   have B:=zH a;have i3:¬(((n-1:Nat):Int))<(n:Int)-1:=zO;clear a
   go_wp2_with fail
   go_ret2
   refine⟨?_,B.o⟩;rw[G.o,if_pos rfl,K.o];rfl
 have V:(E != 0)=true:=by simpa using y
 have T:=zH y;clear y;go_enter func170,ntmps170;go_wp2_with(go_at_call 167;refine D.o.mono ?_;rintro e w1 ⟨rfl,f⟩;have m:=zH f;clear f)
 go_ret2
 refine⟨?_,m.o⟩;rw[G.o,if_neg T.o];rfl
def tW(x:Pt)(ps:lP)(w:World)(e:Ending)(w':World):Prop:=∃z:Int,e=.returned (zi z)∧decide (0<=z)=decide (x∈ps)∧Bw w w'
theorem YP(A:oA)(n c:Nat)(ps:lP)(x:Pt)(w:World)(t:Ab 2 Ad w A n ps)(I:n<=1000000) :
  CP 172 #[.slice A n c,.agg #[zi x.1,zi x.2]] w (tW x ps w):=by
 have D:=zH t;have E:=zH t.len;have q:=zH (CW x w);have z:=zH (Blk.new w 56 #[zi x.1,zi x.2]);clear t;go_enter func172,ntmps172;go_wp2
 go_loopw[8] (λi wr=>∃k:Nat,k<=n∧i=zi (k:Int)∧Hid (∀(j:Nat)(p:Pt),j<k->ps[j]?=some p->x≠p)∧Bw (zw w #[zi x.1,zi x.2] 56) wr) (λi _=>n-(intOf i).toNat)
 case atStart=>exact⟨0,zs3 _,rfl,(λj p h=>by omega),zJ⟩
 case round=>
  obtain⟨k,J,rfl,f,a⟩:=hrel;have v:=zH (zT q.o a);have B:=zH a;by_cases C:k<n
  ·obtain⟨b,G,p,rfl,H,r,c0,c1⟩:=Ap (D.o.on Aa v.o) C;have s:=zH r;have x0:=(z.o.below a).c (i:=0) rfl;have x1:=(z.o.below a).c (i:=1) rfl;obtain⟨i1,i2⟩:=zI (k:=k) (n:=n) (by omega);have g:=λW=>CL x p W
   clear r a;by_cases e:x=p
   ·have l:Hid (decide (x∈ps)=true):=zu1 (by rw[e];exact zq2 s.o);simp only[zu1 e]at g;clear e
    go_wp2_with fail
    go_quiet (fail)
    clear g
    go_wp2_with fail
    go_ret;exact⟨k,rfl,by rw[l.o];simp,Ai v.o _⟩
   have l:Hid (∀(j:Nat)(p:Pt),j<k+1->ps[j]?=some p->x≠p):=λj p' y m=>by
    by_cases ej:j=k
    ·subst ej;rw[s.o]at m;rw[<-zs6 m];exact e
    exact f.out j p' zO m
   simp only[zu0 e]at g;clear e
   go_wp2_with fail
   go_quiet (fail)
   clear g
   go_wp2_with fail
   go_roundw
   case rel=>exact⟨k+1,by omega,by go_num,l,Ai B.o _⟩
   case measure=>exact zM
  obtain rfl:n=k:=zO
  have l:Hid (decide (x∈ps)=false):=zu0 λF=>by
   obtain⟨j,y⟩:=List.getElem?_of_mem F;exact f.out j x (by have:=(zq1.1 y).1;rw[E.o]at this;exact this) y rfl
  clear f a
  go_wp2_with fail
  go_ret;exact⟨-1,rfl,by rw[l.o];rfl,v.o⟩
theorem S6(A:oA)(n c:Nat)(ps:lP)(x:Pt)(w:World)(b:Ab 2 Ad w A n ps)(i:n<=1000000) :
  CP 126 #[.slice A n c,.agg #[zi x.1,zi x.2]] w (zR (.bool (decide (x∈ps))) w):=by
 have a:=zH (CW x w);have j:=zH (YP A n c ps x _ (b.on Aa a.o) i);clear b;go_enter func126,ntmps126;go_wp2_with(go_at_call 172;refine j.o.mono ?_;rintro e w' ⟨z,rfl,f,g⟩;have k:=zH f;have l:=zH g;clear f g)
 go_ret;exact⟨by rw[<-k.o];rfl,zT a.o l.o⟩
def BK(w:World)(v:Value)(k:Nat)(q:Rat):Prop:=
 ∃a A n c B m d x y,v=.agg #[.bool a,.slice A n c,.slice B m d]∧At w A n c x∧At w B m d y∧n<=k∧m<=k∧rv (sgn a x) y=q
theorem BK.on(h:BK w v k q)(a:Bw w w'):BK w' v k q:=by
 obtain⟨b,A,n,c,B,m,d,x,y,e,f,g,i⟩:=h;exact⟨b,A,n,c,B,m,d,x,y,e,f.on a,g.on a,i⟩
def qk(q:Rat)(k:Nat):Prop:=nl q.num.natAbs<=k∧nl q.den<=k
theorem Tj(a:nl i.natAbs<=k)(b:nl d<=k)(e:1<=k):qk (rv i d) k:=by
 by_cases hd:d=0
 ·subst hd;rw[QL];refine⟨?_,?_⟩
  ·show nl 0<=k;rw[Ld];omega
  exact zs0 (JQ (v:=1) (by unfold bs;omega)) e
 obtain⟨e1,e2⟩:=Tx (i:=i) hd;rw[qk,e1,e2];exact⟨zs0 (MP _ _) a,zs0 (MP _ _) b⟩
theorem qk.mono(h:qk q j)(a:j<=k):qk q k:=⟨zs0 h.1 a,zs0 h.2 a⟩
theorem eM(h:qk q k):1<=k:=zs0 (Le q.den_nz) h.2
theorem BK.qk(h:BK w v k q)(a:1<=k):qk q k:=by
 obtain⟨i,A,n,c,B,m,d,x,y,_,b,e,f,g,rfl⟩:=h;exact Tj (by rw[B7];exact zs0 b.trimmed.1 f) (zs0 e.trimmed.1 g) a
theorem PB(a b:Int)(e:nl a.natAbs<=k)(f:nl b.natAbs<=k):nl (a+b).natAbs<=k+1:=by
 have h:=GW (Int.natAbs_add_le a b);have:=JP a.natAbs b.natAbs;omega
theorem Er(a b:Int)(e:nl a.natAbs<=j)(f:nl b.natAbs<=k):nl (a*b).natAbs<=j+k:=by
 rw[Int.natAbs_mul];have:=Gj a.natAbs b.natAbs;omega
theorem T2(a:qk p j)(b:qk q k):qk (p+q) (j+k+1):=by
 have e:p+q=rv (p.num*q.den+q.num*p.den) (p.den*q.den):=by rw[<-cQ _ _ p.den_nz q.den_nz,FV,FV]
 rw[e];refine Tj (PB _ _ ?_ ?_) (zs0 (Gj _ _) (by have:=a.2;have:=b.2;omega)) zO
 ·exact Er _ _ a.1 (by simpa using b.2)
 rw[Nat.add_comm];exact Er _ _ b.1 (by simpa using a.2)
theorem eN(h:qk q k):qk (-q) k:=by
 refine⟨?_,h.2⟩;rw[Rat.neg_num,Int.natAbs_neg];exact h.1
theorem IS(a:qk p j)(b:qk q k):qk (p*q) (j+k):=by
 have e:p*q=rv (p.num*q.num) (p.den*q.den):=by rw[<-Ty,FV,FV]
 rw[e];have:=eM a;exact Tj (Er _ _ a.1 b.1) (zs0 (Gj _ _) (by have:=a.2;have:=b.2;omega)) zO
theorem BK.of(a:Sl w w.heap.size A n (AC (Aj q.num.natAbs)))(f:n<=c)(b:Sl w w.heap.size B m (AC (Aj q.den)))(g:m<=d)(e:Go.Proofs.YteafekbddckemaaGreatDoor.qk q k) :
  BK w (.agg #[.bool (Ay q.num),.slice A n c,.slice B m d]) k q:=by
 refine⟨_,A,n,c,B,m,d,_,_,rfl,.of_limbs a f,.of_limbs b g,?_,?_,by rw[CV];exact FV q⟩
 ·rw[<-a.ulen];exact e.1
 rw[<-b.ulen];exact e.2
theorem NN(e:Sl w4 w4.heap.size A n (AC (Aj q.num.natAbs)))(f:n<=c)(g:Sl w4 w4.heap.size B m (AC (Aj q.den)))(hd:m<=d)(b:Blk w4 r t cs)(a:∀v∈cs.toList,∀x,v≠.int .u32 x)(i:Bw w w4)(j:w.heap.size<=r) :
  KL q w (.returned (.agg #[.bool (Ay q.num),.slice A n c,.slice B m d])) (((w4.setCell (ad r 0) (.bool (Ay q.num))).setCell (ad r 1) (.slice A n c)).setCell (ad r 2) (.slice B m d)):=
 ⟨A,n,c,B,m,d,rfl,e.no3 (NoU.blk b a) _,f,g.no3 (NoU.blk b a) _,hd,Fi i j _ _ _⟩
end Go.Proofs.YteafekbddckemaaGreatDoor
