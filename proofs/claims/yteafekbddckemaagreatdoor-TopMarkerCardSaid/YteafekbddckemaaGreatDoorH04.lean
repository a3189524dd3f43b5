/- Parts of the proof. -/
import Derived.Test.YteafekbddckemaaGreatDoorH03
set_option maxRecDepth 100000
set_option maxHeartbeats 40000000
namespace Go.Proofs.YteafekbddckemaaGreatDoor
open Tryz Go.RowKit
open Go.Lib hiding intOf
variable{a d i j k n x:Nat}{b:UInt8}{e:As}{l:List ByteArray}{m:Bool}{p q:Pt}{ps:lP}{r:Int}{w w':World}{α:Type}
def sgn(b:Bool)(a:Nat):Int:=if b=true then -(a:Int)else a
theorem Rv(a:Nat):sgn false a=a:=rfl
theorem B7(b:Bool)(a:Nat):(sgn b a).natAbs=a:=by cases b <;> simp[sgn]
def Ay(i:Int):Bool:=decide (i<0)
theorem CV(i:Int):sgn (Ay i) i.natAbs=i:=by
 unfold sgn Ay;by_cases h:i<0
 ·rw[if_pos (by simpa using h)];omega
 rw[if_neg (by simpa using h)];omega
theorem GA(b:Bool)(a:Nat):Ay (sgn b a)=(b&&decide (0<a)):=by
 unfold Ay
 cases b
 ·simp[sgn]
 simp only[sgn,if_true,Bool.true_and,decide_eq_decide];omega
theorem tE(b:Bool)(a:Nat):sgn (!b) a = -sgn b a:=by cases b <;> simp[sgn]
theorem Xl(m n:Bool)(a b:Nat):sgn (m != n) (a*b)=sgn m a*sgn n b:=by cases m <;> cases n <;> simp[sgn,Int.mul_neg,Int.neg_mul]
theorem Tw(m:Bool)(a b:Nat):sgn m (a+b)=sgn m a+sgn m b:=by cases m <;> simp[sgn] <;> omega
theorem Yn{n:Bool}{b:Nat}(e:m≠n)(h:b<=a):sgn m (a-b)=sgn m a+sgn n b:=by
 cases m <;> cases n <;> simp[sgn]at e⊢ <;> omega
theorem Yo{n:Bool}{b:Nat}(e:m≠n)(h:a<=b):sgn n (b-a)=sgn m a+sgn n b:=by
 cases m <;> cases n <;> simp[sgn]at e⊢ <;> omega
def I2(a b:Int):Int:=if a<b then -1 else if b<a then 1 else 0
def rv(i:Int)(d:Nat):Rat:=mkRat i d
theorem FV(q:Rat):rv q.num q.den=q:=Rat.mkRat_self q
theorem QL(i:Int):rv i 0=0:=Rat.mkRat_zero i
theorem Tx{i:Int}(hd:d≠0):(rv i d).num.natAbs=i.natAbs/i.natAbs.gcd d∧(rv i d).den=d/i.natAbs.gcd d:=by
 constructor
 ·rw[rv,Rat.num_mkRat,if_neg hd,Nat.gcd_comm,Int.natAbs_ediv_of_dvd]
  ·simp
  exact Int.ofNat_dvd_left.2 (Nat.gcd_dvd_left _ _)
 rw[rv,Rat.den_mkRat,if_neg hd,Nat.gcd_comm]
theorem OI(hd:d≠0):0<a.gcd d:=Nat.gcd_pos_of_pos_right _ zO
theorem cP{i:Int}(hd:d≠0):Ay (rv i d).num=Ay (sgn (Ay i) (i.natAbs/i.natAbs.gcd d)):=by
 have j:(rv i d).num=i/(i.natAbs.gcd d:Nat):=by rw[rv,Rat.num_mkRat,if_neg hd,Nat.gcd_comm]
 have l:0<i.natAbs.gcd d:=OI hd;have e:((i.natAbs.gcd d:Nat):Int)∣i:=Int.ofNat_dvd_left.2 (Nat.gcd_dvd_left _ _);rw[GA,j];generalize i.natAbs.gcd d=g at *
 obtain⟨k,rfl⟩:=e;have f:(g:Int)≠0:=zO;rw[Int.mul_ediv_cancel_left _ f,Int.natAbs_mul,Int.natAbs_natCast,Nat.mul_div_cancel_left _ l];unfold Ay;by_cases a:k<0
 ·have b:(g:Int)*k<0:=Int.mul_neg_of_pos_of_neg zO a;have m:0<k.natAbs:=zO;simp[a,b,m]
 have b:¬(g:Int)*k<0:=by
  have:=Int.mul_nonneg (by omega:(0:Int)<=g) (by omega:0<=k);omega
 simp[a,b]
theorem cQ(i j:Int){e:Nat}(hd:d≠0)(a:e≠0):rv i d+rv j e=rv (i*e+j*d) (d*e):=Rat.mkRat_add_mkRat i j hd a
theorem Ty(i j:Int)(d e:Nat):rv i d*rv j e=rv (i*j) (d*e):=Rat.mkRat_mul_mkRat i j d e
theorem mK(i:Int)(d:Nat) : -rv i d=rv (-i) d:=Rat.neg_mkRat i d
theorem Pn{i:Int}(hd:d≠0):rv i d=0↔i=0:=Rat.mkRat_eq_zero hd
theorem sL{i j:Int}{e:Nat}(hd:d≠0)(a:e≠0):rv i d=rv j e↔i*e=j*d:=Rat.mkRat_eq_iff hd a
structure Dg where
 name:ByteArray
 base:Rat
 steps:List Rat
structure Cb where
 sizes:List ByteArray
 base:Int
 rows:List Dg
def EW(b:UInt8):Bool:=(decide (65<=b.toNat)&&decide (b.toNat<=90))||(decide (48<=b.toNat)&&decide (b.toNat<=57))
def Bl(l:List UInt8):Bool:=decide (1<=l.length)&&(decide (l.length<=8)&&l.all EW)
theorem Jb{l:List UInt8}:Bl l=true↔1<=l.length∧l.length<=8∧l.all EW=true:=by simp[Bl]
theorem cR{l:List UInt8}(a:l[k]?=some b)(h:EW b=false):Bl l=false:=by
 cases ha:Bl l
 ·rfl
 have:=(Jb.1 ha).2.2;rw[List.all_eq_true]at this;rw[this b (zq2 a)]at h
 cases h
theorem SY{p:UInt8->Bool}{l:List UInt8}(h:(l.take k).all p=true)(a:l[k]?=some b)(hd:p b=true):(l.take (k+1)).all p=true:=by
 rw[List.take_add_one,List.all_append,h,a];simp[hd]
def Iv(n:Nat)(r:Dg):Bool:=AD r.name.data.toList&&(decide (r.steps.length=n)&&decide (r.steps.getD 0 0=0))
theorem MJ{r:Dg}:Iv n r=true↔AD r.name.data.toList=true∧r.steps.length=n∧r.steps.getD 0 0=0:=by simp[Iv]
def Yp(l:List ByteArray)(i:Nat):Bool:=match l[i]? with|some x=>!(decide (x.data.toList∈(l.take i).map λy:ByteArray=>y.data.toList))|none=>true
theorem Tz{x:ByteArray}:(x.data.toList∈l.map λy:ByteArray=>y.data.toList)↔x∈l:=by
 rw[zr2];constructor
 ·rintro⟨y,a,e⟩;rw[<-Pi e];exact a
 intro h;exact⟨x,h,rfl⟩
def Di(l:List ByteArray):Bool:=(List.range l.length).all (Yp l)
theorem IL:Di l=true↔∀i x,l[i]?=some x->x∉l.take i:=by
 unfold Di;rw[List.all_eq_true];constructor
 ·intro h i x b e;have a:=h i (zt8.2 (zq1.1 b).1);rw[Yp,b]at a;simp only[Bool.not_eq_true',decide_eq_false_iff_not,Tz]at a;exact a e
 intro h i hi;rw[zt8]at hi;rw[Yp,zq0 hi];simp only[Bool.not_eq_true',decide_eq_false_iff_not,Tz];exact h i _ (zq0 hi)
theorem TA{x:ByteArray}(a:l[i]?=some x)(b:x∈l.take i):Di l=false:=by
 cases h:Di l
 ·rfl
 exact absurd b (IL.1 h i x a)
def Cb.names(c:Cb):List ByteArray:=c.rows.map (·.name)
def Cb.right(c:Cb):Bool:=decide (1<=c.sizes.length)&&((c.sizes.all λs:ByteArray=>Bl s.data.toList)&&c.rows.all (Iv c.sizes.length))
def LC(c:Cb)(i:Int):Bool:=decide (0<=i)&&decide (i<c.sizes.length)
def Id(c:Cb):Int:=
 if 12<c.sizes.length∨32<c.rows.length then 5
 else if c.right=false then 1
 else if Di c.sizes=false∨Di c.names=false then 7
 else if LC c c.base=false then 3 else 0
section
variable{c:Cb}
theorem mL(h:12<c.sizes.length∨32<c.rows.length):Id c=5:=by rw[Id,if_pos h]
theorem GV(h:¬(12<c.sizes.length∨32<c.rows.length))(a:c.right=false):Id c=1:=by rw[Id,if_neg h,if_pos a]
theorem Rw(h:¬(12<c.sizes.length∨32<c.rows.length))(a:c.right=true)(b:Di c.sizes=false∨Di c.names=false):Id c=7:=by
 rw[Id,if_neg h,if_neg (by simp[a]),if_pos b]
theorem mM(h:¬(12<c.sizes.length∨32<c.rows.length))(a:c.right=true)(b:Di c.sizes=true)(e:Di c.names=true)(f:LC c c.base=false):Id c=3:=by
 rw[Id,if_neg h,if_neg (by simp[a]),if_neg (by simp[b,e]),if_pos f]
theorem cS(h:¬(12<c.sizes.length∨32<c.rows.length))(a:c.right=true)(b:Di c.sizes=true)(e:Di c.names=true)(f:LC c c.base=true):Id c=0:=by
 rw[Id,if_neg h,if_neg (by simp[a]),if_neg (by simp[b,e]),if_neg (by simp[f])]
theorem Kg:c.right=true↔1<=c.sizes.length∧(∀(i:Nat)(s:ByteArray),c.sizes[i]?=some s->Bl s.data.toList=true)∧(∀(i:Nat)(r:Dg),c.rows[i]?=some r->Iv c.sizes.length r=true):=by
 unfold Cb.right;rw[Bool.and_eq_true,Bool.and_eq_true,decide_eq_true_iff,List.all_eq_true,List.all_eq_true];refine and_congr_right λ_=>and_congr ?_ ?_
 ·exact⟨λh i s a=>h s (zq2 a),λh s a=>by obtain⟨i,hi⟩:=List.getElem?_of_mem a;exact h i s hi⟩
 exact⟨λh i s a=>h s (zq2 a),λh s a=>by obtain⟨i,hi⟩:=List.getElem?_of_mem a;exact h i s hi⟩
theorem V4(h:c.sizes.length=0):c.right=false:=by
 cases hr:c.right
 ·rfl
 have:=(Kg.1 hr).1;omega
theorem Yq{s:ByteArray}(a:c.sizes[i]?=some s)(h:Bl s.data.toList=false):c.right=false:=by
 cases hr:c.right
 ·rfl
 rw[(Kg.1 hr).2.1 i s a]at h;cases h
theorem MK{r:Dg}(a:c.rows[i]?=some r)(h:Iv c.sizes.length r=false):c.right=false:=by
 cases hr:c.right
 ·rfl
 rw[(Kg.1 hr).2.2 i r a]at h;cases h
end
structure Aw where
 name:ByteArray
 edges:List As
 grain:Int
 notches:List (Int×Int)
 corners:List Pt
 widths:List Int
 match_:Bool
structure Dw where
 piece:Int
 count:Int
 pair:Bool
structure Gs where
 pa:Int
 ea:Int
 pb:Int
 eb:Int
 rev:Bool
 ease:Int
structure POp where
 name:ByteArray
 machine:Int
 minutes:Int
 after:List Int
 uses:List Int
structure Al where
 name:ByteArray
 sizes:List ByteArray
 multiples:List Int
 pieces:List Aw
 uses:List Dw
 seams:List Gs
 ops:List POp
structure QM where
 ticket:Int
 garment:Int
 size:Int
 lot:Int
 from_:Int
 to_:Int
structure NG where
 name:ByteArray
 machines:List Int
structure NH where
 ticket:Int
 op:Int
 worker:Int
 at_:Int
deriving DecidableEq
def DF(s:Pt):Bool:=!(decide (-1000<=s.1)&&(decide (s.1<=1000)&&(decide (-1000<=s.2)&&decide (s.2<=1000))))
def AB(p:Aw):Int:=
 if p.corners.length≠p.edges.length then 1 else if p.corners.any DF=true then 3 else Aq p.edges
def Fh(p:Aw)(n:Int×Int):Int:=
 if n.1<0∨(p.edges.length:Int)<=n.1 then 3
 else if Dc (p.edges.getD n.1.toNat ⟨ByteArray.empty,[]⟩).line<1∨1099511627776<Dc (p.edges.getD n.1.toNat ⟨ByteArray.empty,[]⟩).line∨n.2<0∨(Dc (p.edges.getD n.1.toNat ⟨ByteArray.empty,[]⟩).line:Int)<n.2 then 3 else 0
def Cm(p:Aw):Int:=if AB p≠0 then AB p else if 16<p.notches.length then 5 else Cj (p.notches.map (Fh p))
def Fn(p:Aw):Int:=if p.widths.length≠p.edges.length then 1 else if (p.widths.any λw=>decide (w<0)||decide (500<w))=true then 3 else 0
def BD(earlier:List Aw)(p:Aw):Int:=
 if AD p.name.data.toList=false then 1 else if p.grain≠1∧p.grain≠2∧p.grain≠4 then 1
 else if Dz p.name (earlier.map (·.name))=true then 7 else if AB p≠0 then AB p else if Cm p≠0 then Cm p else Fn p
def AM(s:Al):Int:=
 if AD s.name.data.toList=false∨s.sizes.length=0 then 1
 else if (s.sizes.all λz:ByteArray=>Bl z.data.toList)=false then 1
 else if s.multiples.length≠s.sizes.length∨0∉s.multiples then 1
 else if Di s.sizes=false then 7
 else if 12<s.sizes.length∨12<s.pieces.length∨12<s.uses.length then 5
 else if 24<s.seams.length∨16<s.ops.length then 5
 else if (s.multiples.any λm=>decide (m < -100)||decide (100<m))=true then 3 else 0
def Ie(s:Al)(u:Dw):Int:=if u.piece<0∨(s.pieces.length:Int)<=u.piece∨u.count<1∨4<u.count then 3 else 0
def Dd(s:Al)(piece edge:Int):Bool:=decide (0<=piece)&&(decide (piece<s.pieces.length)&&(decide (0<=edge)&&decide (edge<((s.pieces.map λp=>p.edges.length).getD piece.toNat 0:Nat))))
def LD(s:Al)(m:Gs):Int:=if Dd s m.pa m.ea=false∨Dd s m.pb m.eb=false then 3 else if m.ease<0 then 1 else 0
def EI(s:Al):Int:=Cj ((List.range s.pieces.length).map λi=>match s.pieces[i]? with|some p=>BD (s.pieces.take i) p|none=>0)
def AA(s:Al):Int:=
 if AM s≠0 then AM s else if EI s≠0 then EI s else if Cj (s.uses.map (Ie s))≠0 then Cj (s.uses.map (Ie s))else Cj (s.seams.map (LD s))
def sM(paid:List NH)(t op:Int):Bool:=paid.any λx=>decide (x.ticket=t)&&decide (x.op=op)
def Aae(paid:List NH)(t:Int):Int:=(paid.filter λx=>decide (x.ticket=t)).foldl (λ_ x=>x.at_) 0
def AaK(w:NG)(m:Int):Bool:=w.machines.contains m
def mN(s:Al)(bs:List QM)(ws:List NG)(paid:List NH)(x:NH):Int:=
 if (bs.any λb=>decide (b.ticket=x.ticket))=false∨x.op<0∨(s.ops.length:Int)<=x.op∨x.worker<0∨(ws.length:Int)<=x.worker∨x.at_<0∨1073741824<x.at_ then 3
 else match s.ops[x.op.toNat]?,ws[x.worker.toNat]? with
 | some o,some w=>if AaK w o.machine=false then 4 else if sM paid x.ticket x.op=true then 2 else if (o.after.all λa=>sM paid x.ticket a)=false then 5 else if x.at_<Aae paid x.ticket then 6 else 1
 | _,_=>3
section
variable{α : Type}
def Ab(s:Nat)(G:World->α->List Value->Prop)(w:World)(A:oA)(n:Nat)(xs:List α):Prop:=
 xs.length=n∧(0<n->∃b a,A=some ⟨b,a,none⟩∧b<w.heap.size∧∀j x,xs[j]?=some x->∃vs,G w x vs∧∀i u,vs[i]?=some u->w.cell? (ad b (a+j*s+i))=some u)
def GC(G:World->α->List Value->Prop):Prop:=∀w w' x vs,Bw w w'->G w x vs->G w' x vs
variable{s:Nat}{G:World->α->List Value->Prop}{w w':World}{A:oA}{n:Nat}{xs:List α}
theorem Ab.len(h:Ab s G w A n xs):xs.length=n:=h.1
theorem Ab.nil(s:Nat)(G:World->α->List Value->Prop)(w:World)(A:oA):Ab s G w A 0 []:=⟨rfl,λh=>absurd h zO⟩
theorem Ab.on(h:Ab s G w A n xs)(k:GC G)(g:Bw w w'):Ab s G w' A n xs:=
 ⟨h.1,λl=>by
  obtain⟨b,a,e,f,m⟩:=h.2 l;refine⟨b,a,e,zs1 f g.size,λj x o=>?_⟩;obtain⟨vs,q,r⟩:=m j x o;exact⟨vs,k _ _ _ _ g q,λi u t=>(g.cell (p:=ad b (a+j*s+i)) f).trans (r i u t)⟩⟩
theorem Ab.at_(h:Ab s G w A n xs)(k:j<n):∃b a x vs,A=some ⟨b,a,none⟩∧b<w.heap.size∧xs[j]?=some x∧G w x vs∧∀i u,vs[i]?=some u->w.cell? (ad b (a+j*s+i))=some u:=by
 obtain⟨b,a,e,f,l⟩:=h.2 zO;have g:j<xs.length:=by rw[h.1];exact k
 obtain⟨vs,m,o⟩:=l j _ (zq0 g);exact⟨b,a,_,vs,e,f,zq0 g,m,o⟩
theorem Ab.take(h:Ab s G w A n xs)(hi:i<=n):Ab s G w A i (xs.take i):=by
 refine⟨by rw[zq7,h.1];omega,λl=>?_⟩;obtain⟨b,f,e,g,k⟩:=h.2 zO;refine⟨b,f,e,g,λj x a=>k j x ?_⟩;rw[zr8]at a;split at a
 ·exact a
 cases a
end
def Ad(_:World)(p:Pt)(vs:lV):Prop:=vs=[zi p.1,zi p.2]
def CQ(w:World)(e:As)(vs:lV):Prop:=∃A n c,vs=[.string e.name,.slice A n c]∧Ab 2 Ad w A n e.line∧n<=c
def K8(w:World)(p:Aw)(vs:lV):Prop:=∃A n c B m d C l e D k f,
 vs=[.string p.name,.slice A n c,zi p.grain,.slice B m d,.slice C l e,.slice D k f,.bool p.match_]∧Ab 2 CQ w A n p.edges∧n<=c∧Ab 2 Ad w B m p.notches∧m<=d∧Ab 2 Ad w C l p.corners∧l<=e∧Sl w w.heap.size D k (Ar p.widths)∧k<=f
def TB(_:World)(u:Dw)(vs:lV):Prop:=vs=[zi u.piece,zi u.count,.bool u.pair]
def Po(_:World)(m:Gs)(vs:lV):Prop:=vs=[zi m.pa,zi m.ea,zi m.pb,zi m.eb,.bool m.rev,zi m.ease]
def opG(w:World)(o:POp)(vs:lV):Prop:=∃A n c B m d,
 vs=[.string o.name,zi o.machine,zi o.minutes,.slice A n c,.slice B m d]∧Sl w w.heap.size A n (Ar o.after)∧n<=c∧Sl w w.heap.size B m (Ar o.uses)∧m<=d
theorem Aa:GC Ad:=λ_ _ _ _ _ h=>h
theorem JK:GC TB:=λ_ _ _ _ _ h=>h
theorem Rx:GC Po:=λ_ _ _ _ _ h=>h
theorem Bq:GC CQ:=λ_ _ _ _ a ⟨A,n,c,b,e,f⟩=>⟨A,n,c,b,e.on Aa a,f⟩
theorem FW:GC K8:=λ_ _ _ _ a ⟨A,n,c,B,m,d,C,l,e,D,k,f,b,g,i,j,o,p,q,r,t⟩=>
 ⟨A,n,c,B,m,d,C,l,e,D,k,f,b,g.on Bq a,i,j.on Aa a,o,p.on Aa a,q,r.on a,t⟩
theorem tF:GC opG:=λ_ _ _ _ a ⟨A,n,c,B,m,d,b,e,f,g,i⟩=>⟨A,n,c,B,m,d,b,e.on a,f,g.on a,i⟩
structure Co(w:World)(s:Al)(Z:oA)(z zc:Nat)(M:oA)(m mc:Nat)(P:oA)(p pc:Nat)(U:oA)(u uc:Nat)(E:oA)(e ec:Nat)(O:oA)(o oc:Nat):Prop where
 sizes:Sl w w.heap.size Z z (Hh s.sizes)
 mults:Sl w w.heap.size M m (Ar s.multiples)
 pieces:Ab 7 K8 w P p s.pieces
 uses:Ab 3 TB w U u s.uses
 seams:Ab 6 Po w E e s.seams
 ops:Ab 5 opG w O o s.ops
 zcap:z<=zc
 mcap:m<=mc
 pcap:p<=pc
 ucap:u<=uc
 ecap:e<=ec
 ocap:o<=oc
theorem Co.on{s:Al}{Z M P U E O:oA}{z zc m mc p pc u uc e ec o oc:Nat}(h:Co w s Z z zc M m mc P p pc U u uc E e ec O o oc)(a:Bw w w'):Co w' s Z z zc M m mc P p pc U u uc E e ec O o oc:=
 ⟨h.sizes.on a,h.mults.on a,h.pieces.on FW a,h.uses.on JK a,h.seams.on Rx a,h.ops.on tF a,h.zcap,h.mcap,h.pcap,h.ucap,h.ecap,h.ocap⟩
section
variable{w:World}{A:oA}{n:Nat}
theorem Ap(h:Ab 2 Ad w A n ps)(i:j<n):∃b a p,A=some ⟨b,a,none⟩∧b<w.heap.size∧ps[j]?=some p∧zL w b (a+j*2) (zi p.1)∧zL w b (a+j*2+1) (zi p.2):=by
 obtain⟨b,a,p,vs,e,f,k,l,g⟩:=h.at_ i;subst l;exact⟨b,a,p,e,f,k,g 0 _ rfl,g 1 _ rfl⟩
end
section
variable{p:lP}
theorem mP(h:40<p.length):An p=5:=by rw[An,if_pos h]
theorem tH(h:¬40<p.length)(a:p.length<3):An p=11:=by rw[An,if_neg h,if_pos a]
theorem tI(h:¬40<p.length)(a:¬p.length<3)(b:p.any Av=true):An p=3:=by rw[An,if_neg h,if_neg a,if_pos b]
theorem cX(h:¬40<p.length)(a:¬p.length<3)(b:p.any Av=false)(e:BZ p=false):An p=11:=by rw[An,if_neg h,if_neg a,if_neg (by simp[b]),if_pos e]
theorem xI(h:¬40<p.length)(a:¬p.length<3)(b:p.any Av=false)(e:BZ p=true):An p=0:=by rw[An,if_neg h,if_neg a,if_neg (by simp[b]),if_neg (by simp[e])]
end
theorem Kh{f:Nat->Int}(hi:i<n)(b:∀j,j<i->f j=0)(h:f i≠0):Cj ((List.range n).map f)=f i:=
 MI (i:=i) (λj x e a=>by
  rw[zr5,zt4 zO]at a;obtain rfl:=zs6 a;exact b j e) (by rw[zr5,zt4 hi];rfl) h
theorem Iw{f:Nat->Int}(e:∀j,j<n->f j=0):Cj ((List.range n).map f)=0:=
 KJ λj x a=>by
  have b:j<n:=by
   have:=(zq1.1 a).1;simpa using this
  rw[zr5,zt4 b]at a;obtain rfl:=zs6 a;exact e j b
theorem ML{α : Type}{xs:List α}{x : α}{f : α->Int}(e:xs[i]?=some x)(g:∀j y,j<i->xs[j]?=some y->f y=0)(h:f x≠0):Cj (xs.map f)=f x:=
 MI (i:=i) (λj y k a=>by
  rw[zr5,Option.map_eq_some_iff]at a;obtain⟨z,b,rfl⟩:=a;exact g j z k b) (by rw[zr5,e];rfl) h
theorem Ix{xs:List α}{f : α->Int}(e:∀(j:Nat)(y : α),xs[j]?=some y->f y=0):Cj (xs.map f)=0:=
 KJ λj y a=>by
  rw[zr5,Option.map_eq_some_iff]at a;obtain⟨z,b,rfl⟩:=a;exact e j z b
section
variable{l:List As}
theorem cY(h:16<l.length):Aq l=5:=by rw[Aq,if_pos h]
theorem mQ(h:¬16<l.length)(a:l.length<2):Aq l=11:=by rw[Aq,if_neg h,if_pos a]
theorem MM(h:¬16<l.length)(f:¬l.length<2){e:Int}(hi:i<l.length)(g:∀j,j<i->Dt l j=0)(a:Dt l i=e)(b:e≠0):Aq l=e:=by
 have k:=Kh hi g (by rw[a];exact b);rw[Aq,if_neg h,if_neg f,k,if_pos (by rw[a];exact b),a]
theorem cZ(h:¬16<l.length)(a:¬l.length<2)(b:∀j,j<l.length->Dt l j=0)(hi:i<l.length)(e:IK l i=false):Aq l=11:=by
 have f:=Iw b;rw[Aq,if_neg h,if_neg a,f,if_neg zP,if_pos (IM hi e)]
theorem dA(h:¬16<l.length)(a:¬l.length<2)(b:∀j,j<l.length->Dt l j=0)(e:∀i,i<l.length->IK l i=true):Aq l=An (AL l):=by
 have f:=Iw b;rw[Aq,if_neg h,if_neg a,f,if_neg zP,if_neg (by rw[LE e];simp)]
theorem Ej(h:Aq l=0):l.length<=16∧2<=l.length∧∀(j:Nat)(e:As),l[j]?=some e->AK e.line=0:=by
 unfold Aq at h;split at h
 ·cases h
 split at h
 ·cases h
 split at h
 ·rename_i a;exact absurd h a
 rename_i n o a;refine⟨by omega,by omega,λj e i=>?_⟩;have b:=(zq1.1 i).1
 have f:∀j,j<l.length->Dt l j=0:=by
  intro j;induction j using Nat.strongRecOn with
  | _ j ih=>
   intro b;by_cases g:Dt l j=0
   ·exact g
   exact absurd (λe=>g ((Kh b (λk m=>ih k m zO) g).symm.trans e)) a
 have:=f j b;unfold Dt at this;rw[i]at this;simp only at this;split at this
 ·cases this
 split at this
 ·cases this
 exact this
end
theorem dB{l:List As}(a:l[i]?=some e)(h:AD e.name.data.toList=false):Dt l i=1:=by
 rw[Dt,a];simp[h]
theorem Yt{l:List As}(a:l[i]?=some e)(h:AD e.name.data.toList=true)(b:Dz e.name ((l.take i).map (·.name))=true):Dt l i=7:=by
 rw[Dt,a];simp only[h,b];rfl
theorem dC{l:List As}(a:l[i]?=some e)(h:AD e.name.data.toList=true)(b:Dz e.name ((l.take i).map (·.name))=false):Dt l i=AK e.line:=by
 rw[Dt,a];simp only[h,b];rfl
theorem N8{α : Type}{xs:List α}{f : α->ByteArray}{x y : α}(a:j<i)(b:xs[j]?=some y)(e:f y=f x):Dz (f x) ((xs.take i).map f)=true:=by
 unfold Dz;rw[decide_eq_true_iff,List.map_map];refine zr2.2 ⟨y,?_,by simp[e]⟩;exact zq2 (i:=j) (by rw[zr8,if_pos a];exact b)
theorem Pp{α : Type}{xs:List α}{f : α->ByteArray}{s:ByteArray}(h:∀j y,j<i->xs[j]?=some y->f y≠s):Dz s ((xs.take i).map f)=false:=by
 unfold Dz;rw[decide_eq_false_iff_not,List.map_map];intro g;obtain⟨y,k,e⟩:=zr2.1 g;obtain⟨j,a⟩:=List.getElem?_of_mem k;rw[zr8]at a;split at a
 ·rename_i b;refine h j y b a ?_;exact ByteArray.ext (Array.toList_inj.1 e)
 cases a
theorem Yu{l:List As}(h:l[i]?=some e):AL (l.take (i+1))=AL (l.take i)++e.line.dropLast:=by
 have hi:=(zq1.1 h).1
 have:l.take (i+1)=l.take i++[e]:=by
  rw[List.take_add_one,h];rfl
 rw[this,AL,AL,zr7];simp
structure Az where
 flip:Bool
 quarter:Int
deriving DecidableEq
def Fj(t:Az):Nat:=(t.quarter%4).toNat
def YK:Nat->Pt->Pt
 | 0,s=>s
 | k+1,s=>YK k (-s.2,s.1)
def BU(t:Az)(s:Pt):Pt:=YK (Fj t) (if t.flip then(-s.1,s.2)else s)
def AU(t:Az)(p:lP):List Pt:=if t.flip then(p.map (BU t)).reverse else p.map (BU t)
def BF(grain:Int)(mirrored:Bool)(t:Az):Bool:=
 decide (t.flip=mirrored)&&(if grain=1 then decide (Fj t=0)else if grain=2 then decide (Fj t=0)||decide (Fj t=2)else decide (grain=4))
def Cp(grain:Int)(mirrored:Bool):List Az:=([0,1,2,3].map λq:Int=>Az.mk mirrored q).filter (BF grain mirrored)
def Kk(p:lP):Int:=((List.range p.length).map λi=>(vtx p i).1*(vtx p (i+1)).2-(vtx p i).2*(vtx p (i+1)).1).foldl (· + ·) 0
def AQ(p:lP):Int:=if An p≠0 then 0 else Kk p
def Jh(p:lP)(i:Nat):Int:=Ao (vtx p (i+p.length-1)) (vtx p i) (vtx p (i+1))
def GZ(c:lP):Nat:=(List.range c.length).foldl (λf i=>if (vtx c i).1<(vtx c f).1∨((vtx c i).1=(vtx c f).1∧(vtx c i).2<(vtx c f).2)then i else f) 0
def JT(p:lP):List Pt:=((List.range p.length).filter λi=>decide (Jh p i≠0)).map (vtx p)
def D2(p:lP):Except Int (List Pt):=
 if An p≠0 then .error (An p)else
  let c:=if Kk p<0 then(JT p).reverse else JT p
  .ok (c.drop (GZ c)++c.take (GZ c))
structure QO where
 x:Int
 y:Int
 w:Int
 h:Int
def EK(p:lP):Except Int QO:=
 if An p≠0 then .error (An p)else
  let lo:=p.foldl (λl s=>(min l.1 s.1,min l.2 s.2)) (vtx p 0)
  let hi:=p.foldl (λl s=>(max l.1 s.1,max l.2 s.2)) (vtx p 0)
  .ok ⟨lo.1,lo.2,hi.1-lo.1,hi.2-lo.2⟩
def DA(p:lP)(d:Pt):List Pt:=p.map λs=>(s.1+d.1,s.2+d.2)
def IQ(a b c q:Pt):Int:=
 if (Av q||Av a||Av b||Av c)=true then -1 else
 if Ao a b c=0 then -1 else
  let m:=if Ao a b c<0 then min (min (Ao a c q) (Ao c b q)) (Ao b a q)else min (min (Ao a b q) (Ao b c q)) (Ao c a q)
  if 0<m then 1 else if m=0 then 0 else -1
def DB(l:lP)(i:Nat):Pt:=vtx l (i+l.length-1)
def El(l:lP)(i:Nat):Bool:=decide (Ao (DB l i) (vtx l i) (vtx l (i+1))=0)
def Iz(l:lP)(i:Nat):Bool:=
 decide (0<Ao (DB l i) (vtx l i) (vtx l (i+1))) &&
 l.all λq=>decide (q=DB l i)||(decide (q=vtx l i)||(decide (q=vtx l (i+1))||decide (IQ (DB l i) (vtx l i) (vtx l (i+1)) q<0)))
def Cq:Nat->List Pt->List (List Pt)->Except Int (List (List Pt))
 | 0,l,r=>.ok (r++[l])
 | k+1,l,r=>
  if l.length<=3 then .ok (r++[l])else
  match(List.range l.length).find? (El l)with
  | some i=>Cq k (l.eraseIdx i) r
  | none=>match(List.range l.length).find? (Iz l)with
   | some i=>Cq k (l.eraseIdx i) (r++[[DB l i,vtx l i,vtx l (i+1)]])
   | none=>.error 11
def BN(p:lP):Except Int (List (List Pt)):=match D2 p with
 | .error e=>.error e
 | .ok f=>Cq f.length f []
def JU(a b:lP):Int:=((List.range a.length).map λi=>b.foldl (λm v=>max m (Bb (Ao (vtx a i) (vtx a (i+1)) v))) (-1)).foldl min 1
def EX(a b:lP):Int:=min (JU a b) (JU b a)
def CM(a b:lP):Except Int Int:=match BN a with
 | .error e=>.error e
 | .ok s=>match BN b with
  | .error e=>.error e
  | .ok t=>.ok ((s.flatMap λx=>t.map λy=>EX x y).foldl max (-1))
def BJ(a b:lP):Except Int Bool:=match CM a b with
 | .error e=>.error e
 | .ok r=>.ok (decide (r=1))
def CF(a b:Pt):Bool:=decide (a.1<b.1)||(decide (a.1=b.1)&&decide (a.2<b.2))
def LL(x:Pt):List Pt->List Pt
 | []=>[x]
 | y::l=>if x=y then y::l else if CF x y=true then x::y::l else y::LL x l
def Dx(l:lP):List Pt:=l.foldr LL []
def Ev(p:Pt):List Pt->List Pt
 | b::a::r=>if Ao a b p<=0 then Ev p (a::r)else b::a::r
 | r=>r
def BG(l:lP):List Pt:=l.foldl (λr p=>p::Ev p r) []
def Be(l:lP):List Pt:=(BG l).reverse.dropLast
def D8(l:lP):Option (List Pt):=
 let s:=Dx l
 if s.length<3 then none else
  let r:=Be s++Be s.reverse
  if r.length<3 then none else some r
def Em(p:Pt):Bool:=decide (p.1 < -4194304)||(decide (4194304<p.1)||(decide (p.2 < -4194304)||decide (4194304<p.2)))
def DL(l:lP):Except Int (List Pt):=if 160<l.length then .error 5 else if l.any Em=true then .error 3 else match D8 l with
 | none=>.error 11
 | some r=>.ok r
def Fv(a b:lP):Except Int (List Pt):=match DL a with
 | .error e=>.error e
 | .ok x=>match DL b with
  | .error e=>.error e
  | .ok y=>
   let r:=(D8 (x.flatMap λp=>y.map λq=>(p.1+q.1,p.2+q.2))).getD []
   if r.any Em=true then .error 3 else if 160<r.length then .error 5 else .ok r
def Hl(p:lP):List Pt:=p.map λs=>(-s.1,-s.2)
def AE{α : Type}:List (Except Int α)->Except Int (List α)
 | []=>.ok []
 | .error e::_=>.error e
 | .ok x::l=>match AE l with
  | .error e=>.error e
  | .ok r=>.ok (x::r)
def Cr:List Pt->List Pt->Bool
 | [],[]=>false
 | [],_::_=>true
 | _::_,[]=>false
 | a::l,b::m=>if a=b then Cr l m else CF a b
def Hm(x:lP):List (List Pt)->List (List Pt)
 | []=>[x]
 | y::l=>if x=y then y::l else if Cr x y=true then x::y::l else y::Hm x l
def Cx(a b:lP):Except Int (List (List Pt)):=match BN a with
 | .error e=>.error e
 | .ok s=>match BN b with
  | .error e=>.error e
  | .ok t=>match AE (s.flatMap λx=>t.map λy=>Fv x (Hl y))with
   | .error e=>.error e
   | .ok l=>.ok (l.foldr Hm [])
def CN(r:lP)(d:Pt):Bool:=((List.range r.length).all λi=>decide (0<Ao (vtx r i) (vtx r (i+1)) d))&&decide (0<r.length)
def CX(rs:List (List Pt))(d:Pt):Bool:=!(decide (d.1 < -2097152)||(decide (2097152<d.1)||(decide (d.2 < -2097152)||decide (2097152<d.2))))&&rs.any λr=>CN r d
def Cs(a b:lP):Except Int (List Pt):=match Cx a b with
 | .error e=>.error e
 | .ok rs=>.ok ((Dx (rs.flatMap id)).filter λv=>!CX rs v)
def AV(n:Int):Int:=if n<1∨1048576<n then 0 else n
def BC(n:Int):Int:=min (max n (-1048576)) 1048576
def D4(n k:Int):Int:=if k=0 then 0 else n%k
def DJ(r a:Pt):Pt:=(D4 (BC a.1) (AV r.1),D4 (BC a.2) (AV r.2))
def EY(r a b:Pt):Pt:=(BC a.1+D4 (BC b.1-BC a.1) (AV r.1),BC a.2+D4 (BC b.2-BC a.2) (AV r.2))
structure Ae where
 poly:List Pt
 grain:Int
 match_:Bool
 anchor:Pt
structure AG where
 length:Int
 width:Int
 rx:Int
 ry:Int
structure Am where
 shape:Int
 turn:Az
 at_:Pt
deriving DecidableEq
def Af(ss:List Ae)(p:Am):Except Int (List Pt):=
 if p.shape<0∨(ss.length:Int)<=p.shape∨Av p.at_=true then .error 3 else
  let poly:=((ss.map (·.poly)).getD p.shape.toNat [])
  if An poly≠0 then .error (An poly)else
   let q:=DA (AU p.turn poly) p.at_
   if An q≠0 then .error (An q)else .ok q
def BV(b:AG):Bool:=decide (b.length<1)||(decide (1048576<b.length)||(decide (b.width<1)||decide (1048576<b.width)))
def CH(r:Pt)(anchor:Pt)(p:Am):Bool:=
 !Av anchor&&(let i:=BU p.turn anchor
  let j:=(i.1+p.at_.1,i.2+p.at_.2)
  !Av j&&decide (DJ r j=DJ r (0,0)))
def Cu(ss:List Ae)(poly:lP):List Am->Int
 | []=>0
 | o::l=>match Af ss o with
  | .error e=>e
  | .ok q=>match BJ q poly with
   | .error e=>e
   | .ok true=>14
   | .ok false=>Cu ss poly l
def Bh(b:AG)(ss:List Ae)(puts:List Am)(p:Am):Int:=
 if BV b=true then 3 else match Af ss p with
  | .error e=>e
  | .ok poly=>
   let s:=(ss.getD p.shape.toNat ⟨[],0,false,(0,0)⟩)
   if BF s.grain false p.turn=false then 12 else
   if (poly.any λv=>decide (v.1<0)||(decide (b.length<v.1)||(decide (v.2<0)||decide (b.width<v.2))))=true then 13 else
   if (s.match_ && !CH (b.rx,b.ry) s.anchor p)=true then 15 else Cu ss poly puts
def Ce(b:AG)(ss:List Ae)(puts:List Am):Int:=if 60<puts.length then 5 else Cj ((List.range puts.length).map λi=>Bh b ss (puts.take i) (puts.getD i ⟨0,⟨false,0⟩,(0,0)⟩))
def De(ss:List Ae)(puts:List Am):Except Int Int:=match AE (puts.map (Af ss))with
 | .error e=>.error e
 | .ok l=>.ok (match l.flatMap id with
  | []=>0
  | v::r=>r.foldl (λm s=>max m s.1) v.1)
def AJ{α : Type}[DecidableEq α](l:List α)(xs:List α):List α:=xs.foldl (λl x=>if x∈l then l else l++[x]) l
def BO(b:AG)(a:lP)(placed:List (List Pt)):Except Int (List Pt):=match EK a with
 | .error e=>.error e
 | .ok k=>
  let x0:=-k.x
  let y0:=-k.y
  let y1:=b.width-k.y-k.h
  match AE (placed.map λq=>Cs q a)with
  | .error e=>.error e
  | .ok l=>.ok (AJ [] ([(x0,y0),(x0,y1)]++(l.flatMap id).flatMap λv=>[v,(v.1,y0),(v.1,y1),(x0,v.2)]))
def Df(r:Pt)(s:Ae)(t:Az)(p:Pt):Option Pt:=
 if s.match_=false then some p else if Av s.anchor=true then none else
  let a:=BU t s.anchor
  let i:=(a.1+p.1,a.2+p.2)
  if Av i=true then none else
   let n:=EY r i (0,0)
   some (n.1-a.1,n.2-a.2)
def Fx(b:AG)(s:Ae)(t:Az)(a:lP)(placed:List (List Pt)):Except Int (List Pt):=match BO b a placed with
 | .error e=>.error e
 | .ok l=>.ok (Dx (l.filterMap (Df (b.rx,b.ry) s t)))
def Hn(a b:Am×Int):Bool:=
 if a.2≠b.2 then decide (a.2<b.2)else if a.1.at_.2≠b.1.at_.2 then decide (a.1.at_.2<b.1.at_.2)else if a.1.at_.1≠b.1.at_.1 then decide (a.1.at_.1<b.1.at_.1)else decide (a.1.turn.quarter<b.1.turn.quarter)
def Eo:List (Am×Int)->Option (Am×Int)
 | []=>none
 | x::l=>some (l.foldl (λm y=>if Hn y m=true then y else m) x)
def B8(b:AG)(ss:List Ae)(puts:List Am)(placed:List (List Pt))(k:Nat)(s:Ae)(t:Az):Except Int (Option (Am×Int)):=match Af ss ⟨k,t,(0,0)⟩with
 | .error e=>.error e
 | .ok turned=>match EK turned with
  | .error e=>.error e
  | .ok x=>match Fx b s t turned placed with
   | .error e=>.error e
   | .ok l=>.ok ((l.find? λa=>decide (Bh b ss puts ⟨k,t,a⟩=0)).map λa=>(⟨k,t,a⟩,a.1+x.x+x.w))
def DM(b:AG)(ss:List Ae)(puts:List Am)(k:Nat):Except Int Am:=
 if BV b=true then .error 3 else match Af ss ⟨k,⟨false,0⟩,(0,0)⟩with
 | .error e=>.error e
 | .ok _=>match AE (puts.map (Af ss))with
  | .error e=>.error e
  | .ok placed=>
   let s:=ss.getD k ⟨[],0,false,(0,0)⟩
   match AE ((Cp s.grain false).map (B8 b ss puts placed k s))with
   | .error e=>.error e
   | .ok l=>match Eo (l.filterMap id)with
    | none=>.error 18
    | some x=>.ok x.1
def Ch(b:AG)(ss:List Ae):List Nat->List Am->Except Int (List Am)
 | [],puts=>.ok puts
 | k::l,puts=>match DM b ss puts k with
  | .error e=>.error e
  | .ok p=>Ch b ss l (puts++[p])
def Ep(p:lP):Int:=max (AQ p) (-AQ p)
def G6(ss:List Ae)(i:Nat):List Nat->List Nat
 | []=>[i]
 | j::l=>if Ep ((ss.map (·.poly)).getD i [])>Ep ((ss.map (·.poly)).getD j [])then i::j::l else j::G6 ss i l
def Gk(ss:List Ae):List Nat:=(List.range ss.length).foldl (λl i=>G6 ss i l) []
theorem MQ(l:List Int):∀(i z:Int),l.foldl max i<=z↔i<=z∧∀x∈l,x<=z:=by
 induction l with
 | nil=>intro i z;simp
 | cons a l ih=>
  intro i z;rw[List.foldl_cons,ih];constructor
  ·rintro⟨f,e⟩;refine⟨by omega,λx b=>?_⟩;rcases zr3.1 b with rfl|b
   ·omega
   exact e x b
  rintro⟨f,e⟩;have g:=e a zP;exact⟨by omega,λx b=>e x (by simp[b])⟩
theorem QP{l m:List Int}{i:Int}(h:∀x,x∈l↔x∈m):l.foldl max i=m.foldl max i:=by
 have e:∀z,l.foldl max i<=z↔m.foldl max i<=z:=λz=>by
  rw[MQ,MQ];constructor <;> rintro⟨a,b⟩ <;> exact⟨a,λx f=>b x (by first|exact(h x).2 f|exact(h x).1 f)⟩
 have g:=(e (m.foldl max i)).2 (Int.le_refl _);have j:=(e (l.foldl max i)).1 (Int.le_refl _);omega
theorem MR(a b:lP):EX a b=EX b a:=by
 unfold EX;exact Int.min_comm _ _
theorem S4{a b:lP}(h:CM a b=.ok r):CM b a=.ok r:=by
 unfold CM at h⊢
 cases hs:BN a with
 | error e=>rw[hs]at h;cases h
 | ok s=>
  cases ht:BN b with
  | error e=>rw[hs,ht]at h;cases h
  | ok t=>
   rw[hs,ht]at h;simp only at h⊢
   rw[<-h];congr 1;refine QP λx=>?_
   simp only[List.mem_flatMap,zr2];constructor
   ·rintro⟨y,f,z,g,rfl⟩;exact⟨z,g,y,f,MR _ _⟩
   rintro⟨y,f,z,g,rfl⟩;exact⟨z,g,y,f,MR _ _⟩
theorem TV{a b:lP}{x:Bool}(h:BJ a b=.ok x):BJ b a=.ok x:=by
 unfold BJ at h⊢
 cases hr:CM a b with
 | error e=>rw[hr]at h;cases h
 | ok r=>
  rw[hr]at h;rw[S4 hr];exact h
theorem RE:∀(k n:Nat),n<2^k->Lib.bitLenAux k n=Bn n
 | 0,n,h=>by
  obtain rfl:n=0:=zO;rw[Lib.bitLenAux,Bn]
 | k+1,n,h=>by
  rw[Lib.bitLenAux];split
  ·rename_i e;rw[e,Bn]
  rename_i e;obtain⟨m,rfl⟩:∃m,n=m+1:=⟨n-1,by omega⟩;rw[Bn,RE k _ (by rw[Nat.pow_succ]at h;omega),Nat.add_comm]
theorem RF(h:n<18446744073709551616):Lib.bitLen n=Bn n:=RE 64 n h
theorem JZ:∀(k n:Nat),n<2^k->Bn n<=k
 | k,0,_=>by rw[Bn];omega
 | 0,n+1,h=>by omega
 | k+1,n+1,h=>by
  rw[Bn];have:=JZ k ((n+1)/2) (by rw[Nat.pow_succ]at h;omega);omega
termination_by _ n=>n
decreasing_by omega
theorem Ko(h:1<=n):1<=Bn n:=by
 obtain⟨m,rfl⟩:∃m,n=m+1:=⟨n-1,by omega⟩;rw[Bn];omega
theorem nQ(n x:Nat):Ei n x<=x:=by
 induction x using Nat.strongRecOn with
 | _ x ih=>
  rw[Ei];split
  ·rename_i h;have:=ih _ h;omega
  exact zs2 _
theorem YN(h:(x+n/x)/2<x):Ei n x=Ei n ((x+n/x)/2):=by rw[Ei,if_pos h]
theorem eK(h:¬(x+n/x)/2<x):Ei n x=x:=by rw[Ei,if_neg h]
theorem Px(n:Nat)(h:n<9223372036854775808):(Bn n+1)/2<=32:=by
 have:=JZ 63 n h;omega
theorem nR(h:n<9223372036854775808):CU n<=4294967296:=by
 unfold CU;split
 ·omega
 refine zs0 (nQ _ _) ?_;exact zs0 (Nat.pow_le_pow_right zO (Px n h)) zD
theorem Py(a:2<=n)(b:1<=x):1<=(x+n/x)/2:=by
 by_cases h:x=1
 ·subst h;rw[Nat.div_one];omega
 have:2<=x:=zO;generalize n/x=q;omega
theorem eL(e:inG p)(f:inG q) :
  0<=(q.1-p.1)*(q.1-p.1)∧(q.1-p.1)*(q.1-p.1)<=4398046511104∧0<=(q.2-p.2)*(q.2-p.2)∧(q.2-p.2)*(q.2-p.2)<=4398046511104:=by
 obtain⟨p1,p2,p3,p4⟩:=e;obtain⟨q1,q2,q3,q4⟩:=f;have g:=FE (x:=q.1-p.1) (y:=q.1-p.1) (a:=2097152) (b:=2097152) ⟨by omega,by omega⟩ ⟨by omega,by omega⟩;have i:=FE (x:=q.2-p.2) (y:=q.2-p.2) (a:=2097152) (b:=2097152) ⟨by omega,by omega⟩ ⟨by omega,by omega⟩
 have s1:0<=(q.1-p.1)*(q.1-p.1):=by
  have:=Int.natAbs_mul_self (a:=q.1-p.1);omega
 have s2:0<=(q.2-p.2)*(q.2-p.2):=by
  have:=Int.natAbs_mul_self (a:=q.2-p.2);omega
 refine⟨s1,?_,s2,?_⟩
 ·have:=g.2;simpa using this
 have:=i.2;simpa using this
theorem XA(a:inG p)(b:inG q):LB p q<=4294967296:=by
 obtain⟨e,f,g,i⟩:=eL a b;unfold LB;exact nR zO
theorem OO{l:lP}(h:∀p∈l,inG p):∀i,i<l.length->Hj l i<=i*4294967296
 | 0,_=>by rw[Hj];omega
 | i+1,hi=>by
  have ih:=OO h i zO
  have g1:l.getD i (0,0)∈l:=by
   rw[zq3,zq0 zO];exact List.getElem_mem _
  have g2:l.getD (i+1) (0,0)∈l:=by
   rw[zq3,zq0 hi];exact List.getElem_mem _
  have:=XA (h _ g1) (h _ g2);rw[Hj,Th];omega
theorem nS{l:lP}(a:l[i]?=some p)(b:l[i+1]?=some q):Th l i=LB p q:=by
 rw[Th,zq3,zq3,a,b];rfl
theorem YO{l:lP}(h:AK l=0):Dc l<=171798691840:=by
 obtain⟨b,e,a,_⟩:=CB h;have:=OO a (l.length-1) zO;unfold Dc;omega
end Go.Proofs.YteafekbddckemaaGreatDoor
