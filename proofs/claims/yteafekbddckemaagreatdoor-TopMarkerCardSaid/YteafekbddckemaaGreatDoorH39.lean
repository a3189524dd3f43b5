/- Parts of the proof. -/
import Derived.Test.YteafekbddckemaaGreatDoorH16
set_option maxRecDepth 100000
set_option maxHeartbeats 40000000
namespace Go.Proofs.YteafekbddckemaaGreatDoor
open Tryz Go.RowKit
open Go.Lib hiding intOf
variable{A:oA}{B a b c g j k n:Nat}{T e t:TypeId}{W w w' w1 w2:World}{a0 a1 a2 a3 a4 a5:Value}{bs:lV}{hi lo z:Int}{l zs:List Int}{m:Au}{p:Ac}{v:List UInt8}
theorem wV(h:W.ownsRow a e 1 (.slice A n c) n (Ar zs)):Sl W W.heap.size A n (Ar zs)∧n<=c:=by
 refine⟨⟨by have:=h.1;omega,λk=>?_⟩,?_⟩
 ·rcases h.2 with⟨e1,e2⟩|⟨b,cap,cur,e1,_,f,_,_,_,l⟩
  ·omega
  injection e1 with e1
  subst e1;refine⟨b,0,rfl,(Array.getElem?_eq_some_iff.1 f).1,λj u i=>?_⟩;have:=h.cells (g:=b) rfl _ _ i;rw[Go.WideShapes.add_plain]at this;exact this
 rcases h.2 with⟨e1,e2⟩|⟨b,cap,cur,e1,_,_,m,_⟩
 ·omega
 injection e1 with _ _ e3
 omega
def Aaz(l:List Int)(w:World)(e:Ending)(w':World):Prop:=∃A c,e=.returned (.tuple #[.slice A l.length c,zY])∧Sl w' w'.heap.size A l.length (Ar l)∧l.length<=c∧(0<l.length->∃g,A=some ⟨g,0,none⟩∧w.heap.size<=g)∧Bw w w'
theorem kL(h:l[k]?=some z):Ar (l.take (k+1))=Ar (l.take k)++[zi z]:=by
 unfold Ar;rw[List.take_add_one,h];simp
theorem rN(h:Sl w w.heap.size A n ((zs.map itoa).map λu=>Value.string (bytes u)))(g:k<n):∃b a z,A=some ⟨b,a,none⟩∧b<w.heap.size∧zs[k]?=some z∧zL w b (a+k) (.string (bytes (itoa z))):=by
 obtain⟨b,a,u,e,i,f,j⟩:=h.at_ g;rw[List.map_map,zr5,Option.map_eq_some_iff]at f;obtain⟨z,l,rfl⟩:=f;exact⟨b,a,z,e,i,l,j⟩
theorem K1(A:oA)(n c:Nat)(zs:List Int)(w:World)(t:Sl w w.heap.size A n ((zs.map itoa).map λu=>Value.string (bytes u)))(f:∀z∈zs,inW z)(N:n<=1000) :
  CP 78 #[.slice A n c] w (Aaz zs w):=by
 have H:=zH t;have I:=zH f;have x:zs.length=n:=by have:=t.len;simpa using this
 have j:=zH x;clear t f x;go_enter func78,ntmps78
 go_wp2_with fail
 go_loopw[4,6,7,8,11,12,13,14,15,16,17,18,19,20,21,22,23,24,25,26] (λv _ _ _ i _ _ _ _ _ _ _ _ _ _ _ _ _ _ _ wr=>∃(k:Nat)(A1:oA)(c1:Nat),k<=n∧i=zi (k:Int)∧v=.slice A1 k c1∧Hid (wr.ownsRow w.heap.size 3 1 (.slice A1 k c1) k (Ar (zs.take k))∧Bw w wr)) (λ_ _ _ _ i _ _ _ _ _ _ _ _ _ _ _ _ _ _ _ _=>n-(intOf i).toNat)
 case atStart=>exact⟨0,none,0,zs3 _,rfl,rfl,⟨World.ownsRow_nil _ _ _ _,zJ⟩⟩
 case round=>
  obtain⟨k,A1,c1,O,rfl,rfl,a⟩:=hrel;by_cases y:k<n
  ·obtain⟨b,M,z,rfl,B,f,c0⟩:=rN (H.o.on a.o.2) y;have C:=zH (λW=>bA z W (I.o z (zq2 f)));have J:=zH (kL f);obtain⟨s,D⟩:=zG (bytes (itoa z));rw[D]at c0 C;obtain⟨i1,i2⟩:=zI (k:=k) (n:=n) (by omega);clear f D
   go_wp2_with(first
    | (go_at_call 116;go_must((refine(C.o _).mono ?_);rintro e w2 ⟨rfl,l⟩;have q:=zH (Ah a.o.1 l);have m:=zH (a.o.2.trans (l.mono a.o.2.size));clear l))
    | (at_builtin;refine Bt (P:=prog) (by rfl) _ _ 23 (by rfl) w.heap.size 3 (zi 0) 1 8 underlying23 J2 rfl zD (.slice A1 k c1) k (Ar (zs.take k)) (by rfl) (Ah q.o (by exact zA _)) ⟨w2.heap.size,0,none⟩ 1 1 [zi z] (by rfl) (by rfl) (QT w2 z) (QU z) zU zO (by have:=m.o.size;simp;omega) ?_;intro v7 w7 p r E;obtain⟨A7,c7,rfl⟩:=AX p;have F:=zH (zu2 (J.o ▸ p:w7.ownsRow w.heap.size 3 1 (.slice A7 (k+1) c7) (k+1) (Ar (zs.take (k+1)))) (Ax (Below.alo m.o _) r (by have:=m.o.size;simp;omega) (λg e=>(q.o.lt g e).1)));clear p r E))
   go_roundw
   case rel=>exact⟨k+1,A7,c7,by omega,by go_num,rfl,F⟩
   case measure=>exact zM
  obtain rfl:n=k:=zO
  go_wp2_with fail
  go_ret2
  obtain⟨G,K⟩:=wV a.o.1;rw[zq4 (Nat.le_of_eq j.o)]at G;refine⟨A1,c1,?_,?_,?_,λL=>?_,a.o.2⟩
  ·rw[j.o];rfl
  ·rw[j.o];exact G
  ·rw[j.o];exact K
  rcases a.o.1.2 with⟨e1,e2⟩|⟨g,cap,cur,e1,B,_⟩
  ·rw[j.o]at L;omega
  injection e1 with e1
  exact⟨g,e1,B⟩
theorem Yh(h:l[k]?=some z)(a:z<lo∨hi<z):inR lo hi l=false:=by
 unfold inR;rw[List.all_eq_false];refine⟨z,zq2 h,?_⟩;simp only[Bool.and_eq_true,decide_eq_true_eq];omega
theorem rO(h:∀(k:Nat)(z:Int),l[k]?=some z->lo<=z∧z<=hi):inR lo hi l=true:=by
 refine Li λz a=>?_
 obtain⟨k,b⟩:=List.getElem?_of_mem a;exact h k z b
theorem Fu(lo hi:Int)(A:oA)(n c:Nat)(zs:List Int)(w:World)(f:Sl w w.heap.size A n (Ar zs))(F:n<=9223372036854775807) :
  CP 24 #[zi lo,zi hi,.slice A n c] w λe w'=>e=.returned (.bool (inR lo hi zs))∧w=w':=by
 have v:=zH f;have p:zs.length=n:=f.ilen;have x:=zH p;clear f p;go_enter func24,ntmps24
 go_wp2_with fail
 go_loop [8,11] (λ_ i=>∃k:Nat,k<=n∧i=zi (k:Int)∧Hid (∀(j:Nat)(z:Int),j<k->zs[j]?=some z->lo<=z∧z<=hi)) (λ_ i=>n-(intOf i).toNat)
 case atStart=>exact⟨0,zs3 _,rfl,λj z h=>absurd h zO⟩
 case round=>
  obtain⟨k,G,rfl,q⟩:=hrel;by_cases r:k<n
  ·obtain⟨b,D,z,rfl,E,s,c0⟩:=v.o.int_ r;have g:=zH s;obtain⟨i1,i2⟩:=zI (k:=k) (n:=n) (by omega);clear s;by_cases B:z<lo
   ·have a:=zH (Yh (lo:=lo) (hi:=hi) g.o (.inl B))
    go_wp2_with fail
    go_ret;rw[a.o];exact⟨rfl,rfl⟩
   by_cases C:hi<z
   ·have a:=zH (Yh (lo:=lo) (hi:=hi) g.o (.inr C))
    go_wp2_with fail
    go_ret;rw[a.o];exact⟨rfl,rfl⟩
   have t:Hid (∀(j:Nat)(z:Int),j<k+1->zs[j]?=some z->lo<=z∧z<=hi):=λj y l m=>by
    by_cases e:j=k
    ·subst e;rw[g.o]at m;obtain rfl:=zs6 m;omega
    exact q.o j y zO m
   go_wp2_with fail
   go_round
   case rel=>exact⟨k+1,by omega,by go_num,t⟩
   case measure=>exact zM
  obtain rfl:n=k:=zO;have a:Hid (inR lo hi zs=true):=rO λj z l=>q.o j z (by have:=(zq1.1 l).1;rw[x.o]at this;exact this) l
  go_wp2_with fail
  go_ret;rw[a.o];exact⟨rfl,rfl⟩
theorem H7(h:Blk w g T (Ar zs).toArray):Sl w w.heap.size (sa g 0) zs.length (Ar zs):=by
 refine⟨by simp[Ar],λ_=>⟨g,0,rfl,h.lt,λj u a=>?_⟩⟩;rw[Nat.zero_add];exact h.c (by simpa using a)
def EG(m:Au)(S:oA)(n c:Nat)(P:oA)(k d:Nat):Array Value:=#[zi m.length,zi m.width,zi m.repeat_.1,zi m.repeat_.2,.slice S n c,.slice P k d]
theorem I8(w:World)(o1 o2:Obj):Bw w ((w.alloc o1).alloc o2):=(zA _).alloc zP _
theorem yU(w:World)(o1 o2 o3:Obj):Bw w (((w.alloc o1).alloc o2).alloc o3):=(I8 w o1 o2).alloc zQ _
theorem VI(m:Au)(S:oA)(n c:Nat)(P:oA)(k d:Nat)(w:World) :
  CP 23 #[.agg (EG m S n c P k d)] w (zR (.bool (EN m)) w):=by
 have a:=zH (H7 (zs:=[m.length,m.width,m.repeat_.1,m.repeat_.2]) (Blk.new' (zw w (EG m S n c P k d) 40) 3 #[zi m.length,zi m.width,zi m.repeat_.1,zi m.repeat_.2] (g:=w.heap.size+1) zP));have b:=zH (Fu 0 1048576 _ 4 4 [m.length,m.width,m.repeat_.1,m.repeat_.2] _ a.o zO);have f:Hid (inR 0 1048576 [m.length,m.width,m.repeat_.1,m.repeat_.2]=EN m):=rfl;have i:=zH (I8 w (.cells (EG m S n c P k d) 40) (.cells #[zi m.length,zi m.width,zi m.repeat_.1,zi m.repeat_.2] 3));rw[f.o]at b;generalize EN m=R at *
 unfold EG at *
 clear a f;go_enter func23,ntmps23;go_wp2_with(go_at_call 24;go_must((refine b.o.mono ?_);rintro e w2 ⟨rfl,rfl⟩))
 go_ret;exact⟨rfl,i.o⟩
def AN(p:Ac):List Value:=[zi p.garment,zi p.use,zi p.copy,.bool p.turn.flip,zi p.turn.quarter,zi p.at_.1,zi p.at_.2]
theorem Yi(p:Ac)(w:World) :
  CP 27 #[.agg #[zi p.garment,zi p.use,zi p.copy,.bool p.turn.flip,zi p.turn.quarter,zi p.at_.1,zi p.at_.2]] w (zR (.bool (Cw p)) w):=by
 obtain⟨W1,l⟩:=zG (w.alloc (.cells #[zi p.garment,zi p.use,zi p.copy,.bool p.turn.flip,zi p.turn.quarter,zi p.at_.1,zi p.at_.2] 58));have b:W1.heap.size=w.heap.size+1:=by rw[<-l];simp
 have m:=H7 (zs:=[p.garment,p.use,p.copy]) (Blk.new' W1 3 #[zi p.garment,zi p.use,zi p.copy] (g:=w.heap.size+1) b);have n:=H7 (zs:=[p.turn.quarter]) (Blk.new' (W1.alloc (.cells #[zi p.garment,zi p.use,zi p.copy] 3)) 3 #[zi p.turn.quarter] (g:=w.heap.size+1+1) (by simp[b]));have q:=H7 (zs:=[p.at_.1,p.at_.2]) (Blk.new' ((W1.alloc (.cells #[zi p.garment,zi p.use,zi p.copy] 3)).alloc (.cells #[zi p.turn.quarter] 3)) 3 #[zi p.at_.1,zi p.at_.2] (g:=w.heap.size+1+1+1) (by simp[b]));subst l;have a:=Fu 0 1048576 _ 3 3 [p.garment,p.use,p.copy] _ m zO;have f:=Fu 0 3 _ 1 1 [p.turn.quarter] _ n zO;have i:=Fu (-1048576) 1048576 _ 2 2 [p.at_.1,p.at_.2] _ q zO;have r:Hid (Cw p=(inR 0 1048576 [p.garment,p.use,p.copy]&&(inR 0 3 [p.turn.quarter]&&inR (-1048576) 1048576 [p.at_.1,p.at_.2]))):=rfl;have j:=zH (I8 w (.cells #[zi p.garment,zi p.use,zi p.copy,.bool p.turn.flip,zi p.turn.quarter,zi p.at_.1,zi p.at_.2] 58) (.cells #[zi p.garment,zi p.use,zi p.copy] 3));have k:=zH (j.o.alloc j.o.size (.cells #[zi p.turn.quarter] 3));have s:=zH (k.o.alloc k.o.size (.cells #[zi p.at_.1,zi p.at_.2] 3));rw[r.o];generalize inR 0 1048576 [p.garment,p.use,p.copy]=r1 at *
 generalize inR 0 3 [p.turn.quarter]=r2 at *
 generalize inR (-1048576) 1048576 [p.at_.1,p.at_.2]=r3 at *
 have a:=zH a;have f:=zH f;have i:=zH i;clear m n q r b
 cases r1 with
 | false=>
  go_enter func27,ntmps27;go_wp2_with(go_at_call 24;(with_reducible refine a.o.mono ?_);rintro e w2 ⟨rfl,rfl⟩)
  go_ret;exact⟨rfl,j.o⟩
 | true=>
  cases r2 with
  | false=>
   go_enter func27,ntmps27;go_wp2_with(go_at_call 24;(first|(with_reducible refine a.o.mono ?_)|(with_reducible refine f.o.mono ?_));rintro e w2 ⟨rfl,rfl⟩)
   go_ret;exact⟨rfl,k.o⟩
  | true=>
   go_enter func27,ntmps27;go_wp2_with(go_at_call 24;(first|(with_reducible refine a.o.mono ?_)|(with_reducible refine f.o.mono ?_)|(with_reducible refine i.o.mono ?_));rintro e w2 ⟨rfl,rfl⟩)
   go_ret;exact⟨rfl,s.o⟩
theorem IZ(a b:List UInt8):bytes a++bytes b=bytes (a++b):=by
 simp[bytes,ByteArray.ext_iff]
theorem bB(t:List UInt8)(h:l[k]?=some z):AO t (l.take (k+1))=AO t (l.take k)++([32]++itoa z):=by
 unfold AO;rw[List.take_add_one,h];simp
theorem He(t:List UInt8):∀l:List Int,(∀z∈l,inW z)->(AO t l).length<=t.length+15*l.length
 | [],_=>by simp[AO]
 | z::l,h=>by
  have a:=He t l λx b=>h x (by simp[b])
  have e:=Ju (h z zP);unfold AO at a⊢
  simp only[zq5,List.flatMap_cons,zt5]at a⊢
  omega
theorem Jv(t:List UInt8)(A:oA)(n c:Nat)(zs:List Int)(w:World)(r:Std w)(m:Sl w w.heap.size A n (Ar zs))(a:∀z∈zs,inW z)(R:n<=1000)(S:t.length<=1000) :
  CP 26 #[.string (bytes t),.slice A n c] w (zR (.string (bytes (AO t zs))) w):=by
 have K:=zH m;have L:=zH r;have p:=zH a;have B:zs.length=n:=m.ilen;have M:=zH B;have C:bytes t=bytes (AO t (zs.take 0)):=by simp[AO]
 have D:=zH C;clear m r a B C;obtain⟨s0,g⟩:=zG (bytes t);rw[g]at D⊢
 clear g;go_enter func26,ntmps26
 go_wp2_with fail
 go_loopw[0,6,9,10,11,12,13,14,15,16,17,18] (λv _ i _ _ _ _ _ _ _ _ _ wr=>∃(k:Nat)(s:ByteArray),k<=n∧i=zi (k:Int)∧v=.string s∧Hid (s=bytes (AO t (zs.take k)))∧Hid (Bw w wr)) (λ_ _ i _ _ _ _ _ _ _ _ _ _=>n-(intOf i).toNat)
 case atStart=>exact⟨0,s0,zs3 _,rfl,rfl,D,zH zJ⟩
 case round=>
  obtain⟨k,s,T,rfl,rfl,q,f⟩:=hrel;by_cases E:k<n
  ·obtain⟨b,O,z,rfl,P,a,c0⟩:=(K.o.on f.o).int_ E;have F:=p.o z (zq2 a);unfold inW at F;have G:=zH (λW (h:Bw w W)=>rJ z W (L.o.below h) zO zO)
   have H:Hid (bytes (AO t (zs.take (k+1)))=s++(⟨#[32]⟩++bytes (itoa z))):=by
    rw[Hid,q.o,bB t a,show(⟨#[32]⟩:ByteArray)=bytes [32]from rfl,IZ,IZ]
   obtain⟨i1,i2⟩:=zI (k:=k) (n:=n) (by omega)
   have Q:s.size<=16000:=by
    rw[q.o,Eu];have:=He t (zs.take k) λy N=>p.o y (List.mem_of_mem_take N)
    rw[zq7]at this;omega
   have j:=Ju (p.o z (zq2 a));rw[<-Eu]at j;obtain⟨x,I⟩:=zG (bytes (itoa z));rw[I]at G H j;have c1:¬9223372036854775807<1+x.size:=zO;have c2:¬9223372036854775807<s.size+(1+x.size):=zO;clear a I;go_wp2_with(go_at_call 42;go_must((refine(G.o _ f.o).mono ?_);rintro e w2 ⟨rfl,l⟩;have J:=zH (zT f.o l);clear l))
   go_roundw
   case rel=>exact⟨k+1,_,by omega,by go_num,rfl,H.o.symm,J⟩
   case measure=>exact zM
  obtain rfl:n=k:=zO
  go_wp2_with fail
  go_ret;refine⟨?_,f.o⟩;have h:=q.o;rw[zq4 (Nat.le_of_eq M.o)]at h;rw[<-h];rfl
def Gy(B b:Nat)(l:List UInt8)(w:World):Prop:=Lib.IsBuilder 94 5 B b (byteCells l) w
theorem Gy.fresh(w:World):Gy w.heap.size w.heap.size [] (zw w #[.pointer none,zn] 94):=
 .inl ⟨zs2 _,_,heap_alloc_new w _,World.ownsRow_nil _ _ _ _,by simp[Value.ownBlock]⟩
theorem VJ{p:Value}(h:Lib.BuilderAt 94 5 B b p bs w)(a:Bw w w'):Lib.BuilderAt 94 5 B b p bs w':=by
 have e:=h.lt;obtain⟨f,v,g,i,j⟩:=h;exact⟨f,v,(a.block b e).trans g,Ah i a,j⟩
theorem Gy.on{l:List UInt8}(h:Gy B b l w)(a:Bw w w'):Gy B b l w':=by
 rcases h with h|h
 ·exact .inl (VJ h a)
 exact .inr (VJ h a)
theorem KE(B b:Nat)(l:List UInt8)(s:ByteArray)(w:World)(h:Gy B b l w)(f:l.length+s.size<=2000000000)(a:B<=w.heap.size) :
  CP 25 #[.pointer (sa b 0),.string s] w λe w'=>e=.returned (.tuple #[zi s.size,.nilIface])∧Gy B b (l++s.data.toList) w'∧Below B w w':=by
 refine(PS B b (byteCells l) s w h (by rw[byteCells_length];omega) a).mono ?_;rintro e w' ⟨rfl,g,i,j⟩;refine⟨rfl,.inr ?_,i⟩;rw[byteCells_append,<-strCells_eq];exact g
def Dy(_:World)(p:Ac)(vs:lV):Prop:=vs=AN p
theorem Ba:GC Dy:=λ_ _ _ _ _ h=>h
theorem EB{l:List Ac}(h:Ab 7 Dy w A n l)(i:k<n):∃b a p,A=some ⟨b,a,none⟩∧b<w.heap.size∧l[k]?=some p∧zL w b (a+k*7) (zi p.garment)∧zL w b (a+k*7+1) (zi p.use)∧zL w b (a+k*7+2) (zi p.copy)∧zL w b (a+k*7+3) (.bool p.turn.flip)∧zL w b (a+k*7+4) (zi p.turn.quarter)∧zL w b (a+k*7+5) (zi p.at_.1)∧zL w b (a+k*7+6) (zi p.at_.2):=by
 obtain⟨b,a,p,vs,e,g,j,o,f⟩:=h.at_ i;subst o;exact⟨b,a,p,e,g,j,f 0 _ rfl,f 1 _ rfl,f 2 _ rfl,f 3 _ rfl,f 4 _ rfl,f 5 _ rfl,f 6 _ rfl⟩
def Fd(m:Au)(j:Nat):List UInt8:=(AO Bm [m.length,m.width,m.repeat_.1,m.repeat_.2]++[10])++(AO Br m.sizes++[10])++(m.places.take j).flatMap FH
theorem kM(h:m.places[j]?=some p):Fd m (j+1)=Fd m j++FH p:=by
 unfold Fd;rw[List.take_add_one,h];simp
theorem rP(m:Au):Fd m m.places.length=E4 m:=by
 unfold Fd E4;rw[zq4 (zs2 _)]
theorem rQ(l:m.sizes.length<=6)(n:m.places.length<=60)(e:EN m=true)(f:inR 0 1048576 m.sizes=true)(g:∀(i:Nat)(p:Ac),i<j->m.places[i]?=some p->Cw p=true):(Fd m j).length<=20000:=by
 have a1:=GJ Bm [m.length,m.width,m.repeat_.1,m.repeat_.2] λz a=>by
  have:=F7 e z a;omega
 have a2:=GJ Br m.sizes λz a=>by
  have:=F7 f z a;omega
 have a3:=LY (m.places.take j) λp k=>by
  obtain⟨i,hi⟩:=List.getElem?_of_mem k;have b:=(zq1.1 hi).1;rw[zq7]at b;rw[zr8,if_pos zO]at hi;exact g i p zO hi
 rw[zq7]at a3;unfold Fd;simp only[zq5,zt5,List.length_nil,Bm,Br]at a1 a2⊢
 omega
def AaA(m:Au)(w:World)(e:Ending)(w':World):Prop:=e=.returned (.tuple #[.string (if CZ m=0 then bytes (E4 m)else⟨#[]⟩),zi (CZ m)])∧Bw w w'
section
variable{m:Au}
theorem rR(a:m.sizes.length<=6)(b:m.places.length<=60)(h:EN m=false):CZ m=3:=by
 unfold CZ;rw[if_neg zO,if_pos (.inl h)]
theorem kN(a:m.sizes.length<=6)(b:m.places.length<=60)(h:inR 0 1048576 m.sizes=false):CZ m=3:=by
 unfold CZ;rw[if_neg zO,if_pos (.inr h)]
theorem kO(f:m.sizes.length<=6)(g:m.places.length<=60)(a:EN m=true)(b:inR 0 1048576 m.sizes=true)(e:m.places[j]?=some p)(h:Cw p=false):CZ m=3:=by
 unfold CZ;rw[if_neg zO,if_neg (by rw[a,b];simp),if_pos (List.any_eq_true.2 ⟨p,zq2 e,by rw[h];rfl⟩)]
theorem yV(a:m.sizes.length<=6)(b:m.places.length<=60)(e:EN m=true)(f:inR 0 1048576 m.sizes=true)(g:∀(i:Nat)(p:Ac),i<m.places.length->m.places[i]?=some p->Cw p=true):CZ m=0:=
 RR ⟨a,b,e,f,λp j=>by
  obtain⟨i,hi⟩:=List.getElem?_of_mem j;exact g i p (zq1.1 hi).1 hi⟩
end
theorem Ro(a:List UInt8):(bytes a ++ ⟨#[10]⟩).data.toList=a++[10]:=by
 rw[show(⟨#[10]⟩:ByteArray)=bytes [10]from rfl,IZ,Dv]
theorem Rp(a:List UInt8):(bytes a ++ ⟨#[10]⟩).size=a.length+1:=by
 rw[show(⟨#[10]⟩:ByteArray)=bytes [10]from rfl,IZ,Eu,zq5];rfl
theorem Fm(h:inR lo hi l=true)(b : -1000000000000<=lo)(e:hi<=1000000000000):∀z∈l,inW z:=λz a=>by
 have:=F7 h z a;unfold inW;omega
theorem B9(h:Blk w g t #[a0,a1,a2,a3,a4,a5]):zL w g 0 a0∧zL w g 1 a1∧zL w g 2 a2∧zL w g 3 a3∧zL w g 4 a4∧zL w g 5 a5:=⟨h.c rfl,h.c rfl,h.c rfl,h.c rfl,h.c rfl,h.c rfl⟩
theorem Db{a6:Value}(h:Blk w g t #[a0,a1,a2,a3,a4,a5,a6]):zL w g 0 a0∧zL w g 1 a1∧zL w g 2 a2∧zL w g 3 a3∧zL w g 4 a4∧zL w g 5 a5∧zL w g 6 a6:=⟨h.c rfl,h.c rfl,h.c rfl,h.c rfl,h.c rfl,h.c rfl,h.c rfl⟩
theorem Mp(m:Au)(S:oA)(n c:Nat)(P:oA)(k d:Nat)(w:World)(hw:Std w)(R:Sl w w.heap.size S n (Ar m.sizes))(hP:Ab 7 Dy w P k m.places)(hn:n<=6)(hk:k<=60) :
  CP 7 #[.agg (EG m S n c P k d)] w (AaA m w):=by
 have hB:Bw w (zw w (EG m S n c P k d) 40):=zA _;have X0:=Blk.new w 40 (EG m S n c P k d);have J:=VI m S n c P k d (zw w (EG m S n c P k d) 40);have a2:m.sizes.length=n:=R.ilen;have V:=hP.len;have HW:=zH hw;have HS:=zH R;have HP:=zH hP;have I:=zH (zu2 (show m.sizes.length<=6 by omega) (show m.places.length<=60 by omega));have bg:=zH V;unfold EG at *
 have HB:=zH hB;have HX:=zH X0
 cases hh:EN m with
 | false=>
  rw[hh]at J;have T:=zH (rR I.o.1 I.o.2 hh);have J:=zH J;clear hB X0 a2 V hw R hP hh;go_enter func7,ntmps7;go_wp2_with(go_at_call 23;go_must((refine J.o.mono ?_);rintro e w2 ⟨rfl,r⟩;have a:=zH (zT HB.o r);clear r))
  refine bodyPost_ret (v:=.tuple #[.string ⟨#[]⟩,zi 3]) (by simp[results,results7,go_sem]) rfl ⟨?_,a.o⟩;rw[T.o];rfl
 | true=>
  rw[hh]at J;have a3:=zH hh;have J:=zH J;have HI:=zH (λW (h:Bw w W)=>Fu 0 1048576 S n c m.sizes W (R.on h) zO)
  cases hi:inR 0 1048576 m.sizes with
  | false=>
   have T:=zH (kN I.o.1 I.o.2 hi);simp only[hi]at HI;clear hB X0 a2 V hw R hP hh hi;go_enter func7,ntmps7
   go_wp2_with(first
    | (go_at_call 23;go_must((refine J.o.mono ?_);rintro e w2 ⟨rfl,r⟩;have a:=zH (zT HB.o r);obtain⟨x0,x1,x2,x3,x4,x5⟩:=B9 (HX.o.below r);clear r))
    | (go_at_call 24;go_must((refine(HI.o _ a.o).mono ?_);rintro e w3 ⟨rfl,rfl⟩)))
   refine bodyPost_ret (v:=.tuple #[.string ⟨#[]⟩,zi 3]) (by simp[results,results7,go_sem]) rfl ⟨?_,a.o⟩;rw[T.o];rfl
  | true=>
   have a4:=zH hi;simp only[hi]at HI;have a5:=Fm hh zO zO;have a6:=Fm hi zO zO;have aq:Hid (∀(W:World)(A:oA),Std W->Sl W W.heap.size A 4 (Ar [m.length,m.width,m.repeat_.1,m.repeat_.2])->CP 26 #[.string ⟨#[109,97,114,107,101,114]⟩,.slice A 4 4] W (zR (.string (bytes (AO Bm [m.length,m.width,m.repeat_.1,m.repeat_.2]))) W)):=λW A h1 h2=>Jv Bm A 4 4 _ W h1 h2 a5 zO zD
   have ar:Hid (∀(W:World),Bw w W->CP 26 #[.string ⟨#[115,105,122,101,115]⟩,.slice S n c] W (zR (.string (bytes (AO Br m.sizes))) W)):=λW h=>Jv Br S n c m.sizes W (hw.below h) (R.on h) a6 zO zD
   have e1:=Ro (AO Bm [m.length,m.width,m.repeat_.1,m.repeat_.2]);have e2:=Ro (AO Br m.sizes);have s1:=Rp (AO Bm [m.length,m.width,m.repeat_.1,m.repeat_.2]);have s2:=Rp (AO Br m.sizes);have t1:=He Bm _ a5;have t2:=He Br _ a6;simp only[zt5,List.length_nil,Bm,Br]at t1 t2;have g1:(bytes (AO Bm [m.length,m.width,m.repeat_.1,m.repeat_.2])).size<=200:=by rw[Eu];unfold Bm;omega
   have g2:(bytes (AO Br m.sizes)).size<=200:=by rw[Eu];unfold Br;omega
   have a7:([]:List UInt8)++(AO Bm [m.length,m.width,m.repeat_.1,m.repeat_.2]++[10])++(AO Br m.sizes++[10])=Fd m 0:=by simp[Fd]
   obtain⟨Y1,au⟩:=zG (bytes (AO Bm [m.length,m.width,m.repeat_.1,m.repeat_.2]));obtain⟨Y2,av⟩:=zG (bytes (AO Br m.sizes));rw[au]at aq e1 s1 g1;rw[av]at ar e2 s2 g2;have HO:Hid (([]++(Y1++(⟨#[10]⟩:ByteArray)).data.toList)++(Y2++(⟨#[10]⟩:ByteArray)).data.toList=Fd m 0):=by rw[Hid,e1,e2,a7]
   have q1:(Y1++(⟨#[10]⟩:ByteArray)).size<=300:=by rw[s1];unfold Bm;omega
   have q2:(Y2++(⟨#[10]⟩:ByteArray)).size<=300:=by rw[s2];unfold Br;omega
   have q1l:([]++(Y1++(⟨#[10]⟩:ByteArray)).data.toList).length<=300:=by rw[List.nil_append,Array.length_toList];exact q1
   have HQ:=zH (zu2 q1 (zu2 q2 q1l));have c1:¬9223372036854775807<Y1.size+1:=zO;have c2:¬9223372036854775807<Y2.size+1:=zO;clear hB X0 a2 V hw R hP hh hi a5 a6 e1 e2 s1 s2 t1 t2 a7 au av q1 q2 q1l;go_enter func7,ntmps7
   go_wp2_with(first
    | (go_at_call 23;go_must((refine J.o.mono ?_);rintro e w2 ⟨rfl,r⟩;have a:=zH (zT HB.o r);have a0:=zH (HX.o.below r);obtain⟨x0,x1,x2,x3,x4,x5⟩:=B9 a0.o;have xl:=a0.o.lt;have HF:=zH (Gy.fresh w2);have a8:=zH (I8 w2 (.cells #[.pointer none,zn] 94) (.cells #[zi m.length,zi m.width,zi m.repeat_.1,zi m.repeat_.2] 3));have bh:=zH (H7 (zs:=[m.length,m.width,m.repeat_.1,m.repeat_.2]) (Blk.new' (zw w2 #[.pointer none,zn] 94) 3 #[zi m.length,zi m.width,zi m.repeat_.1,zi m.repeat_.2] (g:=w2.heap.size+1) zP));clear r))
    | (go_at_call 24;go_must((refine(HI.o _ a.o).mono ?_);rintro e w3 ⟨rfl,rfl⟩))
    | (go_at_call_of 26 (Value.string ⟨#[109,97,114,107,101,114]⟩);go_must((refine(aq.o _ _ (HW.o.below (zT a.o a8.o)) bh.o).mono ?_);rintro e w4 ⟨rfl,a9⟩;have bi:=zH ((HF.o.on (zA _)).on a9);have aw:=zH (zT a8.o a9);clear a9))
    | (go_at_call 25;first
      | ((with_reducible refine(KE w2.heap.size w2.heap.size [] (Y1++(⟨#[10]⟩:ByteArray)) _ bi.o (by have:=HQ.o.1;simp only[List.length_nil];omega) aw.o.size).mono ?_);rintro e w5 ⟨rfl,ax,ay⟩;have bj:=zH ax;have a1:=zH (aw.o.trans ay);obtain⟨x0,x1,x2,x3,x4,x5⟩:=B9 (a0.o.below a1.o);clear ax ay)
      | ((with_reducible refine(KE w2.heap.size w2.heap.size ([]++(Y1++(⟨#[10]⟩:ByteArray)).data.toList) (Y2++(⟨#[10]⟩:ByteArray)) _ bk.o (zV HQ.o) az.o.size).mono ?_);rintro e w7 ⟨rfl,b0,b1⟩;have bl:Hid (Gy w2.heap.size w2.heap.size (Fd m 0) w7):=HO.o ▸ b0;have b2:=zH (az.o.trans b1);obtain⟨x0,x1,x2,x3,x4,x5⟩:=B9 (a0.o.below b2.o);clear b0 b1))
    | (go_at_call 26;go_must((refine(ar.o _ (zT a.o a1.o)).mono ?_);rintro e w6 ⟨rfl,aa⟩;have bk:=zH (bj.o.on aa);have az:=zH (zT a1.o aa);clear aa)))
   go_loopw[6,7,49,50,51,52,53,54,55,56,57,58,59,60,61,62,63,64,65,66,67,68,69,70,71,72,73,74,75,76,77,78,79,80,81,82,83] (λ_ _ i _ _ _ _ _ _ _ _ _ _ _ _ _ _ _ _ _ _ _ _ _ _ _ _ _ _ _ _ _ _ _ _ _ _ wr=>∃j:Nat,j<=k∧i=zi (j:Int)∧Hid (Gy w2.heap.size w2.heap.size (Fd m j) wr)∧Hid (∀(i:Nat)(p:Ac),i<j->m.places[i]?=some p->Cw p=true)∧Hid (Bw w2 wr)) (λ_ _ i _ _ _ _ _ _ _ _ _ _ _ _ _ _ _ _ _ _ _ _ _ _ _ _ _ _ _ _ _ _ _ _ _ _ _=>k-(intOf i).toNat)
   case atStart=>exact⟨0,zs3 _,rfl,bl,zH (λi p h=>absurd h zO),b2⟩
   case round=>
    obtain⟨j,hj,rfl,b3,HK,K⟩:=hrel;by_cases bm:j<k
    ·obtain⟨b,bq,p,rfl,br,hp,k0,k1,k2,k3,k4,k5,k6⟩:=EB (HP.o.on Ba (zT a.o K.o)) bm;have ab:=zH hp;obtain⟨f,hf⟩:=zG p.turn.flip;have b4:=zH hf;rw[hf]at k3;obtain⟨i1,i2⟩:=zI (k:=j) (n:=k) (by omega);have ac:Bw wr (zw wr #[zi p.garment,zi p.use,zi p.copy,.bool f,zi p.turn.quarter,zi p.at_.1,zi p.at_.2] 58):=zA _;have X6:=Blk.new wr 58 #[zi p.garment,zi p.use,zi p.copy,.bool f,zi p.turn.quarter,zi p.at_.1,zi p.at_.2];have b5:=zH X6;have ae:=zH (b3.o.on ac);have x:=zH (zT K.o ac);have s:=Yi p (zw wr #[zi p.garment,zi p.use,zi p.copy,.bool f,zi p.turn.quarter,zi p.at_.1,zi p.at_.2] 58);rw[hf]at s;clear hp ac X6 hf
     cases hpi:Cw p with
     | false=>
      rw[hpi]at s;have s:=zH s;have T:=zH (kO I.o.1 I.o.2 a3.o a4.o ab.o hpi);clear hpi;go_wp2_with(go_at_call 27;go_must((refine s.o.mono ?_);rintro e w8 ⟨rfl,l⟩;have B:=zH (zT x.o l);clear l))
      refine bodyPost_ret (v:=.tuple #[.string ⟨#[]⟩,zi 3]) (by simp[results,results7,go_sem]) rfl ⟨?_,zT a.o B.o⟩;rw[T.o];rfl
     | true=>
      rw[hpi]at s;have s:=zH s
      have b6:Hid (∀(i:Nat)(p:Ac),i<j+1->m.places[i]?=some p->Cw p=true):=λi q hi hq=>by
       by_cases e:i=j
       ·subst e;rw[ab.o]at hq;obtain rfl:=zs6 hq;exact hpi
       exact HK.o i q zO hq
      have y:=hpi;unfold Cw at y;simp only[Bool.and_eq_true]at y;have af:=Fm y.1 zO zO
      have ag:∀z∈[p.turn.quarter,p.at_.1,p.at_.2],inW z:=λz hz=>by
       rcases zr3.1 hz with rfl|hz
       ·exact Fm y.2.1 zO zO _ zP
       exact Fm y.2.2 zO zO _ hz
      have u1:=He Bs _ af;have u4:(if p.turn.flip=true then E3 else[]).length<=5:=by split <;> decide
      have u2:=He (AO Bs [p.garment,p.use,p.copy]++(if p.turn.flip=true then E3 else[])) _ ag;have b7:Bs.length=5:=rfl;simp only[zt5,List.length_nil,zq5]at u1 u2;rw[b7]at u1;have ah:Hid (∀(W:World)(A:oA),Std W->Sl W W.heap.size A 3 (Ar [p.garment,p.use,p.copy])->CP 26 #[.string ⟨#[112,108,97,99,101]⟩,.slice A 3 3] W (zR (.string (bytes (AO Bs [p.garment,p.use,p.copy]))) W)):=λW A h1 h2=>Jv Bs A 3 3 _ W h1 h2 af zO zD
      have C:=zH (λ(W:World)(A:oA)(h1:Std W)(h2:Sl W W.heap.size A 3 (Ar [p.turn.quarter,p.at_.1,p.at_.2]))=>Jv (AO Bs [p.garment,p.use,p.copy]++(if p.turn.flip=true then E3 else[])) A 3 3 _ W h1 h2 ag zO (by rw[zq5];omega));have b8:FH p=AO (AO Bs [p.garment,p.use,p.copy]++(if p.turn.flip=true then E3 else[])) [p.turn.quarter,p.at_.1,p.at_.2]++[10]:=rfl;have e3:=Ro (AO (AO Bs [p.garment,p.use,p.copy]++(if p.turn.flip=true then E3 else[])) [p.turn.quarter,p.at_.1,p.at_.2]);have e4:=Rp (AO (AO Bs [p.garment,p.use,p.copy]++(if p.turn.flip=true then E3 else[])) [p.turn.quarter,p.at_.1,p.at_.2]);have b9:=Eu (AO (AO Bs [p.garment,p.use,p.copy]++(if p.turn.flip=true then E3 else[])) [p.turn.quarter,p.at_.1,p.at_.2]);have ba:=Eu (AO Bs [p.garment,p.use,p.copy]);obtain⟨Z,hZ⟩:=zG (bytes (AO (AO Bs [p.garment,p.use,p.copy]++(if p.turn.flip=true then E3 else[])) [p.turn.quarter,p.at_.1,p.at_.2]));obtain⟨X,hX⟩:=zG (bytes (AO Bs [p.garment,p.use,p.copy]));rw[hZ]at C e3 e4 b9;rw[hX]at ah ba;have bb:=zH hX;have bc:Hid (Fd m j++(Z++(⟨#[10]⟩:ByteArray)).data.toList=Fd m (j+1)):=by rw[Hid,e3,kM ab.o,b8]
      have bn:=rQ I.o.1 I.o.2 a3.o a4.o HK.o;have bd:Hid ((Fd m j).length+(Z++(⟨#[10]⟩:ByteArray)).size<=2000000000):=by rw[Hid,e4];omega
      have c3:¬9223372036854775807<Z.size+1:=zO;have c4:¬9223372036854775807<X.size+5:=zO;clear hpi y af ag u1 u2 u4 b7 b8 e3 e4 b9 ba hZ hX bn
      cases f with
      | false=>
       have L:bytes (AO Bs [p.garment,p.use,p.copy]++(if p.turn.flip=true then E3 else[]))=X:=by
        rw[b4.o,<-bb.o];simp
       have D:=C.o;rw[L]at D;have C:=zH D;clear L D
       go_wp2_with(first
        | (go_at_call 27;go_must((refine s.o.mono ?_);rintro e w8 ⟨rfl,l⟩;have B:=zH (zT x.o l);have ai:=zH (ae.o.on l);have E:=zH (b5.o.below l);obtain⟨y0,y1,y2,y3,y4,y5,y6⟩:=Db E.o;have yl:=E.o.lt;have aj:=zH (H7 (zs:=[p.garment,p.use,p.copy]) (Blk.new w8 3 #[zi p.garment,zi p.use,zi p.copy]));have F:=zH (B.o.alloc B.o.size (.cells #[zi p.garment,zi p.use,zi p.copy] 3));clear l))
        | (go_at_call_of 26 (Value.string ⟨#[112,108,97,99,101]⟩);go_must((refine(ah.o _ _ (HW.o.below (zT a.o F.o)) aj.o).mono ?_);rintro e w9 ⟨rfl,t⟩;have ak:=zH ((ai.o.on (zA _)).on t);have M:=zH (zT F.o t);have al:=zH ((E.o.alloc _).below t);obtain⟨y0,y1,y2,y3,y4,y5,y6⟩:=Db al.o;have am:=zH (H7 (zs:=[p.turn.quarter,p.at_.1,p.at_.2]) (Blk.new w9 3 #[zi p.turn.quarter,zi p.at_.1,zi p.at_.2]));have G:=zH (M.o.alloc M.o.size (.cells #[zi p.turn.quarter,zi p.at_.1,zi p.at_.2] 3));clear t))
        | (go_at_call 26;go_must((refine(C.o _ _ (HW.o.below (zT a.o G.o)) am.o).mono ?_);rintro e wA ⟨rfl,H⟩;have an:=zH ((ak.o.on (zA _)).on H);have N:=zH (zT G.o H);clear H))
        | (go_at_call 25;go_must((refine(KE w2.heap.size w2.heap.size (Fd m j) (Z++(⟨#[10]⟩:ByteArray)) _ an.o (zV bd.o) N.o.size).mono ?_);rintro e wB ⟨rfl,O,Q⟩;have ao:Hid (Gy w2.heap.size w2.heap.size (Fd m (j+1)) wB):=bc.o ▸ O;have ap:=zH (N.o.trans Q);clear O Q)))
       go_roundw
       case rel=>exact⟨j+1,by omega,by go_num,ao,b6,ap⟩
       case measure=>exact zM
      | true=>
       have L:bytes (AO Bs [p.garment,p.use,p.copy]++(if p.turn.flip=true then E3 else[]))=(X++(⟨#[32,102,108,105,112]⟩:ByteArray)):=by
        rw[b4.o,<-bb.o];rw[if_pos rfl,show(⟨#[32,102,108,105,112]⟩:ByteArray)=bytes E3 from rfl,IZ]
       have D:=C.o;rw[L]at D;have C:=zH D;clear L D
       go_wp2_with(first
        | (go_at_call 27;go_must((refine s.o.mono ?_);rintro e w8 ⟨rfl,l⟩;have B:=zH (zT x.o l);have ai:=zH (ae.o.on l);have E:=zH (b5.o.below l);obtain⟨y0,y1,y2,y3,y4,y5,y6⟩:=Db E.o;have yl:=E.o.lt;have aj:=zH (H7 (zs:=[p.garment,p.use,p.copy]) (Blk.new w8 3 #[zi p.garment,zi p.use,zi p.copy]));have F:=zH (B.o.alloc B.o.size (.cells #[zi p.garment,zi p.use,zi p.copy] 3));clear l))
        | (go_at_call_of 26 (Value.string ⟨#[112,108,97,99,101]⟩);go_must((refine(ah.o _ _ (HW.o.below (zT a.o F.o)) aj.o).mono ?_);rintro e w9 ⟨rfl,t⟩;have ak:=zH ((ai.o.on (zA _)).on t);have M:=zH (zT F.o t);have al:=zH ((E.o.alloc _).below t);obtain⟨y0,y1,y2,y3,y4,y5,y6⟩:=Db al.o;have am:=zH (H7 (zs:=[p.turn.quarter,p.at_.1,p.at_.2]) (Blk.new w9 3 #[zi p.turn.quarter,zi p.at_.1,zi p.at_.2]));have G:=zH (M.o.alloc M.o.size (.cells #[zi p.turn.quarter,zi p.at_.1,zi p.at_.2] 3));clear t))
        | (go_at_call 26;go_must((refine(C.o _ _ (HW.o.below (zT a.o G.o)) am.o).mono ?_);rintro e wA ⟨rfl,H⟩;have an:=zH ((ak.o.on (zA _)).on H);have N:=zH (zT G.o H);clear H))
        | (go_at_call 25;go_must((refine(KE w2.heap.size w2.heap.size (Fd m j) (Z++(⟨#[10]⟩:ByteArray)) _ an.o (zV bd.o) N.o.size).mono ?_);rintro e wB ⟨rfl,O,Q⟩;have ao:Hid (Gy w2.heap.size w2.heap.size (Fd m (j+1)) wB):=bc.o ▸ O;have ap:=zH (N.o.trans Q);clear O Q)))
       go_roundw
       case rel=>exact⟨j+1,by omega,by go_num,ao,b6,ap⟩
       case measure=>exact zM
    obtain rfl:j=k:=zO;have U:=b3.o;have be:j=m.places.length:=bg.o.symm;rw[be,rP]at U;have bo:=zH (Tryz.Builder_String_any w2.heap.size w2.heap.size _ wr U K.o.size);have T:=zH (yV I.o.1 I.o.2 a3.o a4.o (λi p hi hp=>HK.o i p zO hp));clear U be;go_wp2_with(go_at_call 28;go_must((refine bo.o.mono ?_);rintro e wC ⟨rfl,bf⟩;have bp:=zH (K.o.trans bf);clear bf))
    refine bodyPost_ret (v:=.tuple #[.string (bytes (E4 m)),zi 0]) (by simp[results,results7,go_sem,bytes]) rfl ⟨?_,zT a.o bp.o⟩;rw[T.o];rfl
structure GB(B b:Nat)(w w':World):Prop where
 os:w'.os=w.os
 tape:w'.tape=w.tape
 output:w'.output=w.output
 size:w.heap.size<=w'.heap.size
 block:∀i,i<B->i≠b->w'.heap[i]?=w.heap[i]?
theorem GB.refl(B b:Nat)(w:World):GB B b w w:=⟨rfl,rfl,rfl,zs2 _,λ_ _ _=>rfl⟩
theorem GB.trans(h:GB B b w w1)(a:GB B b w1 w2):GB B b w w2:=
 ⟨a.os.trans h.os,a.tape.trans h.tape,a.output.trans h.output,zs0 h.size a.size,λi hi e=>(a.block i hi e).trans (h.block i hi e)⟩
theorem GB.mono{B':Nat}(h:GB B b w w')(e:B'<=B):GB B' b w w':=⟨h.os,h.tape,h.output,h.size,λi hi a=>h.block i zO a⟩
theorem GB.of(h:Below B w w'):GB B b w w':=⟨h.os,h.tape,h.output,h.size,λi hi _=>h.block i hi⟩
theorem GB.set_(h:GB B b w w')(i:Nat)(u:Value):GB B b w (w'.setCell (ad b i) u):=
 ⟨h.os,h.tape,h.output,by simpa using h.size,λj e a=>(Below.heap_setCell w' ⟨b,i,none⟩ u j a).trans (h.block j e a)⟩
theorem GB.drewN(h:GB B b w w')(n:Nat):GB B b w (w'.drewN n):=⟨h.os,h.tape,h.output,h.size,h.block⟩
theorem GB.below(h:GB B b w w')(a:b=w.heap.size)(e:B=w.heap.size):Bw w w':=
 ⟨h.os,h.tape,h.output,h.size,λi hi=>h.block i zO zO⟩
theorem VK(h:Blk w g 9 ((v::zs.map itoa).map λu=>Value.string (bytes u)).toArray):Sl w w.heap.size (sa g 1) zs.length ((zs.map itoa).map λu=>Value.string (bytes u)):=by
 refine⟨by simp,λ_=>⟨g,1,rfl,h.lt,λj u a=>h.c ?_⟩⟩;simp only[List.map_cons,List.getElem?_toArray];rw[Nat.add_comm,List.getElem?_cons_succ];exact a
theorem SK(h:Blk w g 9 ((v::zs.map itoa).map λu=>Value.string (bytes u)).toArray):w.cell? (ad g 0)=some (.string (bytes v)):=h.c zP
theorem kP{a b c d:Int}(h:Sl w w.heap.size A 4 (Ar [a,b,c,d])):∃g f,A=some ⟨g,f,none⟩∧g<w.heap.size∧zL w g f (zi a)∧zL w g (f+1) (zi b)∧zL w g (f+2) (zi c)∧zL w g (f+3) (zi d):=by
 obtain⟨g,f,e,j,i⟩:=h.2 zO;exact⟨g,f,e,j,i 0 _ rfl,i 1 _ rfl,i 2 _ rfl,i 3 _ rfl⟩
theorem VL(b gw:Nat)(m:Au)(z0 z1 z2 z3:Int)(S:oA)(n c:Nat)(P:oA)(k d:Nat)(w:World)(x:Blk w b 40 #[zi z0,zi z1,zi z2,zi z3,.slice S n c,.slice P k d])(q:Blk w gw 9 ((Bm::(Fk m)).map λu=>Value.string (bytes u)).toArray)(s:EN m=true) :
  CP 45 #[.pointer (sa b 0),.slice (sa gw 0) 5 5] w λe w'=>e=.returned (zi 0)∧Blk w' b 40 #[zi m.length,zi m.width,zi m.repeat_.1,zi m.repeat_.2,.slice S n c,.slice P k d]∧GB w.heap.size b w w':=by
 have y:=Fm s zO zO;have I:=zH (K1 (sa gw 1) 4 4 [m.length,m.width,m.repeat_.1,m.repeat_.2] w (VK q) y zO);have w0:=SK (v:=Bm) (zs:=[m.length,m.width,m.repeat_.1,m.repeat_.2]) q;have w0':w.cell? (ad gw 0)=some (.string ⟨#[109,97,114,107,101,114]⟩):=w0;have z:=q.lt;have B:=zH x;have C:=zH (λW=>VI m S n c P k d W);simp only[s,EG]at C;clear x q y w0 s;go_enter func45,ntmps45;go_wp2_with(go_at_call 78;go_must((refine I.o.mono ?_);rintro e w1 J;obtain⟨A,a,t,r,V,D,j⟩:=J;replace t:e=.returned (.tuple #[.slice A 4 a,zY]):=t;subst t;have g:=zH (B.o.below j);have w1':=(j.cell (p:=ad gw 0) z).trans w0';have E:=zH j;have F:=zH (show Sl w1 w1.heap.size A 4 (Ar [m.length,m.width,m.repeat_.1,m.repeat_.2])from r);have K:=zH (D (Nat.succ_pos _));clear r D j))
 obtain⟨gA,G,O⟩:=K.o;obtain⟨g',Q,l,R,k0,k1,k2,k3⟩:=kP F.o;rw[G]at l;injection l with l
 injection l with e1 e2
 subst e1;subst e2;subst G;simp only[Nat.zero_add]at k0 k1 k2 k3;have T:=B.o.lt;have U:¬gA=b:=zO;have L:¬b=gA:=zO;have M:=g.o.lt;obtain⟨x0,x1,x2,x3,x4,x5⟩:=B9 g.o;have f0:=g.o.frozen 0;have f1:=g.o.frozen 1;have f2:=g.o.frozen 2;have f3:=g.o.frozen 3
 go_region_held3(λw'=>w'.cell? (ad gA 0)=some (zi m.length)∧w'.cell? (ad gA 1)=some (zi m.width)∧w'.cell? (ad gA 2)=some (zi m.repeat_.1)∧w'.cell? (ad gA 3)=some (zi m.repeat_.2))
  (go_keep)
  (fail)
 have N:=zH ((((g.o.set_ 0 (zi m.length)).set_ 1 (zi m.width)).set_ 2 (zi m.repeat_.1)).set_ 3 (zi m.repeat_.2));have H:=zH (((((GB.of (b:=b) E.o).set_ 0 (zi m.length)).set_ 1 (zi m.width)).set_ 2 (zi m.repeat_.1)).set_ 3 (zi m.repeat_.2));go_wp2_with(go_at_call 23;go_must((refine(C.o _).mono ?_);rintro e w3 ⟨rfl,f⟩))
 go_ret;exact⟨rfl,N.o.below ⟨f.os,f.tape,f.output,f.size,f.block⟩,H.o.trans ⟨f.os,f.tape,f.output,f.size,λi hi _=>f.block i (zs1 hi H.o.size)⟩⟩
theorem Te(b gw n:Nat)(zs:List Int)(z0 z1 z2 z3:Int)(S:oA)(n0 c0:Nat)(P:oA)(k d:Nat)(w:World)(q:Blk w b 40 #[zi z0,zi z1,zi z2,zi z3,.slice S n0 c0,.slice P k d])(l:Blk w gw 9 ((Br::zs.map itoa).map λu=>Value.string (bytes u)).toArray)(x:inR 0 1048576 zs=true)(y:zs.length=n)(B:1<=n)(Y:n<=6) :
  CP 46 #[.pointer (sa b 0),.slice (sa gw 0) (n+1) (n+1)] w λe w'=>e=.returned (zi 0)∧∃g a,Blk w' b 40 #[zi z0,zi z1,zi z2,zi z3,.slice (sa g 0) n a,.slice P k d]∧Sl w' w'.heap.size (sa g 0) n (Ar zs)∧n<=a∧w.heap.size<=g∧GB w.heap.size b w w':=by
 have C:=Fm x zO zO;have m:=VK l;rw[y]at m;have z:=K1 (sa gw 1) n n zs w m C zO
 have z:=zH (z.mono (R':=λe w'=>∃g c,e=.returned (.tuple #[.slice (sa g 0) n c,zY])∧Sl w' w'.heap.size (sa g 0) n (Ar zs)∧n<=c∧w.heap.size<=g∧Bw w w') λe w' h=>by
  obtain⟨A,c,D,E,r,s,q⟩:=h;rw[y]at D E r s;obtain⟨g,rfl,l⟩:=s zO;exact⟨g,c,D,E,r,l,q⟩)
 have w0:=SK l;have w0':w.cell? (ad gw 0)=some (.string ⟨#[115,105,122,101,115]⟩):=w0;have F:=l.lt;have G:=zH q;have H:=zH (λA c W (h:Sl W W.heap.size A n (Ar zs))=>Fu 0 1048576 A n c zs W h zO);simp only[x]at H;have L:¬n=0:=zO;have T:¬n+1=1:=zO;have U:n+1-1=n:=zO;have V:(1:Int)<=(n:Int)+1:=zO;clear q l C w0 x m y;go_enter func46,ntmps46
 go_wp2_with(first
  | (go_at_call 78;go_must((refine z.o.mono ?_);rintro e w1 ⟨g,a,rfl,t,M,s,f⟩;have i:=zH (G.o.below f);have w1':=(f.cell (p:=ad gw 0) F).trans w0';have I:=zH f;have v:=zH t;obtain⟨x0,x1,x2,x3,x4,x5⟩:=B9 i.o;have f4:=i.o.frozen 4;have xl:=i.o.lt;clear t f))
  | (go_at_call 24;go_must((refine(H.o _ _ _ v.o).mono ?_);rintro e w2 ⟨rfl,rfl⟩)))
 go_ret;have X:=G.o.lt;have N:=i.o.set_ 4 (.slice (sa g 0) n a);refine⟨rfl,g,a,N,?_,M,s,(GB.of (b:=b) I.o).set_ 4 _⟩;obtain⟨B,O⟩:=v.o;refine⟨B,λQ=>?_⟩;obtain⟨b',J,e,K,r⟩:=O Q;refine⟨b',J,e,by simpa using K,λj u R=>?_⟩;injection e with e
 injection e with e1 e2
 subst e1;rw[World.cell?_setCell_other _ _ _ _ (by intro e;injection e with e;omega)]
 exact r j u R
end Go.Proofs.YteafekbddckemaaGreatDoor
