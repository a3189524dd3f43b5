/- Parts of the proof. -/
import Derived.Laws.AppendOwnNone
import Derived.Shelf.SlSortCmp.NoneTotal
import Derived.Shelf.Spec.SlicesGrow
import Derived.Test.YteafekbddckemaaGreatDoorH18
set_option maxRecDepth 100000
set_option maxHeartbeats 40000000
namespace Go.Proofs
open Go.Shelf Tryz YteafekbddckemaaGreatDoor
def Tryz.laysGrowSp_ren:Ren:=⟨fun|4=>176|n=>n,fun|22=>64|25=>56|3=>3|4=>4|9=>9|20=>20|0=>0|2=>3|n=>n,fun|n=>n⟩
theorem Tryz.laysGrowSp:Lays8.n4 Tryz.prog Tryz.laysGrowSp_ren:={mixed:=by kernel_rfl,f4:=⟨f176.name,by decide,func176.trans zj⟩,t0:=underlying0,a0:=isAgg0,z0:=sizeOf0,v0:=zeroValue0,t3:=underlying3,a3:=isAgg3,z3:=sizeOf3,v3:=zeroValue3,t4:=underlying4,a4:=isAgg4,z4:=sizeOf4,v4:=zeroValue4,t9:=underlying9,a9:=isAgg9,z9:=sizeOf9,v9:=zeroValue9,t20:=underlying20,a20:=isAgg20,z20:=sizeOf20,v20:=zeroValue20,t22:=underlying64,a22:=isAgg64,z22:=sizeOf64,v22:=zeroValue64 }
def Tryz.laysRevSp_ren:Ren:=⟨fun|35=>130|n=>n,fun|22=>64|23=>56|3=>3|4=>4|0=>0|n=>n,fun|n=>n⟩
theorem Tryz.laysRevSp:Go.Proofs.SlLaysE0.n35 Tryz.prog Tryz.laysRevSp_ren:={mixed:=by kernel_rfl,f35:=⟨f130.name,by decide,func130.trans zj⟩,t0:=underlying0,a0:=isAgg0,z0:=sizeOf0,v0:=zeroValue0,t3:=underlying3,a3:=isAgg3,z3:=sizeOf3,v3:=zeroValue3,t4:=underlying4,a4:=isAgg4,z4:=sizeOf4,v4:=zeroValue4,t22:=underlying64,a22:=isAgg64,z22:=sizeOf64,v22:=zeroValue64 }
def Tryz.laysCloneSp_ren:Ren:=⟨fun|41=>290|n=>n,fun|22=>64|23=>56|4=>4|n=>n,fun|n=>n⟩
theorem Tryz.laysCloneSp:Go.Proofs.SlLaysE0.n41 Tryz.prog Tryz.laysCloneSp_ren:={mixed:=by kernel_rfl,f41:=⟨f290.name,by decide,func290.trans zj⟩,t4:=underlying4,a4:=isAgg4,z4:=sizeOf4,v4:=zeroValue4,t22:=underlying64,a22:=isAgg64,z22:=sizeOf64,v22:=zeroValue64 }
def Tryz.laysSortSp_ren:Ren:=⟨fun|6=>103|15=>145|14=>144|28=>197|29=>198|20=>189|21=>190|22=>191|23=>192|24=>193|25=>194|26=>195|27=>196|46=>238|47=>239|48=>240|49=>241|50=>242|57=>276|n=>n,fun|22=>64|24=>56|25=>202|3=>3|39=>193|0=>0|53=>261|55=>256|4=>4|46=>296|45=>295|50=>128|5=>5|9=>9|66=>332|70=>336|76=>365|77=>349|n=>n,fun|n=>n⟩
theorem Tryz.laysSortSp:Go.Proofs.SlLaysF0.n6 Tryz.prog Tryz.laysSortSp_ren:={mixed:=by kernel_rfl,f6:=⟨f103.name,by decide,func103.trans zj⟩,f14:=⟨f144.name,by decide,func144.trans zj⟩,f15:=func145.trans zj,f20:=⟨f189.name,by decide,func189.trans zj⟩,f21:=⟨f190.name,by decide,func190.trans zj⟩,f22:=⟨f191.name,by decide,func191.trans zj⟩,f23:=⟨f192.name,by decide,func192.trans zj⟩,f24:=⟨f193.name,by decide,func193.trans zj⟩,f25:=⟨f194.name,by decide,func194.trans zj⟩,f26:=⟨f195.name,by decide,func195.trans zj⟩,f27:=⟨f196.name,by decide,func196.trans zj⟩,f28:=func197.trans zj,f29:=func198.trans zj,f46:=⟨f238.name,by decide,func238.trans zj⟩,f47:=func239.trans zj,f48:=func240.trans zj,f49:=⟨f241.name,by decide,func241.trans zj⟩,f50:=⟨f242.name,by decide,func242.trans zj⟩,f57:=⟨f276.name,by decide,func276.trans zj⟩,t0:=underlying0,a0:=isAgg0,z0:=sizeOf0,v0:=zeroValue0,t3:=underlying3,a3:=isAgg3,z3:=sizeOf3,v3:=zeroValue3,t4:=underlying4,a4:=isAgg4,z4:=sizeOf4,v4:=zeroValue4,t5:=underlying5,a5:=isAgg5,z5:=sizeOf5,v5:=zeroValue5,t9:=underlying9,a9:=isAgg9,z9:=sizeOf9,v9:=zeroValue9,t22:=underlying64,a22:=isAgg64,z22:=sizeOf64,v22:=zeroValue64,t25:=underlying202,a25:=isAgg202,z25:=sizeOf202,v25:=zeroValue202,t39:=underlying193,a39:=isAgg193,z39:=sizeOf193,v39:=zeroValue193,t45:=underlying295,a45:=isAgg295,z45:=sizeOf295,v45:=zeroValue295,t46:=underlying296,a46:=isAgg296,z46:=sizeOf296,v46:=zeroValue296,t50:=underlying128,a50:=isAgg128,z50:=sizeOf128,v50:=zeroValue128,t53:=underlying261,a53:=isAgg261,z53:=sizeOf261,v53:=zeroValue261,t55:=underlying256,a55:=isAgg256,z55:=sizeOf256,v55:=zeroValue256,t66:=underlying332,a66:=isAgg332,z66:=sizeOf332,v66:=zeroValue332,t70:=underlying336,a70:=isAgg336,z70:=sizeOf336,v70:=zeroValue336,t76:=underlying365,a76:=isAgg365,z76:=sizeOf365,v76:=zeroValue365,t77:=underlying349,a77:=isAgg349,z77:=sizeOf349,v77:=zeroValue349 }
def Tryz.laysSortPl_ren:Ren:=⟨fun|6=>229|15=>145|14=>275|28=>197|29=>198|20=>294|21=>295|22=>296|23=>297|24=>298|25=>299|26=>300|27=>301|46=>312|47=>239|48=>240|49=>313|50=>314|57=>315|n=>n,fun|22=>51|24=>64|25=>140|3=>3|39=>193|0=>0|53=>261|55=>256|4=>4|46=>296|45=>295|50=>128|5=>5|9=>9|66=>332|70=>336|76=>365|77=>349|n=>n,fun|n=>n⟩
theorem Tryz.laysSortPl:Go.Proofs.SlLaysF.n6 Tryz.prog Tryz.laysSortPl_ren:={mixed:=by kernel_rfl,f6:=⟨f229.name,by decide,func229.trans zj⟩,f14:=⟨f275.name,by decide,func275.trans zj⟩,f15:=func145.trans zj,f20:=⟨f294.name,by decide,func294.trans zj⟩,f21:=⟨f295.name,by decide,func295.trans zj⟩,f22:=⟨f296.name,by decide,func296.trans zj⟩,f23:=⟨f297.name,by decide,func297.trans zj⟩,f24:=⟨f298.name,by decide,func298.trans zj⟩,f25:=⟨f299.name,by decide,func299.trans zj⟩,f26:=⟨f300.name,by decide,func300.trans zj⟩,f27:=⟨f301.name,by decide,func301.trans zj⟩,f28:=func197.trans zj,f29:=func198.trans zj,f46:=⟨f312.name,by decide,func312.trans zj⟩,f47:=func239.trans zj,f48:=func240.trans zj,f49:=⟨f313.name,by decide,func313.trans zj⟩,f50:=⟨f314.name,by decide,func314.trans zj⟩,f57:=⟨f315.name,by decide,func315.trans zj⟩,t0:=underlying0,a0:=isAgg0,z0:=sizeOf0,v0:=zeroValue0,t3:=underlying3,a3:=isAgg3,z3:=sizeOf3,v3:=zeroValue3,t4:=underlying4,a4:=isAgg4,z4:=sizeOf4,v4:=zeroValue4,t5:=underlying5,a5:=isAgg5,z5:=sizeOf5,v5:=zeroValue5,t9:=underlying9,a9:=isAgg9,z9:=sizeOf9,v9:=zeroValue9,t22:=underlying51,a22:=isAgg51,z22:=sizeOf51,v22:=zeroValue51,a24:=isAgg64,z24:=sizeOf64,t25:=underlying140,a25:=isAgg140,z25:=sizeOf140,v25:=zeroValue140,t39:=underlying193,a39:=isAgg193,z39:=sizeOf193,v39:=zeroValue193,t45:=underlying295,a45:=isAgg295,z45:=sizeOf295,v45:=zeroValue295,t46:=underlying296,a46:=isAgg296,z46:=sizeOf296,v46:=zeroValue296,t50:=underlying128,a50:=isAgg128,z50:=sizeOf128,v50:=zeroValue128,t53:=underlying261,a53:=isAgg261,z53:=sizeOf261,v53:=zeroValue261,t55:=underlying256,a55:=isAgg256,z55:=sizeOf256,v55:=zeroValue256,t66:=underlying332,a66:=isAgg332,z66:=sizeOf332,v66:=zeroValue332,t70:=underlying336,a70:=isAgg336,z70:=sizeOf336,v70:=zeroValue336,t76:=underlying365,a76:=isAgg365,z76:=sizeOf365,v76:=zeroValue365,t77:=underlying349,a77:=isAgg349,z77:=sizeOf349,v77:=zeroValue349 }
end Go.Proofs
namespace Go.Proofs.YteafekbddckemaaGreatDoor
open Tryz Go.RowKit
open Go.Lib hiding intOf
variable{A:oA}{B a b c f g j k m n s:Nat}{T:TypeId}{cs:aV}{l p ps:lP}{w w' w0:World}{xs:lV}
section
open Go.Sort
def HSp(w:World)(g off:Nat)(l:lP):Prop:=HoldsK spC 2 w g off l.toArray∧g<w.heap.size
section
variable{w w':World}{g off:Nat}{l:lP}
theorem HSp.cells(h:HSp w g off l){p:Pt}(k:l[j]?=some p):zL w g (off+j*2) (zi p.1)∧zL w g (off+j*2+1) (zi p.2)∧w.frozen? (ad g (off+j*2))=false∧w.frozen? (ad g (off+j*2+1))=false:=by
 obtain⟨a,m⟩:=zq1.1 k
 have e:(l.toArray)[j]! = p:=by
  rw[getElem!_pos _ j (by simpa using a)];simpa using m
 have b:=HoldsK.cell h.1 (i:=j) (c:=0) (by simpa using a) zO;have f:=HoldsK.cell h.1 (i:=j) (c:=1) (by simpa using a) zO;rw[e]at b f;exact⟨b.1,f.1,b.2,f.2⟩
theorem HSp.recs(h:HSp w g off l):Ab 2 Ad w (sa g off) l.length l:=by
 refine⟨rfl,λ_=>⟨g,off,rfl,h.2,λj p f=>⟨_,rfl,λi u e=>?_⟩⟩⟩;obtain⟨a,b,_,_⟩:=h.cells f
 match i,e with
 | 0,e=>obtain rfl:=zs6 e;exact a
 | 1,e=>obtain rfl:=zs6 e;exact b
 | i+2,e=>simp at e
theorem HSp.of_cells(n:g<w.heap.size)(h:∀(j:Nat)(p:Pt),l[j]?=some p->w.cell? (ad g (off+j*2))=some (zi p.1)∧w.cell? (ad g (off+j*2+1))=some (zi p.2)∧w.frozen? (ad g (off+j*2))=false∧w.frozen? (ad g (off+j*2+1))=false):HSp w g off l:=by
 refine⟨λt k=>?_,n⟩;rw[size_flatK]at k;rw[get_flatK _ _ _ _ k]
 have m:t/2<l.length:=by
  have:l.toArray.size=l.length:=by simp
  omega
 have e:(l.toArray)[t/2]! = l[t/2]:=by
  rw[getElem!_pos _ _ (by simpa using m)];simp
 obtain⟨a,b,c,d⟩:=h (t/2) _ (zq0 m);rw[e];rcases Nat.mod_two_eq_zero_or_one t with i|i
 ·rw[i];have f:off+t/2*2=off+t:=zO;rw[f]at a c;exact⟨a,c⟩
 rw[i];have f:off+t/2*2+1=off+t:=zO;rw[f]at b d;exact⟨b,d⟩
theorem HSp.of_own(h:w.ownsRow b T 2 (.slice (sa g 0) n c) n (l.flatMap spC)):HSp w g 0 l:=by
 rcases h.2 with⟨e,_⟩|⟨g',cap,cur,e,k,i,m,o,q,r⟩
 ·cases e
 injection e with e
 injection e with e
 injection e with e
 subst e;have a:Blk w g T cur:=i;refine HSp.of_cells a.lt λj p f=>?_
 have k0:=h.cells (g:=g) rfl _ _ (JB Bu f 0 _ rfl);have k1:=h.cells (g:=g) rfl _ _ (JB Bu f 1 _ rfl);rw[Go.WideShapes.add_plain]at k0 k1;rw[Nat.zero_add];simp only[Nat.zero_add,Nat.add_zero]at k0 k1;exact⟨k0,k1,a.frozen _,a.frozen _⟩
theorem HSp.below(h:HSp w g off l)(e:Bw w w'):HSp w' g off l:=by
 refine HSp.of_cells (zs1 h.2 e.size) λj p f=>?_
 obtain⟨a,b,c,d⟩:=h.cells f;exact⟨(e.cell (p:=ad g (off+j*2)) h.2).trans a,(e.cell (p:=ad g (off+j*2+1)) h.2).trans b,(e.frozen (p:=ad g (off+j*2)) h.2).trans c,(e.frozen (p:=ad g (off+j*2+1)) h.2).trans d⟩
theorem HSp.grown{r:Option Nat}(h:HSp w g off l)(f:w.grownBy w' r)(i:some g≠r):HSp w' g off l:=by
 refine HSp.of_cells (zs1 h.2 f.size) λj p k=>?_
 obtain⟨a,b,c,d⟩:=h.cells k;have e:=f.block g h.2 i;exact⟨(World.cell?_of_block (a:=⟨g,off+j*2,none⟩) e).trans a,(World.cell?_of_block (a:=⟨g,off+j*2+1,none⟩) e).trans b,(World.frozen?_of_block (a:=⟨g,off+j*2,none⟩) e).trans c,(World.frozen?_of_block (a:=⟨g,off+j*2+1,none⟩) e).trans d⟩
end
theorem Gb(w:World)(r:Option Nat):w.grownBy w r:=⟨rfl,rfl,rfl,zs2 _,λ_ _ _=>rfl⟩
theorem R4(w:World)(n g off:Nat)(F:aV):w.grownBy (putRow id (Go.Sort.ahead w n) g off F) (some g):=by
 refine⟨rfl,rfl,rfl,by simp,λk f a=>?_⟩;have b:g≠k:=λe=>a (by rw[e])
 show((Go.Sort.ahead w n).heap.modify g _)[k]?=w.heap[k]?;rw[Array.getElem?_modify,if_neg b];rfl
theorem L1{r:Option Nat}(h:w.grownBy w' r)(os:Array Obj):w.grownBy (grow w' os) r:=by
 refine⟨h.os,h.tape,h.output,?_,λk b a=>?_⟩
 ·have:=h.size;simp[grow];omega
 have e:=h.block k b a;have f:=h.size;show(w'.heap++os)[k]?=_;rw[Array.getElem?_append_left zO];exact e
theorem WA(w:World)(n g off:Nat)(d:Array Pt)(os:Array Obj):w.grownBy (sortWorldK spC 2 w g off n d os) (some g):=L1 (R4 w n g off _) os
theorem DH(x:Pt):∀v∈spC x,v.oneCell'=true:=λv a=>by
 simp only[spC,zr3,List.not_mem_nil,or_false]at a;rcases a with rfl|rfl <;> rfl
def sS(g off:Nat)(l:lP)(w:World)(e:Ending)(w':World):Prop:=e=.returned (.tuple #[])∧HSp w' g off l∧w.grownBy w' (some g)
theorem XF(g off c:Nat)(l:lP)(w:World)(h:HSp w g off l)(i:l.length<=1000000000000) :
  CP 130 #[.slice (sa g off) l.length c] w (sS g off l.reverse w):=by
 have a:=AnyQ.slices_Reverse Tryz.laysRevSp 2 isAgg56 sizeOf56 spC Bu DH g off c l.toArray w h.1 zQ;have e:l.toArray.size=l.length:=by simp
 rw[e]at a;refine Calls.mono (P:=prog) (f:=130) a ?_;rintro e w' ⟨rfl,n,rfl⟩;have b:=holdsK_putRowK spC 2 (Go.Sort.ahead w n) g off l.toArray l.toArray.reverse (holdsK_ahead spC 2 w n g off _ h.1) zP;refine⟨rfl,⟨?_,?_⟩,R4 w n g off _⟩
 ·rw[<-List.reverse_toArray];exact b
 have:=h.2;simp[putRowK];exact this
theorem IX(x y:Pt):Go.Proofs.ltOf CG x y=CF x y:=by
 unfold Go.Proofs.ltOf CG CF orL Lib.compareInt;by_cases e:x.1<y.1
 ·simp[e]
 by_cases i:y.1<x.1
 ·have a:¬x.1=y.1:=zO;simp[e,i,a]
 have a:x.1=y.1:=zO;by_cases b:x.2<y.2
 ·simp[a,b]
 by_cases f:y.2<x.2
 ·simp[a,b,f]
 simp[a,b,f]
theorem GL(x y:Pt):CF x y=true↔x.1<y.1∨(x.1=y.1∧x.2<y.2):=by
 unfold CF;simp
theorem Gc(x y:Pt):CF x y=false↔¬(x.1<y.1∨(x.1=y.1∧x.2<y.2)):=by
 rw[<-GL];simp
theorem yJ:SWO (Go.Proofs.ltOf CG) where
 irrefl x:=by rw[IX,Gc];omega
 trans x y z h1 h2:=by rw[IX,GL]at *;omega
 ntrans x y z h1 h2:=by rw[IX,Gc]at *;omega
theorem gB(x y:Pt)(e:Go.Proofs.ltOf CG x y=false)(f:Go.Proofs.ltOf CG y x=false):x=y:=by
 rw[IX,Gc]at e f;obtain⟨a,b⟩:=x;obtain⟨c,d⟩:=y;simp only at e f;have e1:a=c:=zO;have e2:b=d:=zO;rw[e1,e2]
def DR(l:lP):List Pt:=l.mergeSort λx y=>!CF y x
structure Tl(g:Nat):Prop where
 calls:∀(a b:Pt)(w:World),Calls prog g #[.agg #[zi a.1,zi a.2],.agg #[zi b.1,zi b.2]] w λe w'=>e=.returned (zi (CG a b))∧Gr w w'
 enters:∀args w,(callFunc g args).run prog w=.ok (.enter g args) w
theorem uN:Tl 291:=⟨Zv,enters_of func291 zk rfl⟩
theorem uO:Tl 104:=⟨Zw,enters_of func104 zk rfl⟩
theorem Q7:Tl 185:=⟨Zx,enters_of func185 zk rfl⟩
theorem OY(f:Nat)(i:Tl f)(g off c:Nat)(l:lP)(w:World)(h:HSp w g off l)(o:l.length<=1000000000000) :
  CP 103 #[.slice (sa g off) l.length c,.func (.func f) #[] #[]] w (sS g off (DR l) w):=by
 have a:CmpLays prog f #[] spC 2 CG g off l.toArray.size w:=λm os dk _ x y=>i.calls x y _
 have j:=AnyQ.slices_SortFunc_total Tryz.laysSortSp 2 isAgg56 sizeOf56 spC Bu DH CG yJ f #[] g off c l.toArray w i.enters a h.1 h.2 zQ gB;have e:l.toArray.size=l.length:=by simp
 rw[e]at j;refine Calls.mono (P:=prog) (f:=103) j ?_;rintro e w' ⟨rfl,n,os,rfl⟩
 have k:(l.toArray.toList.mergeSort λx y=>!(Go.Proofs.ltOf CG) y x)=DR l:=by
  have b:(λx y:Pt=>!(Go.Proofs.ltOf CG) y x)=λx y=>!CF y x:=by
   funext x y;rw[IX]
  rw[b];rfl
 rw[k];exact⟨rfl,⟨holdsK_sortWorldK spC 2 w g off n l.toArray (DR l).toArray os h.2 h.1 (by simp[DR]),lt_sortWorldK spC 2 w g off n _ os h.2⟩,WA w n g off _ os⟩
theorem R5(p:oA)(c:Nat)(fv:Value)(w:World):CP 103 #[.slice p 0 c,fv] w λe w'=>e=.returned (.tuple #[])∧w'=w:=
 AnyF.slices_SortFunc_none Tryz.laysSortSp p c fv w
end
theorem Tb(h:Blk w g T cs)(b:c<=maxLen)(e:cs.size=c*2)(f:a<=g):w.ownsRow a T 2 (.slice (sa g 0) 0 c) 0 []:=
 ⟨by simp,.inr ⟨g,c,cs,rfl,f,h,zs3 _,b,e,by simp⟩⟩
theorem pC(n:Nat)(w:World)(q:n<=1000000) :
  CP 176 #[zn,zi (n:Int)] w λe w'=>∃v,e=.returned v∧w'.ownsRow w.heap.size 56 2 v 0 []∧Bw w w':=by
 by_cases m:n=0
 ·subst m;refine Calls.mono (P:=prog) (f:=176) (Any8.slices_Grow_room Tryz.laysGrowSp none 0 0 0 w zO zO zO zO) ?_;rintro e w' ⟨rfl,rfl⟩;exact⟨_,rfl,World.ownsRow_nil _ _ _ _,zJ⟩
 obtain⟨i0,hi,i,j,k⟩:=info_parts BY;have b:(0+n)*i0.bytes<=140737488355328:=by rw[k];omega
 refine Calls.mono (P:=prog) (f:=176) (Any8.slices_Grow_grow Tryz.laysGrowSp i0 _ hi i (by rw[j];omega) none 0 0 n [] w zO zO b zO zP (λ_=>rfl) (λa o=>by cases o)) ?_;rintro e w' ⟨rfl,g⟩;replace g:w'=w.drew.alloc (.cells ([].toArray++Builtin.zeroCells (Value.agg #[zi 0,zi 0]).cells (0+n-0)++Builtin.zeroCells (Value.agg #[zi 0,zi 0]).cells (grownCap w (0+n) 0 56-(0+n))) 56):=g;subst g;have l:=grownCap_le_maxLen w (0+n) 0 56 zU;have p:=grownCap_ge w (0+n) 0 56;change ∃v,Ending.returned (Value.slice (sa w.heap.size 0) 0 (grownCap w (0+n) 0 56))=.returned v∧_∧_;generalize grownCap w (0+n) 0 56=G at *
 refine⟨_,rfl,Tb (Blk.new' w.drew _ _ rfl) l ?_ (zs2 _),(zJ.drew).alloc (zs2 _) _⟩;simp[Builtin.zeroCells,Value.cells];omega
theorem PW(h:Ab 2 Ad w (sa b a) n ps):∀j u,(ps.flatMap spC)[j]?=some u->w.cell? ((⟨b,a,none⟩:Addr).add j)=some u:=λj u f=>by
 rw[Go.WideShapes.add_plain];by_cases g:0<n
 ·obtain⟨b',off',e,_,i⟩:=MZ h g;injection e with e
  injection e with e1 e2
  subst e1;subst e2;exact i j u f
 have:ps=[]:=zt7 (by rw[h.len];omega);subst this;simp at f
def PX(A:oA)(n c:Nat):Prop:=(∃b o,A=some ⟨b,o,none⟩)∨(A=none∧n=0∧c=0)
def IE{α : Type}(k:Nat)(a b : α) : α:=if k=0 then a else b
def GM(k n1 n2:Nat):Nat:=if k=0 then 0 else if k=1 then n1 else n1+n2
def OZ(k:Nat)(l1 l2:lP):List Pt:=if k=0 then[]else if k=1 then l1 else l1++l2
theorem Uq{n1 n2:Nat}(h:k<2):GM (k+1) n1 n2=GM k n1 n2+IE k n1 n2:=by
 match k,h with
 | 0,_=>simp[GM,IE]
 | 1,_=>simp[GM,IE]
theorem pD{l1 l2:lP}(h:k<2):OZ (k+1) l1 l2=OZ k l1 l2++IE k l1 l2:=by
 match k,h with
 | 0,_=>simp[OZ,IE]
 | 1,_=>simp[OZ,IE]
theorem Zy(g n1 c1 n2 c2:Nat)(A1 A2:oA)(l1 l2:lP)(w:World)(T:TypeId)(C:Blk w g T #[.slice A1 n1 c1,.slice A2 n2 c2])(D:Ab 2 Ad w A1 n1 l1)(N:Ab 2 Ad w A2 n2 l2)(q1:PX A1 n1 c1)(q2:PX A2 n2 c2)(m1:n1<=100000)(m2:n2<=100000) :
  CP 131 #[.slice (sa g 0) 2 2] w (sQ (l1++l2) w):=by
 have E:Hid (∀k,k<2->∃A n c,w.cell? (ad g k)=some (.slice A n c)∧Ab 2 Ad w A n (IE k l1 l2)∧n=IE k n1 n2∧n<=100000∧PX A n c):=λk K=>by
  match k,K with
  | 0,_=>exact⟨A1,n1,c1,C.c rfl,D,rfl,m1,q1⟩
  | 1,_=>exact⟨A2,n2,c2,C.c rfl,N,rfl,m2,q2⟩
 have hg:=C.lt;have O:=zH (λW=>pC (GM 2 n1 n2) W (by simp[GM];omega));have F:∀k,GM k n1 n2<=200000:=λk=>by unfold GM;split;omega;split <;> omega
 have Q:=zH F;clear C D N F q1 q2;go_enter func131,ntmps131
 go_wp2_with fail
 go_loopw[3,5,11,13,14,15,16,17,18,19,20] (λs _ i _ _ _ _ _ _ _ _ wr=>∃k:Nat,k<=2∧i=zi (k:Int)∧s=zi (GM k n1 n2:Int)∧wr=w) (λ_ _ i _ _ _ _ _ _ _ _ _=>2-(intOf i).toNat)
 case atStart=>exact⟨0,zs3 _,rfl,rfl,rfl⟩
 case round=>
  obtain⟨k,K,rfl,rfl,hw⟩:=hrel;have R:=hw.symm;subst R;by_cases f:k<2
  ·obtain⟨A,n,c,y,m,z,hm,_⟩:=E.o k f;have j:=zH (Uq (n1:=n1) (n2:=n2) f);rw[<-z]at j;have S:=Q.o k;generalize GM k n1 n2=x at *
   have i1:(0:Int)<=(k:Int):=zO;have i2:(k:Int)<2:=zO;have i3:IntKind.i64.wrap ((x:Int)+(n:Int))=(x:Int)+(n:Int):=zs5 _ zO;have i4:¬((x:Int)+(n:Int)<0):=zO;clear m z
   go_wp2_with fail
   go_roundw
   case rel=>exact⟨k+1,by omega,by go_num,by rw[j.o];rfl,by trivial⟩
   case measure=>exact zM
  obtain rfl:k=2:=zO;go_wp2_with(go_at_call 176;refine(O.o _).mono ?_;rintro e w1 ⟨v,rfl,U,V⟩;have HO:=zH U;have HB:=zH V;clear U V)
  go_loopw[6,8,27,29,30,31,32,33] (λv _ i _ _ _ _ _ wr=>∃k:Nat,k<=2∧i=zi (k:Int)∧Hid (wr.ownsRow w.heap.size 56 2 v (GM k n1 n2) ((OZ k l1 l2).flatMap spC))∧Hid (Bw w wr)) (λ_ _ i _ _ _ _ _ _=>2-(intOf i).toNat)
  case atStart=>exact⟨0,zs3 _,rfl,HO.o,HB.o⟩
  case round=>
   obtain⟨k,K,rfl,l,a⟩:=hrel;obtain⟨A1,C1,rfl⟩:=AX l.o;by_cases f:k<2
   ·obtain⟨A,n,c,y,m,z,hm,L⟩:=E.o k f;have a4:=(a.o.cell (p:=ad g k) hg).trans y;have q:=zH (m.on Aa a.o);have j:=zH (Uq (n1:=n1) (n2:=n2) f);rw[<-z]at j;have H:=zH (pD (l1:=l1) (l2:=l2) f);have S:=Q.o k;generalize GM k n1 n2=x at *
    generalize IE k l1 l2=part at *
    have i1:(0:Int)<=(k:Int):=zO;have i2:(k:Int)<2:=zO;have b3':x+n<=maxLen:=by unfold maxLen;omega
    have b4':(x+n)*16<=140737488355328:=zO;have X:Hid ((part.flatMap spC).length=n*2):=by rw[Hid,DG Bu,q.o.len]
    clear m z y;rcases L with⟨b,o,rfl⟩|⟨rfl,rfl,rfl⟩
    ·have a5:=q;go_wp2_with(at_builtin;refine Bt (P:=prog) (by rfl) _ _ 64 (by rfl) w.heap.size 56 (.agg #[zi 0,zi 0]) 2 16 underlying64 BY rfl zD (.slice A1 x C1) x _ (by rfl) l.o ⟨b,o,none⟩ n c (part.flatMap spC) (by rfl) X.o (PW q.o) (λu hu=>by obtain⟨p,_,hp⟩:=List.mem_flatMap.1 hu;exact DH p u hp) b3' b4' a.o.size ?_;intro v7 w7 I Y a6;obtain⟨A7,c7,rfl⟩:=AX I)
     go_roundw
     case rel=>
      refine⟨k+1,by omega,by go_num,?_,Ax a.o Y a.o.size (λg e=>(l.o.lt g e).1)⟩;rw[j.o,H.o,zr7];exact zH I
     case measure=>exact zM
    have r:part=[]:=zt7 (zV q.o.len);have Z:=zH r;obtain⟨i0,hi,a0,a1,a2⟩:=info_parts BY;have a3:=zH hi;clear r hi a0 a1 a2;go_wp2_with(at_builtin;refine wpList_append_own_none (P:=prog) (by rfl) _ _ 64 (by rfl) w.heap.size 56 i0 2 underlying64 a3.o (.slice A1 x C1) x _ (by rfl) l.o (by rfl) ?_)
    go_roundw
    case rel=>
     refine⟨k+1,by omega,by go_num,?_,a⟩;rw[j.o,H.o,zr7,Z.o];refine zH ?_;simpa using l.o
    case measure=>exact zM
   obtain rfl:k=2:=zO
   have B:(OZ 2 l1 l2).length=GM 2 n1 n2:=by
    have h0:=E.o 0 zO;have D:=E.o 1 zO;obtain⟨_,_,_,_,r0,e0,_⟩:=h0;obtain⟨_,_,_,_,r1,e1,_⟩:=D;have:=r0.len;have:=r1.len;simp[OZ,GM,IE]at *
    omega
   obtain⟨A,cc,M,m,y⟩:=CJ (G:=Ad) (g:=λx:Pt=>x) Bu l.o B (λt _=>rfl);rw[List.map_id']at m;injection M with M _ hC
   subst M;subst hC;have J:=zH (zu2 m y);clear m y B
   go_wp2_with fail
   go_ret;exact⟨A1,GM 2 n1 n2,C1,rfl,J.o.1,J.o.2,a.o⟩
def PY(x:Except Int (List Pt))(w:World)(e:Ending)(w':World):Prop:=Bw w w'∧match x with
 | .ok l=>∃A n c,e=.returned (.tuple #[.slice A n c,zi 0])∧Ab 2 Ad w' A n l∧n<=c
 | .error z=>e=.returned (.tuple #[zn,zi z])
def CD(p:lP)(k:Nat):List Pt:=((List.range k).filter λi=>decide (Jh p i≠0)).map (vtx p)
theorem KV(p:lP):JT p=CD p p.length:=rfl
theorem Ur(p:lP)(k:Nat):CD p (k+1)=CD p k++if Jh p k=0 then[]else[vtx p k]:=by
 unfold CD;rw[List.range_succ,List.filter_append,zr0];congr 1;by_cases h:Jh p k=0 <;> simp[h]
theorem Oh(p:lP)(k:Nat):(CD p k).length<=k:=by
 have:=List.length_filter_le (λi=>decide (Jh p i≠0)) (List.range k);simpa[CD]using this
theorem PZ(a:0<p.length)(b:∀s∈p,inG s)(k:Nat):∀s∈CD p k,inG s:=λs e=>by
 obtain⟨i,_,rfl⟩:=zr2.1 e;exact b _ (EL a i)
def Do(c:lP)(k:Nat):Nat:=(List.range k).foldl (λf i=>if (vtx c i).1<(vtx c f).1∨((vtx c i).1=(vtx c f).1∧(vtx c i).2<(vtx c f).2)then i else f) 0
theorem gD(c:lP):GZ c=Do c c.length:=rfl
theorem L2(c:lP)(k:Nat):Do c (k+1)=if (vtx c k).1<(vtx c (Do c k)).1∨((vtx c k).1=(vtx c (Do c k)).1∧(vtx c k).2<(vtx c (Do c k)).2)then k else Do c k:=by
 unfold Do;rw[List.range_succ,List.foldl_append];rfl
theorem Us(c:lP):∀k,0<k->Do c k<k
 | 0,h=>absurd h zO
 | 1,_=>by
  rw[L2];split
  ·omega
  show Do c 0<1;simp[Do]
 | k+2,_=>by
  have ih:=Us c (k+1) zO;rw[L2];split <;> omega
def Cd(p:lP):List Pt:=if Kk p<0 then(JT p).reverse else JT p
theorem R7(h:An p=0):D2 p=.ok ((Cd p).drop (GZ (Cd p))++(Cd p).take (GZ (Cd p))):=by
 unfold D2;rw[if_neg (by simpa using h)];rfl
theorem gF{o:Nat}(h:Ab 2 Ad w (sa g o) n l)(t:f<=n):Ab 2 Ad w (sa g (o+f*2)) (n-f) (l.drop f):=by
 refine⟨by rw[List.length_drop,h.1],λv=>?_⟩;obtain⟨b,s,e,a,m⟩:=h.2 zO;injection e with e
 injection e with e1 e2
 subst e1;subst e2;refine⟨g,o+f*2,rfl,a,λj x k=>?_⟩;rw[List.getElem?_drop]at k;obtain⟨vs,p,q⟩:=m (f+j) x k;refine⟨vs,p,λi u r=>?_⟩;have:=q i u r;rw[Nat.add_mul]at this;rw[show o+f*2+j*2+i=o+(f*2+j*2)+i by omega];exact this
theorem XG(h:w.ownsRow a T s (.slice A m c) m xs):m<=c:=by
 rcases h.2 with⟨e,b⟩|⟨g,cap,cur,e,f,i,j,_⟩
 ·omega
 injection e with e1 e2 e3
 omega
theorem gG(h:Ab 2 Ad w A n l)(i:(∃g,A=some ⟨g,0,none⟩∧a<=g∧g<s)∨(A=none∧n=0∧c=0))(m:n<=c)(j:f<=n)(e:0<n->f<n) :
  Ab 2 Ad w (if c=f then A else Option.map (λx=>x.add (f*2)) A) (n-f) (l.drop f)∧PX (if c=f then A else Option.map (λx=>x.add (f*2)) A) (n-f) (c-f):=by
 rcases i with⟨g,rfl,_⟩|⟨rfl,rfl,rfl⟩
 ·by_cases k:0<n
  ·have:=e k;rw[if_neg zO,zt6,Go.WideShapes.add_plain];exact⟨gF h j,.inl ⟨g,0+f*2,rfl⟩⟩
  obtain rfl:n=0:=zO;obtain rfl:f=0:=zO;have b:l=[]:=zt7 h.len;subst b;refine⟨Ab.nil _ _ _ _,?_⟩;split
  ·exact .inl ⟨g,0,rfl⟩
  rw[zt6,Go.WideShapes.add_plain];exact .inl ⟨g,0+0*2,rfl⟩
 obtain rfl:f=0:=zO;have b:l=[]:=zt7 h.len;subst b;exact⟨Ab.nil _ _ _ _,.inr ⟨rfl,rfl,rfl⟩⟩
theorem pE(c:Nat)(w:World):CP 130 #[.slice none 0 c] w λe w'=>e=.returned (.tuple #[])∧w'=w:=
 AnyQ.slices_Reverse_empty Tryz.laysRevSp none c w
theorem uQ(h:w.ownsRow a T 2 (.slice A m c) m xs):(∃g,A=some ⟨g,0,none⟩∧a<=g∧g<w.heap.size)∨(A=none∧m=0∧c=0):=by
 rcases h.2 with⟨e,b⟩|⟨g,cap,cur,e,f,i,_⟩
 ·injection e with e1 e2 e3
  exact .inr ⟨e1,b,e3⟩
 injection e with e1 e2 e3
 exact .inl ⟨g,e1,f,(Array.getElem?_eq_some_iff.1 i).1⟩
theorem WB{r:Option Nat}(h:Below B w0 w)(a:w.grownBy w' r)(b:B<=w.heap.size)(e:∀g,r=some g->B<=g):Below B w0 w':=Ax h a b e
theorem Zz(A:oA)(n c:Nat)(l:lP)(w:World)(F:Ab 2 Ad w A n l)(hc:n<=c)(hn:n<=1000000) :
  CP 89 #[.slice A n c] w (PY (D2 l) w):=by
 have HA:=zH F;have HF:=zH (FJ A n c l w F hc hn);obtain⟨E,hE⟩:=zG (An l);rw[hE]at HF;by_cases h0:E=0
 ·subst h0;obtain⟨k1,k2,k3,k4⟩:=DN hE;rw[F.len]at k1 k2;have hg:∀p∈l,inG p:=λp X=>DZ.1 (by rw[List.any_eq_false]at k3;simpa using k3 p X)
  have HG:=zH hg;have HL:=zH F.len;have bc:=zH (λW i (hb:Bw w W) (hi:i<n)=>oZ A n c i l W (F.on Aa hb) hi zO hg);have bd:=zH (λW (hb:Bw w W)=>Un A n c l W (F.on Aa hb) zO zO hg);have be:=zH (λk=>PZ (by rw[F.len];omega) hg k);have R:Hid (Cd l=if Kk l<0 then(CD l n).reverse else CD l n):=by rw[Hid,Cd,KV,F.len]
  obtain⟨Q,Y⟩:=zG (PY (D2 l) w)
  have HQ:Hid (Q=λe w'=>Bw w w'∧∃A n c,e=.returned (.tuple #[.slice A n c,zi 0])∧Ab 2 Ad w' A n ((Cd l).drop (GZ (Cd l))++(Cd l).take (GZ (Cd l)))∧n<=c):=by
   rw[Hid,<-Y];funext e w';unfold PY;rw[R7 hE]
  rw[Y];clear F hE k3 k4 hg Y;go_enter func89,ntmps89;go_wp2_with(go_at_call 55;refine HF.o.mono ?_;rintro e w1 ⟨rfl,S⟩;have T:=zH S;clear S)
  go_loopw[5,6,7,19,21,22,23,24,25,26,27,28,29,30,31] (λv _ _ i _ _ _ _ _ _ _ _ _ _ _ wr=>∃k:Nat,k<=n∧i=zi (k:Int)∧Hid (wr.ownsRow w1.heap.size 56 2 v (CD l k).length ((CD l k).flatMap spC))∧Hid (Bw w1 wr)) (λ_ _ _ i _ _ _ _ _ _ _ _ _ _ _ _=>n-(intOf i).toNat)
  case atStart=>exact⟨0,zs3 _,rfl,World.ownsRow_nil _ _ _ _,zJ⟩
  case round=>
   obtain⟨k,hk,rfl,H,Z⟩:=hrel;obtain⟨cs,C⟩:=zG (CD l k);have a6:Hid (cs.length<=k):=by rw[Hid,<-C];exact Oh l k
   rw[C]at H;obtain⟨A1,C1,rfl⟩:=AX H.o;have a:=zH (zT T.o Z.o);by_cases I:k<n
   ·obtain⟨b,bf,p,rfl,bg,X,c0,c1⟩:=Ap (HA.o.on Aa a.o) I;have U:vtx l k=p:=Dl HL.o (Nat.mod_eq_of_lt I) X;have a0:=zH (Ur l k);rw[C,U]at a0;have a7:Hid (Bw wr (zw wr #[zi p.1,zi p.2] 56)):=zA _;have HX:=zH (Blk.new wr 56 #[zi p.1,zi p.2]);have a8:=zH (bc.o _ k (zT a.o a7.o) I);obtain⟨z,hz⟩:=zG (Jh l k);rw[hz]at a8 a0;obtain⟨i1,i2⟩:=zI (k:=k) (n:=n) (by omega);clear X U hz;by_cases a1:z=0
    ·subst a1;have a9:Hid (CD l (k+1)=cs):=by rw[Hid,a0.o];simp
     clear C;go_wp2_with(go_at_call 129;refine a8.o.mono ?_;rintro e w2 ⟨rfl,L⟩;have J:=zH (Ag a7.o L);clear L)
     go_roundw
     case rel=>
      refine⟨k+1,by omega,by go_num,?_,zT Z.o J.o⟩;rw[a9.o];exact Ah H.o J.o
     case measure=>exact zM
    have a9:Hid (CD l (k+1)=cs++[p]):=by rw[Hid,a0.o,if_neg a1]
    have bv:(z != 0)=true:=by simpa using a1
    have b3':cs.length+1<=maxLen:=by have:=a6.o;unfold maxLen;omega
    have b4':(cs.length+1)*16<=140737488355328:=by have:=a6.o;omega
    clear C a1
    go_wp2_with(first
     | (go_at_call 129;refine a8.o.mono ?_;rintro e w2 ⟨rfl,L⟩;have J:=zH (Ag a7.o L);obtain⟨x0,x1,x2,x3⟩:=EU HX.o L;have bw:=J.o.size;have bx:=Z.o.size;clear L)
     | (at_builtin;refine Bt (P:=prog) (by rfl) _ _ 64 (by rfl) w1.heap.size 56 (.agg #[zi 0,zi 0]) 2 16 underlying64 BY rfl zD (.slice A1 cs.length C1) cs.length _ (by rfl) (Ah H.o (by exact Below.alo J.o _)) ⟨w2.heap.size,0,none⟩ 1 1 (spC p) (by rfl) (by rfl) (EV (Blk.new w2 56 _)) (DH p) b3' b4' zQ ?_;intro v7 w7 ao bh bz;obtain⟨A7,c7,rfl⟩:=AX ao))
    go_roundw
    case rel=>
     refine⟨k+1,by omega,by go_num,?_,Ax (Z.o.trans ((Below.alo J.o _).mono Z.o.size)) bh zQ (λg e=>(H.o.lt g e).1)⟩;rw[a9.o,zq5,zr7];refine zH ?_;simpa using ao
    case measure=>exact zM
   obtain rfl:k=n:=zO;have aa:=uQ H.o;have ab:=be.o k;rw[C]at R ab;have M:=bd.o wr a.o;obtain⟨z,hz⟩:=zG (Kk l);rw[hz]at M R;have M:=zH M;have ac:=zH ab;have N:=zH aa;obtain⟨m,hm⟩:=zG cs.length;have HM:=zH hm;have c4:m<=k:=by rw[<-hm];exact a6.o
   rw[hm]at H N⊢
   have bt:=Z.o.size;clear C ab aa hz hm
   go_upto_if 35 with(go_at_call 65;refine M.o.mono ?_;rintro e w3 ⟨rfl,L⟩;have V:=zH L;clear L)
   go_cut [36,37] (λ_ _ wx=>Ab 2 Ad wx A1 m (Cd l)∧Bw w wx)
   case first=>
    by_cases ae:z<0
    ·have a2:Hid (Cd l=cs.reverse):=by rw[Hid,R.o,if_pos ae]
     have af:=Ah H.o V.o;rcases N.o with⟨g,rfl,c5,c8⟩|⟨rfl,rfl,rfl⟩
     ·have ap:=HSp.of_own af;have K:=XF g 0 C1 cs w3 ap (by rw[HM.o];omega);rw[HM.o]at K;have K:=zH K;have y:=zH (zT a.o V.o);have ba:=y.o.size;clear ap af;go_wp2_with(go_at_call 130;refine K.o.mono ?_;rintro e w4 ⟨rfl,O,aq⟩;have bi:=zH O;have bj:=zH aq;clear O aq)
      go_meet
      case rel=>
       have ag:=bi.o.recs;rw[List.length_reverse,HM.o,<-a2.o]at ag;exact⟨ag,WB y.o bj.o ba (λg' e=>by injection e with e;have:=T.o.size;omega)⟩
     have K:=zH (λW=>pE 0 W);have ah:cs=[]:=zt7 HM.o;have ai:Hid (Cd l=[]):=by rw[Hid,a2.o,ah];rfl
     have y:=zH (zT a.o V.o);clear af ah;go_wp2_with(go_at_call 130;refine(K.o _).mono ?_;rintro e w4 ⟨rfl,rfl⟩)
     go_meet
     case rel=>
      rw[ai.o];exact⟨Ab.nil _ _ _ _,y.o⟩
    have a2:Hid (Cd l=cs):=by rw[Hid,R.o,if_neg ae]
    obtain⟨A,cc,hA,O,c9⟩:=CJ (G:=Ad) (g:=λx:Pt=>x) Bu (Ah H.o V.o) HM.o (λt _=>rfl);rw[List.map_id']at O;injection hA with hA _ hC
    subst hA;subst hC;have bk:=zH O;have y:=zH (zT a.o V.o);clear O
    go_wp2_with fail
    go_meet
    case rel=>
     rw[a2.o];exact⟨bk.o,y.o⟩
   case rest=>
    obtain⟨O,hb⟩:=hcut;have HR:=zH O;have ar:=zH hb;clear O hb;have a3:Hid ((Cd l).length=m):=HR.o.len
    have bl:Hid (∀s∈Cd l,inG s):=λs hs=>by
     rw[R.o]at hs;split at hs
     ·exact ac.o s (List.mem_reverse.1 hs)
     exact ac.o s hs
    obtain⟨tc,au⟩:=zG (Cd l);rw[au]at HR a3 bl HQ;have an:=zH (λj=>L2 tc j);have bm:=zH (λj=>Us tc j);have bn:=zH (XG H.o);clear au
    go_wp2_with fail
    go_loopw[8,9,10,11,40,42,43,44,45,46,47,48,49,50,51,52,53,54,55,56,57,58,59,60,61,62,63,64,65,66,67,68] (λf _ _ _ i _ _ _ _ _ _ _ _ _ _ _ _ _ _ _ _ _ _ _ _ _ _ _ _ _ _ _ wr=>∃k f0:Nat,k<=m∧f0<=k∧i=zi (k:Int)∧f=zi (f0:Int)∧Hid (Do tc k=f0)∧Bw wc wr) (λ_ _ _ _ i _ _ _ _ _ _ _ _ _ _ _ _ _ _ _ _ _ _ _ _ _ _ _ _ _ _ _ _=>m-(intOf i).toNat)
    case atStart=>exact⟨0,0,zs3 _,zs2 _,rfl,rfl,rfl,zJ⟩
    case round=>
     obtain⟨k,f0,hk,av,rfl,rfl,aj,r⟩:=hrel;have B:=zH r;by_cases I:k<m
     ·have aw:f0<m:=zO;obtain⟨b,bf,p,rfl,bg,X,c0,c1⟩:=Ap (HR.o.on Aa r) I;obtain⟨b2,bu,q,ak,_,hq,c2,c3⟩:=Ap (HR.o.on Aa r) aw;injection ak with ak
      injection ak with e1 e2
      subst e1;subst e2;have U:vtx tc k=p:=Dl a3.o (Nat.mod_eq_of_lt I) X;have ax:vtx tc f0=q:=Dl a3.o (Nat.mod_eq_of_lt aw) hq;have al:=an.o k;rw[aj.o,U,ax]at al;have a4:=zH al;have ca:Hid (Bw wr (zw (zw wr #[zi p.1,zi p.2] 56) #[zi q.1,zi q.2] 56)):=(zA _).alloc zP _;obtain⟨i1,i2⟩:=zI (k:=k) (n:=m) (by omega);obtain⟨i3,i4⟩:=zI (k:=f0) (n:=m) (by omega);clear X hq U ax al r;by_cases hx:p.1<q.1
      ·have D:Hid (Do tc (k+1)=k):=by rw[Hid,a4.o,if_pos (.inl hx)]
       go_wp2_with fail
       go_roundw
       case rel=>exact⟨k+1,k,by omega,by omega,by go_num,by go_num,D,B.o.trans (((zA _).alloc zP _).mono B.o.size)⟩
       case measure=>exact zM
      by_cases he:p.1=q.1
      ·by_cases hy:p.2<q.2
       ·have D:Hid (Do tc (k+1)=k):=by rw[Hid,a4.o,if_pos (.inr ⟨he,hy⟩)]
        have ay:(p.1 == q.1)=true:=by simpa using he
        go_wp2_with fail
        go_roundw
        case rel=>exact⟨k+1,k,by omega,by omega,by go_num,by go_num,D,B.o.trans (((zA _).alloc zP _).mono B.o.size)⟩
        case measure=>exact zM
       have D:Hid (Do tc (k+1)=f0):=by rw[Hid,a4.o,if_neg zO]
       have ay:(p.1 == q.1)=true:=by simpa using he
       go_wp2_with fail
       go_roundw
       case rel=>exact⟨k+1,f0,by omega,by omega,by go_num,by go_num,D,B.o.trans (((zA _).alloc zP _).mono B.o.size)⟩
       case measure=>exact zM
      have D:Hid (Do tc (k+1)=f0):=by rw[Hid,a4.o,if_neg zO]
      have ay:(p.1 == q.1)=false:=by simpa using he
      go_wp2_with fail
      go_roundw
      case rel=>exact⟨k+1,f0,by omega,by omega,by go_num,by go_num,D,B.o.trans (((zA _).alloc zP _).mono B.o.size)⟩
      case measure=>exact zM
     obtain rfl:k=m:=zO;have az:=zH (HR.o.on Aa r);have b0:=zH (zT ar.o r);have bo:k<=C1:=bn.o;have b1:0<k->f0<k:=λh=>by have:=bm.o k h;rw[aj.o]at this;exact this
     obtain⟨b3,b4⟩:=gG az.o N.o bo av b1;have b5:=zH b3;have am:=zH b4
     have ai:Hid (PX A1 f0 C1):=by
      rcases N.o with⟨g,e,_⟩|⟨e1,e2,e3⟩
      ·exact .inl ⟨g,0,e⟩
      exact .inr ⟨e1,by omega,e3⟩
     have bp:=zH (az.o.take av);have bb:Hid (GZ tc=f0):=by rw[Hid,gD,a3.o];exact aj.o
     obtain⟨AF,bq⟩:=zG (if C1=f0 then A1 else Option.map (λx:Addr=>x.add (f0*2)) A1);rw[bq]at b5 am;have i3:(0:Int)<=(f0:Int):=zO;have i4:(f0:Int)<=(k:Int):=zO;have i5:(f0:Int)<=(C1:Int):=zO;have i6:(k:Int)<=(C1:Int):=zO;have a5:Hid (∀o,Bw wr (wr.alloc o).drew):=λo=>(zA o).drew
     clear r b3 b4 b1
     go_wp2_with fail
     go_region_with (go_at_call 131;refine(Zy _ _ _ _ _ _ _ _ _ _ _ ((Blk.new wr _ _).drew) (b5.o.on Aa (a5.o _)) (bp.o.on Aa (a5.o _)) am.o ai.o zO zO).mono ?_;rintro e w6 ⟨A6,n6,c6,rfl,b6,b7,b8⟩;have b9:=zH (zu2 b6 b7);have br:=zH ((a5.o _).trans (b8.mono (a5.o _).size));clear b6 b7 b8)
     go_wp2_with fail
     go_ret2
     rw[HQ.o,bb.o];exact⟨zT b0.o br.o,A6,n6,c6,rfl,b9.o.1,b9.o.2⟩
 have cb:(E != 0)=true:=by simpa using h0
 obtain⟨Q,Y⟩:=zG (PY (D2 l) w)
 have HQ:Hid (Q=λe w'=>Bw w w'∧e=.returned (.tuple #[zn,zi E])):=by
  rw[Hid,<-Y];funext e w';unfold PY D2;rw[hE,if_pos h0]
 rw[Y];clear F hE Y h0;go_enter func89,ntmps89;go_wp2_with(go_at_call 55;refine HF.o.mono ?_;rintro e w1 ⟨rfl,S⟩;have T:=zH S;clear S)
 rw[HQ.o];exact⟨T.o,rfl⟩
end Go.Proofs.YteafekbddckemaaGreatDoor
