/- Parts of the proof. -/
import Derived.Test.YteafekbddckemaaGreatDoorH39
set_option maxRecDepth 100000
set_option maxHeartbeats 40000000
namespace Go.Proofs.YteafekbddckemaaGreatDoor
open Tryz Go.RowKit
open Go.Lib hiding intOf
variable{A:oA}{B b g gw i n:Nat}{T e:TypeId}{l:List Int}{m:Au}{p:Ac}{u v:Value}{w w' w0:World}{xs:lV}
theorem SL:(prog.info? 9).map (λi=>(i.zero,i.size,i.bytes))=some (some (.string ByteArray.empty),1,16):=zk
theorem Ge:(prog.info? 58).map (λi=>(i.zero,i.size,i.bytes))=some (some (.agg #[zi 0,zi 0,zi 0,zF,zi 0,zi 0,zi 0]),7,56):=zk
def I9(p:Ac):List Int:=[p.garment,p.use,p.copy,p.turn.quarter,p.at_.1,p.at_.2]
theorem wW(h:Cw p=true):∀z∈I9 p,inW z:=by
 unfold Cw at h;simp only[Bool.and_eq_true]at h;have a:=Fm h.1 zO zO;have f:=Fm h.2.1 zO zO;have b:=Fm h.2.2 zO zO;intro z e;simp only[I9,zr3,List.not_mem_nil,or_false]at e;rcases e with rfl|rfl|rfl|rfl|rfl|rfl
 ·exact a _ zP
 ·exact a _ zP
 ·exact a _ zP
 ·exact f _ zP
 ·exact b _ zP
 exact b _ zP
def CA(z:Int):Value:=.string (bytes (itoa z))
theorem Mq(p:Ac):(AN p).length=7:=rfl
theorem Gf(p:Ac):∀u∈AN p,u.oneCell'=true:=λu a=>by
 simp only[AN,zr3,List.not_mem_nil,or_false]at a;rcases a with rfl|rfl|rfl|rfl|rfl|rfl|rfl <;> rfl
theorem Hf(W:World)(p:Ac)(T:TypeId):∀(j:Nat)(u:Value),(AN p)[j]?=some u->(W.alloc (.cells #[zi p.garment,zi p.use,zi p.copy,.bool p.turn.flip,zi p.turn.quarter,zi p.at_.1,zi p.at_.2] T)).cell? ((⟨W.heap.size,0,none⟩:Addr).add j)=some u:=λj u a=>by
 have b:Blk (W.alloc (.cells (AN p).toArray T)) W.heap.size T (AN p).toArray:=Blk.new W _ _;rw[Go.WideShapes.add_plain];exact b.c (by simpa using a)
theorem VM(h:Sl w w.heap.size A 6 (Ar (I9 p))):∃g a,A=some ⟨g,a,none⟩∧g<w.heap.size∧zL w g a (zi p.garment)∧zL w g (a+1) (zi p.use)∧zL w g (a+2) (zi p.copy)∧zL w g (a+3) (zi p.turn.quarter)∧zL w g (a+4) (zi p.at_.1)∧zL w g (a+5) (zi p.at_.2):=by
 obtain⟨g,a,e,f,b⟩:=h.2 zO;exact⟨g,a,e,f,b 0 _ rfl,b 1 _ rfl,b 2 _ rfl,b 3 _ rfl,b 4 _ rfl,b 5 _ rfl⟩
theorem GB.grown{r:Option Nat}(h:GB B b w0 w)(a:w.grownBy w' r)(k:B<=w.heap.size)(f:∀g,r=some g->B<=g):GB B b w0 w':=
 ⟨a.os.trans h.os,a.tape.trans h.tape,a.output.trans h.output,zs0 h.size a.size,λi hi j=>(a.block i zO (λe=>by have:=f i e.symm;omega)).trans (h.block i hi j)⟩
theorem bD(f:Blk w gw 9 ((Bs::BM p).map λu=>Value.string (bytes u)).toArray):zL w gw 0 (.string ⟨#[112,108,97,99,101]⟩)∧(p.turn.flip=false->Sl w w.heap.size (sa gw 1) 6 (((I9 p).map itoa).map λu=>Value.string (bytes u)))∧
  (p.turn.flip=true->zL w gw 4 (.string ⟨#[102,108,105,112]⟩)∧(∀(j:Nat)(u:Value),[CA p.garment,CA p.use,CA p.copy][j]?=some u->w.cell? ((⟨gw,1,none⟩:Addr).add j)=some u)∧(∀(j:Nat)(u:Value),[CA p.turn.quarter,CA p.at_.1,CA p.at_.2][j]?=some u->w.cell? ((⟨gw,5,none⟩:Addr).add j)=some u)):=by
 refine⟨f.c (by simp;rfl),λb=>⟨rfl,λ_=>⟨gw,1,rfl,f.lt,λj u a=>f.c ?_⟩⟩,λb=>⟨f.c (by simp[BM,b];rfl),λj u a=>?_,λj u a=>?_⟩⟩
 ·have e:(Bs::BM p).map (λu=>Value.string (bytes u))=.string (bytes Bs)::((I9 p).map itoa).map (λu=>Value.string (bytes u)):=by
   simp[BM,b,I9]
  rw[e,List.getElem?_toArray,Nat.add_comm,List.getElem?_cons_succ];exact a
 ·rw[Go.WideShapes.add_plain];refine f.c ?_;simp only[List.getElem?_toArray]
  match j,a with
  | 0,a=>simpa[BM,b,CA]using a
  | 1,a=>simpa[BM,b,CA]using a
  | 2,a=>simpa[BM,b,CA]using a
  | j+3,a=>simp at a
 rw[Go.WideShapes.add_plain];refine f.c ?_;simp only[List.getElem?_toArray]
 match j,a with
 | 0,a=>simpa[BM,b,CA]using a
 | 1,a=>simpa[BM,b,CA]using a
 | 2,a=>simpa[BM,b,CA]using a
 | j+3,a=>simp at a
theorem Hg{size:Nat}(h:w.ownsRow B e size v n xs)(l:b<B):(w.setCell (ad b i) u).ownsRow B e size v n xs:=by
 refine⟨h.1,?_⟩;rcases h.2 with a|⟨g,cap,cur,f,a,j,k⟩
 ·exact .inl a
 exact .inr ⟨g,cap,cur,f,a,(Below.heap_setCell w ⟨b,i,none⟩ u g (show g≠b by omega)).trans j,k⟩
theorem Tf(b gw B:Nat)(p:Ac)(ps:List Ac)(z0 z1 z2 z3:Int)(S:oA)(n c:Nat)(P:oA)(k d:Nat)(w:World)(hb:Blk w b 40 #[zi z0,zi z1,zi z2,zi z3,.slice S n c,.slice P k d])(hg:Blk w gw 9 ((Bs::BM p).map λu=>Value.string (bytes u)).toArray)(hp:Cw p=true)(ho:w.ownsRow B 58 7 (.slice P k d) k (ps.flatMap AN))(hk:k<60)(V:b<B)(hB:B<=w.heap.size)(f:Bool)(hf:p.turn.flip=f)(N:Nat)(hN:N=if f=true then 8 else 7) :
  CP 47 #[.pointer (sa b 0),.slice (sa gw 0) N N] w λe w'=>e=.returned (zi 0)∧∃P' d',Blk w' b 40 #[zi z0,zi z1,zi z2,zi z3,.slice S n c,.slice P' (k+1) d']∧w'.ownsRow B 58 7 (.slice P' (k+1) d') (k+1) ((ps++[p]).flatMap AN)∧GB B b w w':=by
 obtain⟨w0,X,Y⟩:=bD hg;have m:=hg.lt;have b9:=hb.lt;have HX:=zH hb;have HO:=zH ho;have HN:=zH (λA a W (h:Sl W W.heap.size A 6 (((I9 p).map itoa).map λu=>Value.string (bytes u)))=>K1 A 6 a (I9 p) W h (wW hp) zO);have y:=λW=>Yi p W
 simp only[hp,hf]at y;rw[hf]at X Y;have ab:=zH hf;have ac:Hid (Bw w (w.alloc (.cells #[zi 0,zi 0,zi 0,zF,zi 0,zi 0,zi 0] 58))):=zA _;have HY:=zH (Blk.new w 58 #[zi 0,zi 0,zi 0,zF,zi 0,zi 0,zi 0]);clear hb hg ho hp;clear hf
 cases f with
 | false=>
  simp only[Bool.false_eq_true,if_false]at hN;subst hN;have y:=zH y
  have NP:Hid (∀W:World,∀(j:Nat)(u:Value),(AN p)[j]?=some u->(W.alloc (.cells #[zi p.garment,zi p.use,zi p.copy,zF,zi p.turn.quarter,zi p.at_.1,zi p.at_.2] 58)).cell? ((⟨W.heap.size,0,none⟩:Addr).add j)=some u):=λW=>by
   have h:=Hf W p 58;rw[ab.o]at h;exact h
  have aq:=zH (X rfl);clear X Y;go_enter func47,ntmps47
  go_upto_if 19 with fail
  go_cut [6] (λs6 wx=>∃A a,s6=.slice A 6 a∧Sl wx wx.heap.size A 6 (((I9 p).map itoa).map λu=>Value.string (bytes u))∧Blk wx w.heap.size 58 #[zi 0,zi 0,zi 0,zF,zi 0,zi 0,zi 0]∧Bw w wx)
  case first=>
   go_wp2_with fail
   go_meet;exact⟨_,_,rfl,aq.o.on ac.o,HY.o,ac.o⟩
  case rest=>
   obtain⟨A,a,rfl,K,Z,q⟩:=hcut;have w0:=(q.cell (p:=ad gw 0) m).trans w0;have a0:=zH K;have L:=zH Z;have M:=zH q;have m:=zs1 m q.size;clear K Z q;go_wp2_with(go_at_call 78;go_must((refine(HN.o A a _ a0.o).mono ?_);rintro e w1 hr;obtain⟨A2,a2,U,O,ar,Q,r⟩:=hr;replace U:e=.returned (.tuple #[.slice A2 6 a2,zY]):=U;subst U;have w0:=(r.cell (p:=ad gw 0) m).trans w0;have a1:=zH (show Sl w1 w1.heap.size A2 6 (Ar (I9 p))from O);have a3:=zH (Q (Nat.succ_pos _));have i:=zH (L.o.below r);have x:=zH (zT M.o r);clear O Q r))
   obtain⟨g,hA,au⟩:=a3.o;obtain⟨g',av,s,aw,k0,k1,k2,k3,k4,k5⟩:=VM a1.o;rw[hA]at s;injection s with s
   injection s with e1 e2
   subst e1;subst e2;subst hA;simp only[Nat.zero_add]at k0 k1 k2 k3 k4 k5;have ax:=L.o.lt;have ay:¬g=w.heap.size:=zO;have al:¬w.heap.size=g:=zO;have am:=i.o.lt;obtain⟨y0,y1,y2,y3,y4,y5,y6⟩:=Db i.o;have f0:=i.o.frozen 0;have f1:=i.o.frozen 1;have f2:=i.o.frozen 2;have f4:=i.o.frozen 4;have f5:=i.o.frozen 5;have f6:=i.o.frozen 6
   go_region_held3(λw'=>w'.cell? (ad g 0)=some (zi p.garment)∧w'.cell? (ad g 1)=some (zi p.use)∧w'.cell? (ad g 2)=some (zi p.copy)∧w'.cell? (ad g 3)=some (zi p.turn.quarter)∧w'.cell? (ad g 4)=some (zi p.at_.1)∧w'.cell? (ad g 5)=some (zi p.at_.2))
    (go_keep)
    (fail)
   go_wp2_with fail
   go_region_held3(λw'=>w'.cell? (ad g 0)=some (zi p.garment)∧w'.cell? (ad g 1)=some (zi p.use)∧w'.cell? (ad g 2)=some (zi p.copy)∧w'.cell? (ad g 3)=some (zi p.turn.quarter)∧w'.cell? (ad g 4)=some (zi p.at_.1)∧w'.cell? (ad g 5)=some (zi p.at_.2))
    (go_keep)
    (fail)
   have z:=zH ((((((i.o.set_ 0 (zi p.garment)).set_ 1 (zi p.use)).set_ 2 (zi p.copy)).set_ 4 (zi p.turn.quarter)).set_ 5 (zi p.at_.1)).set_ 6 (zi p.at_.2));have I:=zH ((((((x.o.setCell (p:=ad w.heap.size 0) (zs2 _) (zi p.garment)).setCell (p:=ad w.heap.size 1) (zs2 _) (zi p.use)).setCell (p:=ad w.heap.size 2) (zs2 _) (zi p.copy)).setCell (p:=ad w.heap.size 4) (zs2 _) (zi p.turn.quarter)).setCell (p:=ad w.heap.size 5) (zs2 _) (zi p.at_.1)).setCell (p:=ad w.heap.size 6) (zs2 _) (zi p.at_.2));have z:Hid (Blk ((((((w1.setCell (ad w.heap.size 0) (zi p.garment)).setCell (ad w.heap.size 1) (zi p.use)).setCell (ad w.heap.size 2) (zi p.copy)).setCell (ad w.heap.size 4) (zi p.turn.quarter)).setCell (ad w.heap.size 5) (zi p.at_.1)).setCell (ad w.heap.size 6) (zi p.at_.2)) w.heap.size 58 #[zi p.garment,zi p.use,zi p.copy,zF,zi p.turn.quarter,zi p.at_.1,zi p.at_.2]):=z.o;have I:Hid (Bw w ((((((w1.setCell (ad w.heap.size 0) (zi p.garment)).setCell (ad w.heap.size 1) (zi p.use)).setCell (ad w.heap.size 2) (zi p.copy)).setCell (ad w.heap.size 4) (zi p.turn.quarter)).setCell (ad w.heap.size 5) (zi p.at_.1)).setCell (ad w.heap.size 6) (zi p.at_.2))):=I.o;generalize((((((w1.setCell (ad w.heap.size 0) (zi p.garment)).setCell (ad w.heap.size 1) (zi p.use)).setCell (ad w.heap.size 2) (zi p.copy)).setCell (ad w.heap.size 4) (zi p.turn.quarter)).setCell (ad w.heap.size 5) (zi p.at_.1)).setCell (ad w.heap.size 6) (zi p.at_.2))=W9 at *
   obtain⟨y0,y1,y2,y3,y4,y5,y6⟩:=Db z.o;have an:=z.o.lt;clear k0 k1 k2 k3 k4 k5 f0 f1 f2 f4 f5 f6;have az:(k:Int)<60:=zO;have b0:¬(60:Int)<=(k:Int):=zO;go_wp2_with(go_at_call 27;go_must((refine(y.o _).mono ?_);rintro e w3 ⟨rfl,l⟩;have R:Hid (Bw W9 w3):=(zX l);have t:=zH (zT I.o R.o);have T:Hid (Blk w3 w.heap.size 58 #[zi p.garment,zi p.use,zi p.copy,zF,zi p.turn.quarter,zi p.at_.1,zi p.at_.2]):=z.o.below R.o;have C:=zH (HX.o.below t.o);obtain⟨x0,x1,x2,x3,x4,x5⟩:=B9 C.o;obtain⟨y0,y1,y2,y3,y4,y5,y6⟩:=Db T.o;have D:=zH (Ah HO.o t.o);have ao:=T.o.lt;have ap:=C.o.lt;clear l))
   have E:=cL D.o V;have a4:=zH E;have a5:B<=w3.heap.size:=zs0 hB t.o.size;clear E
   go_region_law (first
    | ((refine GH (by rfl) _ _ 38 (by rfl) B 58 (.agg #[zi 0,zi 0,zi 0,zF,zi 0,zi 0,zi 0]) 7 56 underlying38 Ge rfl zD (.slice P k d) k (ps.flatMap AN) (by rfl) (Ah D.o zB) ⟨w3.heap.size,0,none⟩ 1 1 (AN p) (by rfl) (by rfl) (NP.out _) (Gf p) zU zO (by first|(simp;omega)|omega) ?_);go_must(intro v7 w7 F G a6;have v:=zH ((C.o.below zB).grown G a4.o);have a7:=zH (((GB.of (b:=b) t.o).mono hB).trans (GB.grown (GB.of (b:=b) (B:=B) (w:=w3) ((show Bw w3 _ from zB).mono a5)) G (by first|(simp;omega)|omega) (λg e=>(D.o.lt g e).1)));obtain⟨x0,x1,x2,x3,x4,x5⟩:=B9 v.o;have fx:=v.o.frozen 5;have xl7:=v.o.lt;obtain⟨P7,d7,rfl⟩:=AX F;have a8:=zH F;clear F G a6))
    | fail)
   all_goals
    go_wp2_with fail
    go_ret;refine⟨rfl,P7,d7,v.o.set_ 5 _,Hg ?_ V,a7.o.set_ 5 _⟩;rw[zr7];simpa using a8.o
 | true=>
  simp only[if_true]at hN;subst hN;have y:=zH y
  have NP:Hid (∀W:World,∀(j:Nat)(u:Value),(AN p)[j]?=some u->(W.alloc (.cells #[zi p.garment,zi p.use,zi p.copy,zY,zi p.turn.quarter,zi p.at_.1,zi p.at_.2] 58)).cell? ((⟨W.heap.size,0,none⟩:Addr).add j)=some u):=λW=>by
   have h:=Hf W p 58;rw[ab.o]at h;exact h
  obtain⟨w4,ae,af⟩:=Y rfl;have b1:=zH ae;have b2:=zH af;clear X Y ae af;go_enter func47,ntmps47
  go_upto_if 19 with fail
  go_cut [6] (λs6 wx=>∃A a,s6=.slice A 6 a∧Sl wx wx.heap.size A 6 (((I9 p).map itoa).map λu=>Value.string (bytes u))∧Blk wx w.heap.size 58 #[zi 0,zi 0,zi 0,zY,zi 0,zi 0,zi 0]∧Bw w wx)
  case first=>
   have H:Hid (Bw w (w.alloc (.cells #[zi 0,zi 0,zi 0,zY,zi 0,zi 0,zi 0] 58))):=zA _;have ag:=zH (Blk.new w 58 #[zi 0,zi 0,zi 0,zY,zi 0,zi 0,zi 0])
   go_wp2_with fail
   generalize w.alloc (.cells #[zi 0,zi 0,zi 0,zY,zi 0,zi 0,zi 0] 58)=W0 at *
   have b3:Hid (∀W:World,Bw W0 W->∀(j:Nat)(u:Value),[CA p.garment,CA p.use,CA p.copy][j]?=some u->W.cell? ((⟨gw,1,none⟩:Addr).add j)=some u):=λW h j u J=>by
    have h1:=b1.o j u J;rw[Go.WideShapes.add_plain]at h1⊢
    exact((zT H.o h).cell (p:=ad gw (1+j)) m).trans h1
   have b4:Hid (∀W:World,Bw W0 W->∀(j:Nat)(u:Value),[CA p.turn.quarter,CA p.at_.1,CA p.at_.2][j]?=some u->W.cell? ((⟨gw,5,none⟩:Addr).add j)=some u):=λW h j u J=>by
    have h1:=b2.o j u J;rw[Go.WideShapes.add_plain]at h1⊢
    exact((zT H.o h).cell (p:=ad gw (5+j)) m).trans h1
   have H3:Hid (∀u∈[CA p.garment,CA p.use,CA p.copy],u.oneCell'=true):=λu J=>by
    simp only[zr3,List.not_mem_nil,or_false]at J;rcases J with rfl|rfl|rfl <;> rfl
   have H5:Hid (∀u∈[CA p.turn.quarter,CA p.at_.1,CA p.at_.2],u.oneCell'=true):=λu J=>by
    simp only[zr3,List.not_mem_nil,or_false]at J;rcases J with rfl|rfl|rfl <;> rfl
   have b5:Hid (∀W:World,W.heap=W0.heap->(W.alloc (.cells #[] 9)).ownsRow W0.heap.size 9 1 (.slice (sa W0.heap.size 0) 0 0) 0 []):=λW h=>⟨rfl,.inr ⟨W0.heap.size,0,#[],rfl,zs2 _,by rw[<-h];exact heap_alloc_new W _,zs2 _,zs3 _,rfl,rfl⟩⟩
   have ba:=ag.o.lt;clear w4
   go_region_law (first
    | ((refine GH (by rfl) _ _ 22 (by rfl) W0.heap.size 9 (.string ByteArray.empty) 1 16 underlying22 SL rfl zD (.slice (sa W0.heap.size 0) 0 0) 0 [] (by rfl) (b5.o _ rfl) ⟨gw,1,none⟩ 3 7 [CA p.garment,CA p.use,CA p.copy] (by rfl) (by rfl) (b3.o _ zB) H3.o zD zD zP ?_);go_must(intro v1 w1 a9 ah b6;obtain⟨A1,c1,rfl⟩:=AX a9;have ai:=zH a9;have x:=zH (Ax (B:=W0.heap.size) (w0:=W0) zB ah zP (λg e=>by have:W0.heap.size=g:=zs6 e;omega));clear a9 ah b6))
    | ((refine GH (by rfl) _ _ 22 (by rfl) W0.heap.size 9 (.string ByteArray.empty) 1 16 underlying22 SL rfl zD (.slice A1 3 c1) 3 [CA p.garment,CA p.use,CA p.copy] (by rfl) ai.o ⟨gw,5,none⟩ 3 3 [CA p.turn.quarter,CA p.at_.1,CA p.at_.2] (by rfl) (by rfl) (b4.o _ (by repeat(first|(with_reducible exact x.o)|(with_reducible refine Ai ?_ _)|(with_reducible refine Below.drew ?_)|(with_reducible refine Below.alo ?_ _)))) H5.o zD zD (by exact x.o.size) ?_);go_must(intro v2 w2 aa aj b7;obtain⟨A2,c2,rfl⟩:=AX aa;have b8:=zH aa;have ak:=zH (Ax (B:=W0.heap.size) (w0:=W0) (by repeat(first|(with_reducible exact x.o)|(with_reducible refine Ai ?_ _)|(with_reducible refine Below.drew ?_)|(with_reducible refine Below.alo ?_ _))) aj (by exact x.o.size) (λg e=>(ai.o.lt g e).1));clear aa aj b7))
    | fail)
   all_goals
    go_wp2_with fail
    go_meet;exact⟨_,_,rfl,Sl.of_own b8.o,ag.o.below ak.o,zT H.o ak.o⟩
  case rest=>
   obtain⟨A,a,rfl,K,Z,q⟩:=hcut;have w0:=(q.cell (p:=ad gw 0) m).trans w0;have a0:=zH K;have L:=zH Z;have M:=zH q;have m:=zs1 m q.size;clear K Z q;go_wp2_with(go_at_call 78;go_must((refine(HN.o A a _ a0.o).mono ?_);rintro e w1 hr;obtain⟨A2,a2,U,O,ar,Q,r⟩:=hr;replace U:e=.returned (.tuple #[.slice A2 6 a2,zY]):=U;subst U;have w0:=(r.cell (p:=ad gw 0) m).trans w0;have a1:=zH (show Sl w1 w1.heap.size A2 6 (Ar (I9 p))from O);have a3:=zH (Q (Nat.succ_pos _));have i:=zH (L.o.below r);have x:=zH (zT M.o r);clear O Q r))
   obtain⟨g,hA,au⟩:=a3.o;obtain⟨g',av,s,aw,k0,k1,k2,k3,k4,k5⟩:=VM a1.o;rw[hA]at s;injection s with s
   injection s with e1 e2
   subst e1;subst e2;subst hA;simp only[Nat.zero_add]at k0 k1 k2 k3 k4 k5;have ax:=L.o.lt;have ay:¬g=w.heap.size:=zO;have al:¬w.heap.size=g:=zO;have am:=i.o.lt;obtain⟨y0,y1,y2,y3,y4,y5,y6⟩:=Db i.o;have f0:=i.o.frozen 0;have f1:=i.o.frozen 1;have f2:=i.o.frozen 2;have f4:=i.o.frozen 4;have f5:=i.o.frozen 5;have f6:=i.o.frozen 6
   go_region_held3(λw'=>w'.cell? (ad g 0)=some (zi p.garment)∧w'.cell? (ad g 1)=some (zi p.use)∧w'.cell? (ad g 2)=some (zi p.copy)∧w'.cell? (ad g 3)=some (zi p.turn.quarter)∧w'.cell? (ad g 4)=some (zi p.at_.1)∧w'.cell? (ad g 5)=some (zi p.at_.2))
    (go_keep)
    (fail)
   go_wp2_with fail
   go_region_held3(λw'=>w'.cell? (ad g 0)=some (zi p.garment)∧w'.cell? (ad g 1)=some (zi p.use)∧w'.cell? (ad g 2)=some (zi p.copy)∧w'.cell? (ad g 3)=some (zi p.turn.quarter)∧w'.cell? (ad g 4)=some (zi p.at_.1)∧w'.cell? (ad g 5)=some (zi p.at_.2))
    (go_keep)
    (fail)
   have z:=zH ((((((i.o.set_ 0 (zi p.garment)).set_ 1 (zi p.use)).set_ 2 (zi p.copy)).set_ 4 (zi p.turn.quarter)).set_ 5 (zi p.at_.1)).set_ 6 (zi p.at_.2));have I:=zH ((((((x.o.setCell (p:=ad w.heap.size 0) (zs2 _) (zi p.garment)).setCell (p:=ad w.heap.size 1) (zs2 _) (zi p.use)).setCell (p:=ad w.heap.size 2) (zs2 _) (zi p.copy)).setCell (p:=ad w.heap.size 4) (zs2 _) (zi p.turn.quarter)).setCell (p:=ad w.heap.size 5) (zs2 _) (zi p.at_.1)).setCell (p:=ad w.heap.size 6) (zs2 _) (zi p.at_.2));have z:Hid (Blk ((((((w1.setCell (ad w.heap.size 0) (zi p.garment)).setCell (ad w.heap.size 1) (zi p.use)).setCell (ad w.heap.size 2) (zi p.copy)).setCell (ad w.heap.size 4) (zi p.turn.quarter)).setCell (ad w.heap.size 5) (zi p.at_.1)).setCell (ad w.heap.size 6) (zi p.at_.2)) w.heap.size 58 #[zi p.garment,zi p.use,zi p.copy,zY,zi p.turn.quarter,zi p.at_.1,zi p.at_.2]):=z.o;have I:Hid (Bw w ((((((w1.setCell (ad w.heap.size 0) (zi p.garment)).setCell (ad w.heap.size 1) (zi p.use)).setCell (ad w.heap.size 2) (zi p.copy)).setCell (ad w.heap.size 4) (zi p.turn.quarter)).setCell (ad w.heap.size 5) (zi p.at_.1)).setCell (ad w.heap.size 6) (zi p.at_.2))):=I.o;generalize((((((w1.setCell (ad w.heap.size 0) (zi p.garment)).setCell (ad w.heap.size 1) (zi p.use)).setCell (ad w.heap.size 2) (zi p.copy)).setCell (ad w.heap.size 4) (zi p.turn.quarter)).setCell (ad w.heap.size 5) (zi p.at_.1)).setCell (ad w.heap.size 6) (zi p.at_.2))=W9 at *
   obtain⟨y0,y1,y2,y3,y4,y5,y6⟩:=Db z.o;have an:=z.o.lt;clear k0 k1 k2 k3 k4 k5 f0 f1 f2 f4 f5 f6;have az:(k:Int)<60:=zO;have b0:¬(60:Int)<=(k:Int):=zO;go_wp2_with(go_at_call 27;go_must((refine(y.o _).mono ?_);rintro e w3 ⟨rfl,l⟩;have R:Hid (Bw W9 w3):=(zX l);have t:=zH (zT I.o R.o);have T:Hid (Blk w3 w.heap.size 58 #[zi p.garment,zi p.use,zi p.copy,zY,zi p.turn.quarter,zi p.at_.1,zi p.at_.2]):=z.o.below R.o;have C:=zH (HX.o.below t.o);obtain⟨x0,x1,x2,x3,x4,x5⟩:=B9 C.o;obtain⟨y0,y1,y2,y3,y4,y5,y6⟩:=Db T.o;have D:=zH (Ah HO.o t.o);have ao:=T.o.lt;have ap:=C.o.lt;clear l))
   have E:=cL D.o V;have a4:=zH E;have a5:B<=w3.heap.size:=zs0 hB t.o.size;clear E
   go_region_law (first
    | ((refine GH (by rfl) _ _ 38 (by rfl) B 58 (.agg #[zi 0,zi 0,zi 0,zF,zi 0,zi 0,zi 0]) 7 56 underlying38 Ge rfl zD (.slice P k d) k (ps.flatMap AN) (by rfl) (Ah D.o zB) ⟨w3.heap.size,0,none⟩ 1 1 (AN p) (by rfl) (by rfl) (NP.out _) (Gf p) zU zO (by first|(simp;omega)|omega) ?_);go_must(intro v7 w7 F G a6;have v:=zH ((C.o.below zB).grown G a4.o);have a7:=zH (((GB.of (b:=b) t.o).mono hB).trans (GB.grown (GB.of (b:=b) (B:=B) (w:=w3) ((show Bw w3 _ from zB).mono a5)) G (by first|(simp;omega)|omega) (λg e=>(D.o.lt g e).1)));obtain⟨x0,x1,x2,x3,x4,x5⟩:=B9 v.o;have fx:=v.o.frozen 5;have xl7:=v.o.lt;obtain⟨P7,d7,rfl⟩:=AX F;have a8:=zH F;clear F G a6))
    | fail)
   all_goals
    go_wp2_with fail
    go_ret;refine⟨rfl,P7,d7,v.o.set_ 5 _,Hg ?_ V,a7.o.set_ 5 _⟩;rw[zr7];simpa using a8.o
def Jw(w:World)(b:Nat)(z0 z1 z2 z3:Int)(S:oA)(n c:Nat)(P:oA)(k d:Nat):Prop:=Blk w b 40 #[zi z0,zi z1,zi z2,zi z3,.slice S n c,.slice P k d]
theorem Pf:∀us:List (List UInt8),(∀u∈us,u.length<=20)->(BX us).length<=21*us.length
 | [],_=>by simp[BX]
 | u::us,h=>by
  have a:=Pf us λx b=>h x (by simp[b])
  have e:=h u zP;unfold BX at a⊢
  simp only[List.flatMap_cons,zq5,zt5]at a⊢
  omega
theorem SM(h:∀z∈l,inW z):∀u∈l.map itoa,u.length<=20:=λu a=>by
 obtain⟨z,b,rfl⟩:=zr2.1 a;have:=Ju (h z b);omega
theorem AaT(s:ByteArray):s.size=s.data.toList.length:=by rw[Array.length_toList];rfl
theorem kQ(b:Nat)(m:Au)(s:ByteArray)(z0 z1 z2 z3:Int)(S:oA)(n c:Nat)(P:oA)(k d:Nat)(w:World)(r:Std w)(t:Jw w b z0 z1 z2 z3 S n c P k d)(p:s.data.toList=Bm++BX (Fk m))(q:EN m=true) :
  CP 30 #[.pointer (sa b 0),zi 1,.string s] w λe w'=>e=.returned (zi 0)∧Jw w' b m.length m.width m.repeat_.1 m.repeat_.2 S n c P k d∧GB w.heap.size b w w':=by
 have z:=Pf (Fk m) (SM (Fm q zO zO))
 have i:s.size<=1000000:=by
  rw[AaT,p,zq5];have D:(Fk m).length=4:=rfl;simp only[Bm,zt5,List.length_nil];omega
 have v:=zH (VH s (Bm::Fk m) w r i (by rw[p];exact Zm m));have B:=zH (λW (h:Bw w W) gw g=>VL b gw m z0 z1 z2 z3 S n c P k d W (Blk.below t h) g q);have a:(Bm::Fk m).length=5:=rfl;rw[a]at v;clear r t p q z i a;go_enter func30,ntmps30
 go_wp2_with(first
  | (go_at_call 44;go_must((refine v.o.mono ?_);rintro e w1 ⟨rfl,g,j⟩;have x:=zH g;have f:=zH j;clear g j))
  | (go_at_call 45;go_must((refine(B.o _ f.o _ x.o).mono ?_);rintro e w2 ⟨rfl,hd,l⟩;have C:=zH hd;have y:=zH l;clear hd l)))
 go_ret;exact⟨rfl,C.o,(GB.of f.o).trans (y.o.mono f.o.size)⟩
theorem kR(b n:Nat)(zs:List Int)(s:ByteArray)(z0 z1 z2 z3:Int)(S:oA)(n0 c0:Nat)(P:oA)(k d:Nat)(w:World)(B:Std w)(C:Jw w b z0 z1 z2 z3 S n0 c0 P k d)(v:s.data.toList=Br++BX (zs.map itoa))(y:inR 0 1048576 zs=true)(z:zs.length=n)(H:1<=n)(I:n<=6) :
  CP 30 #[.pointer (sa b 0),zi 2,.string s] w λe w'=>e=.returned (zi 0)∧∃g a,Jw w' b z0 z1 z2 z3 (sa g 0) n a P k d∧Sl w' w'.heap.size (sa g 0) n (Ar zs)∧n<=a∧w.heap.size<=g∧GB w.heap.size b w w':=by
 have D:=Pf (zs.map itoa) (SM (Fm y zO zO))
 have q:s.size<=1000000:=by
  rw[AaT,v,zq5];simp only[zq6]at D;simp only[Br,zt5,List.length_nil];omega
 have E:=zH (VH s (Br::zs.map itoa) w B q (by rw[v];exact Jl _ _ zD λx J=>(NR _ x J).1));have K:=zH (λW (h:Bw w W) gw m=>Te b gw n zs z0 z1 z2 z3 S n0 c0 P k d W (Blk.below C h) m y z H I);have l:(Br::zs.map itoa).length=n+1:=by simp[z]
 rw[l]at E;clear B C v y D q l z;go_enter func30,ntmps30
 go_wp2_with(first
  | (go_at_call 44;go_must((refine E.o.mono ?_);rintro e w1 ⟨rfl,m,r⟩;have F:=zH m;have f:=zH r;clear m r))
  | (go_at_call 46;go_must((refine(K.o _ f.o _ F.o).mono ?_);rintro e w2 ⟨rfl,g,a,hd,i,p,j,t⟩;have L:=zH (zu2 hd (zu2 i (zu2 p j)));have G:=zH t;clear hd t i p j)))
 go_ret;obtain⟨hd,i,p,j⟩:=L.o;exact⟨rfl,g,a,hd,i,p,zs0 f.o.size j,(GB.of f.o).trans (G.o.mono f.o.size)⟩
theorem kS(b B j:Nat)(p:Ac)(ps:List Ac)(s:ByteArray)(z0 z1 z2 z3:Int)(S:oA)(n c:Nat)(P:oA)(k d:Nat)(w:World)(z:Std w)(C:Jw w b z0 z1 z2 z3 S n c P k d)(t:s.data.toList=Bs++BX (BM p))(v:Cw p=true)(D:w.ownsRow B 58 7 (.slice P k d) k (ps.flatMap AN))(K:k<60)(E:b<B)(F:B<=w.heap.size)(M:j<=1000) :
  CP 30 #[.pointer (sa b 0),zi ((j:Int)+3),.string s] w λe w'=>e=.returned (zi 0)∧∃P' d',Jw w' b z0 z1 z2 z3 S n c P' (k+1) d'∧w'.ownsRow B 58 7 (.slice P' (k+1) d') (k+1) ((ps++[p]).flatMap AN)∧GB B b w w':=by
 have i:s.size<=1000000:=by
  have O:=RQ v;have Q:(FH p).length=s.size+1:=by rw[PP,zq5,AaT,t];rfl
  omega
 have G:=zH (VH s (Bs::BM p) w z i (by rw[t];exact Wy p));obtain⟨f,x⟩:=zG p.turn.flip
 have a:(Bs::BM p).length=if f=true then 8 else 7:=by
  cases f <;> simp[BM,x]
 obtain⟨N,y⟩:∃N,N=if f=true then 8 else 7:=⟨_,rfl⟩
 rw[<-y]at a;rw[a]at G;have L:=zH (λW (h:Bw w W) gw g=>Tf b gw B p ps z0 z1 z2 z3 S n c P k d W (Blk.below C h) g v (Ah D h) K E (zs0 F h.size) f x N y);have j1:(((j:Int)+3) == 1)=false:=by simp;omega
 have j2:(((j:Int)+3) == 2)=false:=by simp;omega
 clear z C t v D i a y x;go_enter func30,ntmps30
 go_wp2_with(first
  | (go_at_call 44;go_must((refine G.o.mono ?_);rintro e w1 ⟨rfl,g,l⟩;have H:=zH g;have m:=zH l;clear g l))
  | (go_at_call 47;go_must((refine(L.o _ m.o _ H.o).mono ?_);rintro e w2 ⟨rfl,P',d',hd,q,r⟩;have I:=zH (zu2 hd q);have J:=zH r;clear hd r q)))
 go_ret;exact⟨rfl,P',d',I.o.1,I.o.2,((GB.of m.o).mono F).trans J.o⟩
def AaB(m:Au)(w:World)(e:Ending)(w':World):Prop:=Bw w w'∧∃S c P d,e=.returned (.tuple #[.agg (EG m S m.sizes.length c P m.places.length d),zi 0,zi 0])∧Sl w' w'.heap.size S m.sizes.length (Ar m.sizes)∧m.sizes.length<=c∧Ab 7 Dy w' P m.places.length m.places∧m.places.length<=d
inductive KF(m:Au)(b:Nat)(w0:World):Int->ByteArray->World->Prop
 | one {s:ByteArray} {wr:World} (hs:s.data.toList=E4 m) (hb:Jw wr b 0 0 0 0 none 0 0 none 0 0) (hg:GB w0.heap.size b w0 wr):KF m b w0 1 s wr
 | two {s:ByteArray} {wr:World} (hs:s.data.toList=(Br++BX (m.sizes.map itoa))++10::C7 m 0) (hb:Jw wr b m.length m.width m.repeat_.1 m.repeat_.2 none 0 0 none 0 0) (hg:GB w0.heap.size b w0 wr):KF m b w0 2 s wr
 | more {s:ByteArray} {wr:World} (j g a:Nat) (P:oA) (d:Nat) (w2:World) (hs:s.data.toList=C7 m j) (hj:j<=m.places.length) (hb:Jw wr b m.length m.width m.repeat_.1 m.repeat_.2 (sa g 0) m.sizes.length a P j d)
   (hsl:Sl w2 w2.heap.size (sa g 0) m.sizes.length (Ar m.sizes)) (ha:m.sizes.length<=a) (hgg:w0.heap.size<=g) (ho:wr.ownsRow w2.heap.size 58 7 (.slice P j d) j ((m.places.take j).flatMap AN)) (h02:GB w0.heap.size b w0 w2) (h2:GB w2.heap.size b w2 wr):KF m b w0 ((j:Int)+3) s wr
theorem GB.low{B':Nat}(h:GB B b w w')(a:B'<=b)(e:B'<=B):Below B' w w':=⟨h.os,h.tape,h.output,h.size,λi hi=>h.block i zO zO⟩
theorem bE{a c:Nat}{l:List Ac}(h:w.ownsRow a T 7 (.slice A n c) n (l.flatMap AN))(f:l.length=n):Ab 7 Dy w A n l∧n<=c:=by
 obtain⟨A',c',b,e,i⟩:=CJ (G:=Dy) (g:=λx:Ac=>x) Mq h f (λt _=>rfl);rw[List.map_id']at e;injection b with b _ hC
 rw[b,hC];exact⟨e,i⟩
theorem Sl.same(h:Sl w w.heap.size (sa g 0) n xs)(i:w'.heap[g]?=w.heap[g]?)(p:w.heap.size<=w'.heap.size):Sl w' w'.heap.size (sa g 0) n xs:=by
 refine⟨h.1,λk=>?_⟩;obtain⟨b,f,e,o,l⟩:=h.2 k;refine⟨b,f,e,by omega,λj u m=>?_⟩;injection e with e
 injection e with e1 e2
 subst e1;exact(World.cell?_of_block (a:=⟨g,f+j,none⟩) i).trans (l j u m)
theorem Lu(h:Sl w w.heap.size (sa g 0) n xs)(a:g≠b):Sl (w.setCell (ad b i) u) (w.setCell (ad b i) u).heap.size (sa g 0) n xs:=
 h.same (Below.heap_setCell w ⟨b,i,none⟩ u g a) zP
theorem SN(h:M6 m)(j:Nat):(C7 m j).length<=20000:=by
 have a:=LY (m.places.drop j) λp b=>h.plc p (List.mem_of_mem_drop b)
 have e:=h.pl;rw[List.length_drop]at a;unfold C7;omega
theorem bF(m:Au)(s:ByteArray)(w:World)(hw:Std w)(hm:M6 m)(h1:1<=m.sizes.length)(y:s.data.toList=E4 m) :
  CP 8 #[.string s] w (AaB m w):=by
 have hB:Bw w ((w.alloc (.cells #[zi 0,zi 0,zi 0,zi 0,zn,zn] 40)).alloc (.cells #[zi 0,zi 0,zi 0,zi 0,zn,zn] 40)):=I8 _ _ _;have X0:=(Blk.new w 40 #[zi 0,zi 0,zi 0,zi 0,zn,zn]).alloc (.cells #[zi 0,zi 0,zi 0,zi 0,zn,zn] 40);have X1:=Blk.new' (w.alloc (.cells #[zi 0,zi 0,zi 0,zi 0,zn,zn] 40)) 40 #[zi 0,zi 0,zi 0,zi 0,zn,zn] (g:=w.heap.size+1) zP;have a8:s.size<=20000:=by rw[AaT,y];exact Uh hm
 have M:=zH hm;have HS:=zH y;have U:=zH hw;have c1:¬(20000:Int)<(s.size:Int):=zO;clear hm y hw;go_enter func8,ntmps8
 go_wp2_with fail
 generalize(w.alloc (.cells #[zi 0,zi 0,zi 0,zi 0,zn,zn] 40)).alloc (.cells #[zi 0,zi 0,zi 0,zi 0,zn,zn] 40)=w0 at *
 have HB:=zH hB;have a9:=zH X0;have S:=zH X1;have ai:=X1.lt;clear hB X0 X1 c1 a8
 go_loopw[0,6,7,8,9,10,15,16,17,18,19,20,21,22,23,24,25,26,27,28,29,30,31,32,33,34,35,36,37,38,39,40,41,42,43,44,45] (λv i _ _ _ _ _ _ _ _ _ _ _ _ _ _ _ _ _ _ _ _ _ _ _ _ _ _ _ _ _ _ _ _ _ _ _ wr=>∃(l:Int)(t:ByteArray),v=.string t∧i=zi l∧Hid (KF m (w.heap.size+1) w0 l t wr)∧Hid (1<=l∧l<=70)) (λv i _ _ _ _ _ _ _ _ _ _ _ _ _ _ _ _ _ _ _ _ _ _ _ _ _ _ _ _ _ _ _ _ _ _ _ _=>(70-intOf i).toNat)
 case atStart=>exact⟨1,s,rfl,rfl,zH (KF.one HS.o S.o (GB.refl _ _ _)),zH zO⟩
 case round=>
  obtain⟨l,t,rfl,rfl,HP,HQ⟩:=hrel
  cases HP.o with
  | one y hb I=>
   have f:=congrArg List.length y;rw[<-AaT]at f;have a6:=Uh M.o
   have J:0<t.size:=by
    rw[f];unfold E4;simp only[zq5,zt5];omega
   have X:=S.o.lt;have k:=HB.o.trans (I.low (B':=w.heap.size) zO zO);have B:=rL t _ _ true wr (U.o.below k) zO (by rw[y];exact fS m);obtain⟨d1,d2⟩:=NF t J;obtain⟨A1,n⟩:=zG (bytes (Bm++BX (Fk m)));obtain⟨R1,q⟩:=zG (bytes ((Br++BX (m.sizes.map itoa))++10::C7 m 0));rw[n,q]at B;have O:Hid (R1.data.toList=(Br++BX (m.sizes.map itoa))++10::C7 m 0):=by rw[Hid,<-q,Dv]
   have Y:=zH (λW (h:Bw wr W)=>kQ (w.heap.size+1) m A1 0 0 0 0 none 0 0 none 0 0 W (U.o.below (k.trans (h.mono k.size))) (Blk.below hb h) (by rw[<-n,Dv]) M.o.head);have B:=zH B;have V:=zH I;clear y hb I k f a6 n q
   go_wp2_with(first
    | (go_at_call 29;go_must((refine B.o.mono ?_);rintro e w3 ⟨rfl,G⟩;have r:=zH G;clear G))
    | (go_at_call 30;go_must((refine(Y.o _ r.o).mono ?_);rintro e w4 ⟨rfl,hd,H⟩;have Z:=zH hd;have Q:=zH (V.o.trans (((GB.of r.o).trans (H.mono r.o.size)).mono V.o.size));clear hd H)))
   go_roundw
   case rel=>exact⟨2,R1,rfl,rfl,zH (KF.two O.o Z.o Q.o),zH zO⟩
   case measure=>simp[intOf]
  | two y hb I=>
   have f:=congrArg List.length y;rw[<-AaT]at f;have aa:=SN M.o 0
   have a0:=GJ Br m.sizes λz hz=>by
    have:=F7 M.o.size z hz;omega
   rw[IW]at a0;have a7:=M.o.sz;simp only[Br,zq5,zt5,List.length_nil]at a0 f;have J:0<t.size:=zO;have X:=S.o.lt;have k:=HB.o.trans (I.low (B':=w.heap.size) zO zO);have B:=rL t _ _ true wr (U.o.below k) zO (by rw[y];exact fT m);obtain⟨d1,d2⟩:=NF t J;obtain⟨A1,n⟩:=zG (bytes (Br++BX (m.sizes.map itoa)));obtain⟨R1,q⟩:=zG (bytes (C7 m 0));rw[n,q]at B;have O:Hid (R1.data.toList=C7 m 0):=by rw[Hid,<-q,Dv]
   have Y:=zH (λW (h:Bw wr W)=>kR (w.heap.size+1) m.sizes.length m.sizes A1 m.length m.width m.repeat_.1 m.repeat_.2 none 0 0 none 0 0 W (U.o.below (k.trans (h.mono k.size))) (Blk.below hb h) (by rw[<-n,Dv]) M.o.size rfl h1 a7);have B:=zH B;have V:=zH I;clear y hb I k f aa a0 n q
   go_wp2_with(first
    | (go_at_call 29;go_must((refine B.o.mono ?_);rintro e w3 ⟨rfl,G⟩;have r:=zH G;clear G))
    | (go_at_call 30;go_must((refine(Y.o _ r.o).mono ?_);rintro e w4 ⟨rfl,g,a,hd,f,K,C,H⟩;have Z:=zH (zu2 hd (zu2 f (zu2 K (zs0 r.o.size C))));have Q:=zH (V.o.trans (((GB.of r.o).trans (H.mono r.o.size)).mono V.o.size));clear hd H f K C)))
   go_roundw
   case rel=>
    obtain⟨hd,f,K,C⟩:=Z.o;exact⟨3,R1,rfl,rfl,zH (KF.more 0 g a none 0 w4 O.o (zs3 _) hd f K (zs0 V.o.size C) (World.ownsRow_nil _ _ _ _) Q.o (GB.refl _ _ _)),zH zO⟩
   case measure=>simp[intOf]
  | more j g a P d w2 y hj hb f K C ho D N=>
   have X:=S.o.lt;have I:=D.trans (N.mono D.size);have k:=HB.o.trans (I.low (B':=w.heap.size) zO zO);have ag:=M.o.pl;have F:=congrArg List.length y;rw[<-AaT]at F;have a1:=SN M.o j;by_cases a2:j<m.places.length
   ·obtain⟨p,hp⟩:∃p,m.places[j]?=some p:=⟨_,zq0 a2⟩;have E:=uH a2
    have J:0<t.size:=by
     rw[F];exact List.length_pos_iff.2 E
    have B:=rL t _ _ true wr (U.o.below k) zO (by rw[y];exact fU hp);obtain⟨d1,d2⟩:=NF t J;obtain⟨A1,n⟩:=zG (bytes (Bs++BX (BM p)));obtain⟨R1,q⟩:=zG (bytes (C7 m (j+1)));rw[n,q]at B;have O:Hid (R1.data.toList=C7 m (j+1)):=by rw[Hid,<-q,Dv]
    have Y:=zH (λW (h:Bw wr W)=>kS (w.heap.size+1) w2.heap.size j p (m.places.take j) A1 m.length m.width m.repeat_.1 m.repeat_.2 (sa g 0) m.sizes.length a P j d W (U.o.below (k.trans (h.mono k.size))) (Blk.below hb h) (by rw[<-n,Dv]) (M.o.plc p (zq2 hp)) (Ah ho h) zO (zs1 X D.size) (zs0 N.size h.size) zO);have a3:m.places.take (j+1)=m.places.take j++[p]:=by rw[List.take_add_one,hp];rfl
    have B:=zH B;have HT:=zH a3;have HK:=zH (zu2 f (zu2 K (zu2 C (zu2 D N))));have i1:¬(j:Int)+3<=2:=zO;clear y hb I k f F a1 n q E hp a3 K C D N ho
    go_wp2_with(first
     | (go_at_call 29;go_must((refine B.o.mono ?_);rintro e w3 ⟨rfl,G⟩;have r:=zH G;clear G))
     | (go_at_call 30;go_must((refine(Y.o _ r.o).mono ?_);rintro e w4 ⟨rfl,P',d',hd,T,H⟩;have Z:=zH (zu2 hd T);have Q:=zH (HK.o.2.2.2.2.trans (((GB.of r.o).mono HK.o.2.2.2.2.size).trans H));clear hd H T)))
    go_roundw
    case rel=>
     obtain⟨f,K,C,D,N⟩:=HK.o;obtain⟨hd,T⟩:=Z.o;refine⟨(j:Int)+1+3,R1,rfl,by go_num,zH ?_,zH zO⟩;exact KF.more (j+1) g a P' d' w2 O.o zO hd f K C (by rw[HT.o];exact T) D Q.o
    case measure=>exact zM
   obtain rfl:j=m.places.length:=zO;rw[oT (zs2 _)]at F;have ab:t.size=0:=F;obtain⟨d1,d2⟩:=mG t ab;rw[zq4 (zs2 _)]at ho;have x:=a9.o;have x:Blk wr w.heap.size 40 #[zi 0,zi 0,zi 0,zi 0,zn,zn]:=(I.block w.heap.size zO zO).trans x;obtain⟨b',off',e,ac,_⟩:=f.2 zO;injection e with e
   injection e with e1 e2
   subst e1;subst e2;obtain⟨x0,x1,x2,x3,x4,x5⟩:=B9 hb;obtain⟨y0,y1,y2,y3,y4,y5⟩:=B9 x;have f0:=x.frozen 0;have f1:=x.frozen 1;have f2:=x.frozen 2;have f3:=x.frozen 3;have f4:=x.frozen 4;have f5:=x.frozen 5;have aj:=x.lt;have ak:=N.size;have ah:=D.size;have ae:=zH ((((((k.setCell (p:=ad w.heap.size 0) (zs2 _) (zi m.length)).setCell (p:=ad w.heap.size 1) (zs2 _) (zi m.width)).setCell (p:=ad w.heap.size 2) (zs2 _) (zi m.repeat_.1)).setCell (p:=ad w.heap.size 3) (zs2 _) (zi m.repeat_.2)).setCell (p:=ad w.heap.size 4) (zs2 _) (.slice (sa g 0) m.sizes.length a)).setCell (p:=ad w.heap.size 5) (zs2 _) (.slice P m.places.length d));have L:w.heap.size<w2.heap.size:=zO;have a4:=zH (bE (Hg (Hg (Hg (Hg (Hg (Hg ho (b:=w.heap.size) (i:=0) (u:=zi m.length) L) (b:=w.heap.size) (i:=1) (u:=zi m.width) L) (b:=w.heap.size) (i:=2) (u:=zi m.repeat_.1) L) (b:=w.heap.size) (i:=3) (u:=zi m.repeat_.2) L) (b:=w.heap.size) (i:=4) (u:=.slice (sa g 0) m.sizes.length a) L) (b:=w.heap.size) (i:=5) (u:=.slice P m.places.length d) L) rfl);have E:g≠w.heap.size:=zO;have a5:=f.same (N.block g ac zO) N.size
   have af:=zH (Lu (Lu (Lu (Lu (Lu (Lu a5 (b:=w.heap.size) (i:=0) (u:=zi m.length) E) (b:=w.heap.size) (i:=1) (u:=zi m.width) E) (b:=w.heap.size) (i:=2) (u:=zi m.repeat_.1) E) (b:=w.heap.size) (i:=3) (u:=zi m.repeat_.2) E) (b:=w.heap.size) (i:=4) (u:=.slice (sa g 0) m.sizes.length a) E) (b:=w.heap.size) (i:=5) (u:=.slice P m.places.length d) E);have HA:=zH K;have i1:¬(m.places.length:Int)+3<=2:=zO;clear y hb I k f F a1 x a5 D N ho
   go_wp2_with fail
   refine bodyPost_ret (v:=.tuple #[.agg #[zi m.length,zi m.width,zi m.repeat_.1,zi m.repeat_.2,.slice (sa g 0) m.sizes.length a,.slice P m.places.length d],zi 0,zi 0]) (by simp[results,results8,go_sem,y0,y1,y2,y3,y4,y5]) rfl ?_;exact⟨ae.o,_,_,_,_,rfl,af.o,HA.o,a4.o.1,a4.o.2⟩
end Go.Proofs.YteafekbddckemaaGreatDoor
