/- Parts of the proof. -/
import Derived.Test.YteafekbddckemaaGreatDoorH41
set_option maxRecDepth 100000
set_option maxHeartbeats 40000000
namespace Go.Proofs.YteafekbddckemaaGreatDoor
open Go.Proofs.Tryz Go.RowKit
open Go.Lib hiding intOf
variable{B g g' g1 g2 g3 g4 gE k n s:Nat}{W w w0:World}{cs:aV}{t t':TypeId}{xs:lV}{α:Type}
theorem Ab.litM{G:World->α->List Value->Prop}{xs:List α}(h:Blk w g t cs)(a:xs.length=n)
  (b:∀(j:Nat)(x : α),xs[j]?=some x->∃vs,G w x vs∧∀(i:Nat)(u:Value),vs[i]?=some u->cs[j*s+i]?=some u):Ab s G w (sa g 0) n xs:=by
 refine⟨a,λ_=>⟨g,0,rfl,h.lt,λj x e=>?_⟩⟩;obtain⟨vs,f,k⟩:=b j x e;refine⟨vs,f,λi u l=>?_⟩;rw[Nat.zero_add];exact h.c (k i u l)
theorem Sl.blkM(h:Blk w g t cs)(b:cs.toList=xs)(e:xs.length=n):Sl w w.heap.size (sa g 0) n xs:=by
 refine⟨e,λ_=>⟨g,0,rfl,h.lt,λj u a=>?_⟩⟩;rw[Nat.zero_add];refine h.c ?_;rw[<-b,zt9]at a;exact a
theorem aQ(h:Blk w gE 71 #[.string ⟨#[108,111,119]⟩,.slice (sa g1 0) 2 2,.string ⟨#[114,105,103,104,116]⟩,.slice (sa g2 0) 2 2,.string ⟨#[104,105,103,104]⟩,.slice (sa g3 0) 2 2,.string ⟨#[108,101,102,116]⟩,.slice (sa g4 0) 2 2])(g:Blk w g1 56 #[zi 0,zi 0,zi 10,zi 0])(k:Blk w g2 56 #[zi 10,zi 0,zi 10,zi 10])(l:Blk w g3 56 #[zi 10,zi 10,zi 0,zi 10])(m:Blk w g4 56 #[zi 0,zi 10,zi 0,zi 0]):Ab 2 CQ w (sa gE 0) 4 Km:=by
 refine Ab.litM h rfl λj x f=>?_
 match j,f with
 | 0,f=>
  obtain rfl:=zs6 f;refine⟨_,⟨_,2,2,rfl,Ka (a:=(0,0)) (b:=(10,0)) g,zs2 _⟩,λi u e=>?_⟩
  match i,e with
  | 0,e=>exact e
  | 1,e=>exact e
  | i+2,e=>simp at e
 | 1,f=>
  obtain rfl:=zs6 f;refine⟨_,⟨_,2,2,rfl,Ka (a:=(10,0)) (b:=(10,10)) k,zs2 _⟩,λi u e=>?_⟩
  match i,e with
  | 0,e=>exact e
  | 1,e=>exact e
  | i+2,e=>simp at e
 | 2,f=>
  obtain rfl:=zs6 f;refine⟨_,⟨_,2,2,rfl,Ka (a:=(10,10)) (b:=(0,10)) l,zs2 _⟩,λi u e=>?_⟩
  match i,e with
  | 0,e=>exact e
  | 1,e=>exact e
  | i+2,e=>simp at e
 | 3,f=>
  obtain rfl:=zs6 f;refine⟨_,⟨_,2,2,rfl,Ka (a:=(0,10)) (b:=(0,0)) m,zs2 _⟩,λi u e=>?_⟩
  match i,e with
  | 0,e=>exact e
  | 1,e=>exact e
  | i+2,e=>simp at e
 | j+4,f=>simp[Km]at f
theorem Ov{a0 a1 a2 a3 a4 a5 a6 a7:Value}(h:Blk w g t #[a0,a1,a2,a3,a4,a5,a6,a7]):zL w g 0 a0∧zL w g 1 a1∧zL w g 2 a2∧zL w g 3 a3∧zL w g 4 a4∧zL w g 5 a5∧zL w g 6 a6∧zL w g 7 a7:=⟨h.c rfl,h.c rfl,h.c rfl,h.c rfl,h.c rfl,h.c rfl,h.c rfl,h.c rfl⟩
theorem aR{gC gW gZ gM gP gU:Nat}(h:Blk w gE 71 #[.string ⟨#[108,111,119]⟩,.slice (sa g1 0) 2 2,.string ⟨#[114,105,103,104,116]⟩,.slice (sa g2 0) 2 2,.string ⟨#[104,105,103,104]⟩,.slice (sa g3 0) 2 2,.string ⟨#[108,101,102,116]⟩,.slice (sa g4 0) 2 2])(k:Blk w g1 56 #[zi 0,zi 0,zi 10,zi 0])(l:Blk w g2 56 #[zi 10,zi 0,zi 10,zi 10])(m:Blk w g3 56 #[zi 10,zi 10,zi 0,zi 10])(n:Blk w g4 56 #[zi 0,zi 10,zi 0,zi 0])(o:Blk w gC 56 #[zi 0,zi 0,zi 1,zi 0,zi 1,zi 0,zi 0,zi 0])(p:Blk w gW 3 #[zi 0,zi 0,zi 0,zi 0])(q:Blk w gZ 9 #[.string ⟨#[83]⟩,.string ⟨#[77]⟩])(r:Blk w gM 3 #[zi 0,zi 2])(s:Blk w gP 66 #[.string ⟨#[102,114,111,110,116]⟩,.slice (sa gE 0) 4 4,zi 1,zn,.slice (sa gC 0) 4 4,.slice (sa gW 0) 4 4,zF])(g:Blk w gU 60 #[zi 0,zi 2,zY]) :
  Co w CC (sa gZ 0) 2 2 (sa gM 0) 2 2 (sa gP 0) 1 1 (sa gU 0) 1 1 none 0 0 none 0 0:=by
 refine⟨Sl.blkM q rfl rfl,Sl.blkM r rfl rfl,Ab.litM s rfl λj x f=>?_,Ab.litM g rfl λj x f=>?_,Ab.nil _ _ _ _,Ab.nil _ _ _ _,zs2 _,zs2 _,zs2 _,zs2 _,zs2 _,zs2 _⟩
 ·match j,f with
  | 0,f=>
   obtain rfl:=zs6 f;refine⟨_,⟨_,4,4,none,0,0,_,4,4,_,4,4,rfl,aQ h k l m n,zs2 _,Ab.nil _ _ _ _,zs2 _,Sp (a:=(0,0)) (b:=(1,0)) (c:=(1,0)) (d:=(0,0)) o,zs2 _,Sl.blkM p rfl rfl,zs2 _⟩,λi u e=>?_⟩
   match i,e with
   | 0,e=>exact e
   | 1,e=>exact e
   | 2,e=>exact e
   | 3,e=>exact e
   | 4,e=>exact e
   | 5,e=>exact e
   | 6,e=>exact e
   | i+7,e=>simp at e
  | j+1,f=>simp[CC]at f
 match j,f with
 | 0,f=>
  obtain rfl:=zs6 f;refine⟨_,rfl,λi u e=>?_⟩
  match i,e with
  | 0,e=>exact e
  | 1,e=>exact e
  | 2,e=>exact e
  | i+3,e=>simp at e
 | j+1,f=>simp[CC]at f
theorem aU:Dj CC:=by
 refine⟨by decide,by decide,?_,by decide,by decide,?_,by decide,by decide,by decide,?_⟩
 ·intro z a;simp[CC]at a;rcases a with rfl|rfl <;> decide
 ·intro p f;obtain rfl:p=MU:=by simpa[CC]using f
  refine⟨by decide,by decide,?_,by decide,by decide,by decide⟩;intro e b;simp[MU,Km]at b;rcases b with rfl|rfl|rfl|rfl <;> exact⟨by decide,by decide⟩
 intro o g;simp[CC]at g
theorem Kd(h:Blk W g t cs):Blk W.drew g t cs:=h
theorem kJ(w:World):CP 36 #[zi 10,zi 10] w λe w'=>∃gE g1 g2 g3 g4,e=.returned (.slice (sa gE 0) 4 4)∧Blk w' gE 71 #[.string ⟨#[108,111,119]⟩,.slice (sa g1 0) 2 2,.string ⟨#[114,105,103,104,116]⟩,.slice (sa g2 0) 2 2,.string ⟨#[104,105,103,104]⟩,.slice (sa g3 0) 2 2,.string ⟨#[108,101,102,116]⟩,.slice (sa g4 0) 2 2]∧Blk w' g1 56 #[zi 0,zi 0,zi 10,zi 0]∧Blk w' g2 56 #[zi 10,zi 0,zi 10,zi 10]∧Blk w' g3 56 #[zi 10,zi 10,zi 0,zi 10]∧Blk w' g4 56 #[zi 0,zi 10,zi 0,zi 0]∧Bw w w':=by
 go_enter func36,ntmps36
 go_wp2_with fail
 have X0:=Blk.new w 56 #[zi 0,zi 0,zi 10,zi 0,zi 10,zi 10,zi 0,zi 10];obtain⟨W0,a⟩:=zG (w.alloc (.cells #[zi 0,zi 0,zi 10,zi 0,zi 10,zi 10,zi 0,zi 10] 56));obtain⟨gp,b⟩:=zG w.heap.size;have f:Hid (Bw w W0):=by rw[<-a];exact zA _
 rw[a]at X0⊢
 rw[b]at X0⊢
 clear a;have j:gp<W0.heap.size:=X0.lt;have g:=zH (λW (i:Bw W0 W)=>Ov (X0.below i));obtain⟨c0,c1,c2,c3,c4,c5,c6,c7⟩:=Ov X0;clear X0 b;have l1:gp<W0.heap.size+1:=zO;have l2:gp<W0.heap.size+1+1:=zO;have l3:gp<W0.heap.size+1+1+1:=zO;have l4:gp<W0.heap.size+1+1+1+1:=zO
 go_region_held3(λw'=>w'.cell? (ad gp 0)=some (zi 0)∧w'.cell? (ad gp 1)=some (zi 0)∧w'.cell? (ad gp 2)=some (zi 10)∧w'.cell? (ad gp 3)=some (zi 0)∧w'.cell? (ad gp 4)=some (zi 10)∧w'.cell? (ad gp 5)=some (zi 10)∧w'.cell? (ad gp 6)=some (zi 0)∧w'.cell? (ad gp 7)=some (zi 10))
  ((refine g.o _ ?_;repeat(first|(with_reducible exact zJ)|(with_reducible refine Below.drew ?_)|(with_reducible refine Below.alo ?_ _))))
  (fail)
 all_goals
  clear c0 c1 c2 c3 c4 c5 c6 c7 g
  go_wp2_with fail
  go_ret;exact⟨_,_,_,_,_,rfl,(by repeat(first|(focus ((with_reducible refine Blk.new' _ _ _ ?_);(simp;done)))|(with_reducible exact Blk.new _ _ _)|(with_reducible refine Kd ?_)|(with_reducible refine Blk.alloc ?_ _))),(by repeat(first|(focus ((with_reducible refine Blk.new' _ _ _ ?_);(simp;done)))|(with_reducible exact Blk.new _ _ _)|(with_reducible refine Kd ?_)|(with_reducible refine Blk.alloc ?_ _))),(by repeat(first|(focus ((with_reducible refine Blk.new' _ _ _ ?_);(simp;done)))|(with_reducible exact Blk.new _ _ _)|(with_reducible refine Kd ?_)|(with_reducible refine Blk.alloc ?_ _))),(by repeat(first|(focus ((with_reducible refine Blk.new' _ _ _ ?_);(simp;done)))|(with_reducible exact Blk.new _ _ _)|(with_reducible refine Kd ?_)|(with_reducible refine Blk.alloc ?_ _))),(by repeat(first|(focus ((with_reducible refine Blk.new' _ _ _ ?_);(simp;done)))|(with_reducible exact Blk.new _ _ _)|(with_reducible refine Kd ?_)|(with_reducible refine Blk.alloc ?_ _))),f.o.trans (Below.mono zB f.o.size)⟩
theorem aW{b0 b1 b2 b3 b4 b5 b6:Value}(h:Blk w g t #[b0,b1,b2,b3,b4,b5,b6])(a0 a1 a2 a3 a4 a5 a6:Value):Blk (((((((w.setCell (ad g 0) a0).setCell (ad g 1) a1).setCell (ad g 2) a2).setCell (ad g 3) a3).setCell (ad g 4) a4).setCell (ad g 5) a5).setCell (ad g 6) a6) g t #[a0,a1,a2,a3,a4,a5,a6]:=by
 have a:Blk _ g t #[a0,b1,b2,b3,b4,b5,b6]:=h.set_ 0 a0;have b:Blk _ g t #[a0,a1,b2,b3,b4,b5,b6]:=a.set_ 1 a1;have e:Blk _ g t #[a0,a1,a2,b3,b4,b5,b6]:=b.set_ 2 a2;have f:Blk _ g t #[a0,a1,a2,a3,b4,b5,b6]:=e.set_ 3 a3;have i:Blk _ g t #[a0,a1,a2,a3,a4,b5,b6]:=f.set_ 4 a4;have j:Blk _ g t #[a0,a1,a2,a3,a4,a5,b6]:=i.set_ 5 a5;exact j.set_ 6 a6
theorem Blk.differM{cs':aV}(h:Blk w g t cs)(a:Blk w g' t' cs')(b:t≠t'):g≠g':=by
 rintro rfl;unfold Blk at h a;rw[h]at a;injection a with a
 injection a with _ e _
 exact b e
theorem aX(h:Blk w k t cs)(a:k≠g)(a0 a1 a2 a3 a4 a5 a6:Value):Blk (((((((w.setCell (ad g 0) a0).setCell (ad g 1) a1).setCell (ad g 2) a2).setCell (ad g 3) a3).setCell (ad g 4) a4).setCell (ad g 5) a5).setCell (ad g 6) a6) k t cs:=
 ((((((h.far (p:=ad g 0) a a0).far (p:=ad g 1) a a1).far (p:=ad g 2) a a2).far (p:=ad g 3) a a3).far (p:=ad g 4) a a4).far (p:=ad g 5) a a5).far (p:=ad g 6) a a6
theorem VG(h:Below B w0 w)(a:B<=g)(a0 a1 a2 a3 a4 a5 a6:Value):Below B w0 (((((((w.setCell (ad g 0) a0).setCell (ad g 1) a1).setCell (ad g 2) a2).setCell (ad g 3) a3).setCell (ad g 4) a4).setCell (ad g 5) a5).setCell (ad g 6) a6):=
 ((((((h.setCell (p:=ad g 0) a a0).setCell (p:=ad g 1) a a1).setCell (p:=ad g 2) a a2).setCell (p:=ad g 3) a a3).setCell (p:=ad g 4) a a4).setCell (p:=ad g 5) a a5).setCell (p:=ad g 6) a a6
theorem rH(w:World):CP 15 #[] w λe w'=>∃gZ gM gP gU,e=.returned (.agg #[.string ⟨#[115,104,105,114,116]⟩,.slice (sa gZ 0) 2 2,.slice (sa gM 0) 2 2,.slice (sa gP 0) 1 1,.slice (sa gU 0) 1 1,zn,zn])∧Co w' CC (sa gZ 0) 2 2 (sa gM 0) 2 2 (sa gP 0) 1 1 (sa gU 0) 1 1 none 0 0 none 0 0∧Bw w w':=by
 have X0:=Blk.new w 29 #[.string ⟨#[]⟩,zn,zn,zn,zn,zn,zn];have j:Bw w (w.alloc (.cells #[.string ⟨#[]⟩,zn,zn,zn,zn,zn,zn] 29)):=zA _;have l:=zH X0;have m:=zH j;clear X0 j;go_enter func15,ntmps15
 go_wp2_with(go_at_call 36;go_must((refine(kJ _).mono ?_);rintro e1 w1 ⟨gE,g1,g2,g3,g4,rfl,q,r,s,x,y,f⟩;have XP:Blk (((((w1.alloc (.cells #[zi 0,zi 0,zi 1,zi 0,zi 1,zi 0,zi 0,zi 0] 56)).alloc (.cells #[zi 0,zi 0,zi 0,zi 0] 3)).alloc (.cells #[.string ⟨#[102,114,111,110,116]⟩,.slice (sa gE 0) 4 4,zi 1,zn,.slice (sa w1.heap.size 0) 4 4,.slice (sa (w1.heap.size+1) 0) 4 4,zF] 66)).alloc (.cells #[.string ⟨#[83]⟩,.string ⟨#[77]⟩] 9)).alloc (.cells #[zi 0,zi 2] 3)) (w1.heap.size+1+1) 66 #[.string ⟨#[102,114,111,110,116]⟩,.slice (sa gE 0) 4 4,zi 1,zn,.slice (sa w1.heap.size 0) 4 4,.slice (sa (w1.heap.size+1) 0) 4 4,zF]:=((Blk.new' ((w1.alloc (.cells #[zi 0,zi 0,zi 1,zi 0,zi 1,zi 0,zi 0,zi 0] 56)).alloc (.cells #[zi 0,zi 0,zi 0,zi 0] 3)) 66 #[.string ⟨#[102,114,111,110,116]⟩,.slice (sa gE 0) 4 4,zi 1,zn,.slice (sa w1.heap.size 0) 4 4,.slice (sa (w1.heap.size+1) 0) 4 4,zF] (g:=w1.heap.size+1+1) zP).alloc _).alloc _;obtain⟨p0,p1,p2,p3,p4,p5,p6⟩:=AS XP;have I:=XP.lt;have a:Bw w1 (((((((w1.alloc (.cells #[zi 0,zi 0,zi 1,zi 0,zi 1,zi 0,zi 0,zi 0] 56)).alloc (.cells #[zi 0,zi 0,zi 0,zi 0] 3)).alloc (.cells #[.string ⟨#[102,114,111,110,116]⟩,.slice (sa gE 0) 4 4,zi 1,zn,.slice (sa w1.heap.size 0) 4 4,.slice (sa (w1.heap.size+1) 0) 4 4,zF] 66)).alloc (.cells #[.string ⟨#[83]⟩,.string ⟨#[77]⟩] 9)).alloc (.cells #[zi 0,zi 2] 3)).alloc (.cells #[.string ⟨#[102,114,111,110,116]⟩,.slice (sa gE 0) 4 4,zi 1,zn,.slice (sa w1.heap.size 0) 4 4,.slice (sa (w1.heap.size+1) 0) 4 4,zF] 66)).alloc (.cells #[zi 0,zi 2,zY] 60)):=zB;have XR:=(l.o.below f).below a;obtain⟨y0,y1,y2,y3,y4,y5,y6⟩:=AS XR;have z0:=XR.frozen 0;have z1:=XR.frozen 1;have z2:=XR.frozen 2;have z3:=XR.frozen 3;have z4:=XR.frozen 4;have z5:=XR.frozen 5;have z6:=XR.frozen 6;have zl:=XR.lt;have z:=(l.o.below f).lt;have i:=zH XR;have n:=zH a;have p:=zH f;have B:=zH (q.below a);have C:=zH (r.below a);have D:=zH (s.below a);have E:=zH (x.below a);have F:=zH (y.below a);clear q r s x y f XP XR a))
 obtain⟨X3,b⟩:=zG (((((((w1.alloc (.cells #[zi 0,zi 0,zi 1,zi 0,zi 1,zi 0,zi 0,zi 0] 56)).alloc (.cells #[zi 0,zi 0,zi 0,zi 0] 3)).alloc (.cells #[.string ⟨#[102,114,111,110,116]⟩,.slice (sa gE 0) 4 4,zi 1,zn,.slice (sa w1.heap.size 0) 4 4,.slice (sa (w1.heap.size+1) 0) 4 4,zF] 66)).alloc (.cells #[.string ⟨#[83]⟩,.string ⟨#[77]⟩] 9)).alloc (.cells #[zi 0,zi 2] 3)).alloc (.cells #[.string ⟨#[102,114,111,110,116]⟩,.slice (sa gE 0) 4 4,zi 1,zn,.slice (sa w1.heap.size 0) 4 4,.slice (sa (w1.heap.size+1) 0) 4 4,zF] 66)).alloc (.cells #[zi 0,zi 2,zY] 60));have KC:Blk X3 w1.heap.size 56 #[zi 0,zi 0,zi 1,zi 0,zi 1,zi 0,zi 0,zi 0]:=by rw[<-b];exact(by repeat(first|(focus ((with_reducible refine Blk.new' _ _ _ ?_);(simp;done)))|(with_reducible exact Blk.new _ _ _)|(with_reducible refine Blk.alloc ?_ _)))
 have KW:Blk X3 (w1.heap.size+1) 3 #[zi 0,zi 0,zi 0,zi 0]:=by rw[<-b];exact(by repeat(first|(focus ((with_reducible refine Blk.new' _ _ _ ?_);(simp;done)))|(with_reducible exact Blk.new _ _ _)|(with_reducible refine Blk.alloc ?_ _)))
 have KZ:Blk X3 (w1.heap.size+1+1+1) 9 #[.string ⟨#[83]⟩,.string ⟨#[77]⟩]:=by rw[<-b];exact(by repeat(first|(focus ((with_reducible refine Blk.new' _ _ _ ?_);(simp;done)))|(with_reducible exact Blk.new _ _ _)|(with_reducible refine Blk.alloc ?_ _)))
 have KM:Blk X3 (w1.heap.size+1+1+1+1) 3 #[zi 0,zi 2]:=by rw[<-b];exact(by repeat(first|(focus ((with_reducible refine Blk.new' _ _ _ ?_);(simp;done)))|(with_reducible exact Blk.new _ _ _)|(with_reducible refine Blk.alloc ?_ _)))
 have KP:Blk X3 (w1.heap.size+1+1+1+1+1) 66 #[.string ⟨#[102,114,111,110,116]⟩,.slice (sa gE 0) 4 4,zi 1,zn,.slice (sa w1.heap.size 0) 4 4,.slice (sa (w1.heap.size+1) 0) 4 4,zF]:=by rw[<-b];exact(by repeat(first|(focus ((with_reducible refine Blk.new' _ _ _ ?_);(simp;done)))|(with_reducible exact Blk.new _ _ _)|(with_reducible refine Blk.alloc ?_ _)))
 have KU:Blk X3 (w1.heap.size+1+1+1+1+1+1) 60 #[zi 0,zi 2,zY]:=by rw[<-b];exact(by repeat(first|(focus ((with_reducible refine Blk.new' _ _ _ ?_);(simp;done)))|(with_reducible exact Blk.new _ _ _)|(with_reducible refine Blk.alloc ?_ _)))
 rw[b]at i B C D E F n⊢
 clear b p0 p1 p2 p3 p4 p5 p6 y0 y1 y2 y3 y4 y5 y6 z0 z1 z2 z3 z4 z5 z6 I zl z;have YR:=aW i.o (.string ⟨#[115,104,105,114,116]⟩) (.slice (sa (w1.heap.size+1+1+1) 0) 2 2) (.slice (sa (w1.heap.size+1+1+1+1) 0) 2 2) (.slice (sa (w1.heap.size+1+1+1+1+1) 0) 1 1) (.slice (sa (w1.heap.size+1+1+1+1+1+1) 0) 1 1) (zn) (zn);obtain⟨r0,r1,r2,r3,r4,r5,r6⟩:=AS YR;refine bodyPost_ret (v:=.agg #[.string ⟨#[115,104,105,114,116]⟩,.slice (sa (w1.heap.size+1+1+1) 0) 2 2,.slice (sa (w1.heap.size+1+1+1+1) 0) 2 2,.slice (sa (w1.heap.size+1+1+1+1+1) 0) 1 1,.slice (sa (w1.heap.size+1+1+1+1+1+1) 0) 1 1,zn,zn]) (by simp[results,results15,go_sem,r0,r1,r2,r3,r4,r5,r6]) rfl ?_;clear r0 r1 r2 r3 r4 r5 r6 YR;have FX:=λ(k:Nat)(t:TypeId)(cs:aV)(a0 a1 a2 a3 a4 a5 a6:Value)(G:Blk X3 k t cs)(J:t≠29)=>aX G (G.differM i.o J) a0 a1 a2 a3 a4 a5 a6
 have H:=m.o.trans ((zT p.o n.o).mono m.o.size);exact⟨w1.heap.size+1+1+1,w1.heap.size+1+1+1+1,w1.heap.size+1+1+1+1+1,w1.heap.size+1+1+1+1+1+1,rfl,aR (FX _ _ _ _ _ _ _ _ _ _ B.o zD) (FX _ _ _ _ _ _ _ _ _ _ C.o zD) (FX _ _ _ _ _ _ _ _ _ _ D.o zD) (FX _ _ _ _ _ _ _ _ _ _ E.o zD) (FX _ _ _ _ _ _ _ _ _ _ F.o zD) (FX _ _ _ _ _ _ _ _ _ _ KC zD) (FX _ _ _ _ _ _ _ _ _ _ KW zD) (FX _ _ _ _ _ _ _ _ _ _ KZ zD) (FX _ _ _ _ _ _ _ _ _ _ KM zD) (FX _ _ _ _ _ _ _ _ _ _ KP zD) (FX _ _ _ _ _ _ _ _ _ _ KU zD),VG H (zs2 _) _ _ _ _ _ _ _⟩
end Go.Proofs.YteafekbddckemaaGreatDoor
