/- Parts of the proof. -/
import Derived.Test.YteafekbddckemaaGreatDoorH33
set_option maxRecDepth 100000
set_option maxHeartbeats 40000000
namespace Go.Proofs.YteafekbddckemaaGreatDoor
open Tryz Go.RowKit
open Go.Lib hiding intOf
variable{A A' B B':oA}{T t:TypeId}{a b c d p:Pt}{c' c1 d' d1 g gd m m' n n':Nat}{e:Ending}{g':Bool}{w w' w0 w4:World}{x y:Rat}{z:Int}
def tA(a b c d:Pt)(w:World)(e:Ending)(w':World):Prop:=∃(g:Bool)(A:oA)(n c1:Nat)(B:oA)(m d1:Nat)(g':Bool)(A':oA)(n' c':Nat)(B':oA)(m' d':Nat)(z:Int),e=.returned (.tuple #[.agg #[.bool g,.slice A n c1,.slice B m d1,.bool g',.slice A' n' c',.slice B' m' d'],zi z])∧Hid ((z=0->∃t,F3 a b c d=some t∧PtN w' (.agg #[.bool g,.slice A n c1,.slice B m d1,.bool g',.slice A' n' c',.slice B' m' d']) t∧qk t.1 1000∧qk t.2 1000)∧(z≠0->F3 a b c d=none))∧Bw w w'
theorem Tp.two(k:inS a)(l:inS b)(i:inS c)(hd:inS d)(h:Tp (toQ a) (toQ b) (toQ c) (toQ d) w e w'):tA a b c d w e w':=by
 obtain⟨f,h⟩:=h;by_cases g:BW (AW (toQ b) (toQ a)) (AW (toQ d) (toQ c))=0
 ·rw[if_pos g]at h;exact⟨_,_,_,_,_,_,_,_,_,_,_,_,_,_,_,h,⟨λh=>(by cases h),λ_=>jL g⟩,f⟩
 rw[if_neg g]at h;obtain⟨v,rfl,j⟩:=h;obtain⟨_,_,_,_,_,_,_,_,_,_,_,_,_,_,rfl⟩:=wF j;have qa:=Da k;have qb:=Da l;have q1:=JG qb qa;have q2:=JG (Da i) qa;have q3:=JG (Da hd) (Da i);have hd:=jJ (Mj q2.1 q2.2 q3.1 q3.2) (Mj q1.1 q1.2 q3.1 q3.2);refine⟨_,_,_,_,_,_,_,_,_,_,_,_,_,_,_,rfl,⟨λ_=>⟨_,jM g,j,?_,?_⟩,λh=>absurd rfl h⟩,f⟩
 ·exact(T2 qa.1 (IS q1.1 hd)).mono zO
 exact(T2 qa.2 (IS q1.2 hd)).mono zO
def Aax(x:Option Pt)(w:World)(e:Ending)(w':World):Prop:=∃(a b z:Int),e=.returned (.tuple #[.agg #[zi a,zi b],zi z])∧Hid ((z=0->x=some (a,b))∧(z≠0->x=none))∧Bw w w'
theorem To.two{x:Option Pt}(h:To x w e w'):Aax x w e w':=by
 obtain⟨a,h⟩:=h
 cases x with
 | none=>exact⟨_,_,_,h,⟨λh=>(by cases h),λ_=>rfl⟩,a⟩
 | some r=>exact⟨_,_,_,h,⟨λ_=>rfl,λh=>absurd rfl h⟩,a⟩
theorem aJ(h:IA x y=some d) : -1048576<=d.1∧d.1<=1048576∧-1048576<=d.2∧d.2<=1048576:=by
 unfold IA at h;split at h
 ·cases h
 injection h with h
 subst h;simp only;omega
theorem BA{a b c d e:Value}(h:Blk w g t #[a,b,c,d,e]):zL w g 0 a∧zL w g 1 b∧zL w g 2 c∧zL w g 3 d∧zL w g 4 e:=
 ⟨h.c rfl,h.c rfl,h.c rfl,h.c rfl,h.c rfl⟩
theorem AaW{a b:Value}(h:Blk w g t #[a,b]):zL w g 0 a∧zL w g 1 b:=⟨h.c rfl,h.c rfl⟩
def Aay(l:lP)(w:World)(e:Ending)(w':World):Prop:=∃g,e=.returned (.slice (sa g 0) l.length l.length)∧w.heap.size<=g∧Ab 2 Ad w' (sa g 0) l.length l∧Bw w w'
theorem qZ{e0 e1 e2 e3 e4 e5:Value}(h:Blk w g t #[e0,e1,e2,e3,e4,e5])(u0 u1 u2 u3 u4 u5:Value):Blk ((((((w.setCell (ad g 0) u0).setCell (ad g 1) u1).setCell (ad g 2) u2).setCell (ad g 3) u3).setCell (ad g 4) u4).setCell (ad g 5) u5) g t #[u0,u1,u2,u3,u4,u5]:=
 (((((h.set_ 0 u0).set_ 1 u1).set_ 2 u2).set_ 3 u3).set_ 4 u4).set_ 5 u5
theorem jU(h:Blk w g T #[zi p.1,zi p.2]):Ab 2 Ad w (sa g 0) 1 [p]:=by
 refine⟨rfl,λ_=>⟨g,0,rfl,h.lt,λj x b=>?_⟩⟩
 match j,b with
 | 0,b=>
  simp only[List.getElem?_cons_zero,Option.some.injEq]at b;subst b;refine⟨_,rfl,λi u a=>?_⟩
  match i,a with
  | 0,a=>injection a with a;subst a;exact h.c rfl
  | 1,a=>injection a with a;subst a;exact h.c rfl
  | i+2,a=>simp at a
 | j+1,b=>simp at b
theorem Nw{q:Pt}(h:Blk w g T #[zi p.1,zi p.2,zi q.1,zi q.2]):Ab 2 Ad w (sa g 0) 2 [p,q]:=by
 refine⟨rfl,λ_=>⟨g,0,rfl,h.lt,λj x b=>?_⟩⟩
 match j,b with
 | 0,b=>
  simp only[List.getElem?_cons_zero,Option.some.injEq]at b;subst b;refine⟨_,rfl,λi u a=>?_⟩
  match i,a with
  | 0,a=>injection a with a;subst a;exact h.c rfl
  | 1,a=>injection a with a;subst a;exact h.c rfl
  | i+2,a=>simp at a
 | 1,b=>
  simp only[List.getElem?_cons_succ,List.getElem?_cons_zero,Option.some.injEq]at b;subst b;refine⟨_,rfl,λi u a=>?_⟩
  match i,a with
  | 0,a=>injection a with a;subst a;exact h.c rfl
  | 1,a=>injection a with a;subst a;exact h.c rfl
  | i+2,a=>simp at a
 | j+2,b=>simp at b
def rA(a b c d:Pt)(w0:World)(s7 s8:Value)(wx:World):Prop:=∃(ga:Nat)(g:Bool)(A:oA)(n c1:Nat)(B:oA)(m d1:Nat)(g':Bool)(A':oA)(n' c':Nat)(B':oA)(m' d':Nat)(z:Int),s7=.pointer (sa ga 0)∧s8=zi z∧Blk wx ga 284 #[.bool g,.slice A n c1,.slice B m d1,.bool g',.slice A' n' c',.slice B' m' d']∧Hid ((z=0->∃t,F3 a b c d=some t∧PtN wx (.agg #[.bool g,.slice A n c1,.slice B m d1,.bool g',.slice A' n' c',.slice B' m' d']) t∧qk t.1 1000∧qk t.2 1000)∧(z≠0->F3 a b c d=none))∧Bw w0 wx∧w0.heap.size<=ga
theorem wN{g:Bool}(h:Hid ((z=0->∃t,F3 a b c d=some t∧PtN w4 (.agg #[.bool g,.slice A n c1,.slice B m d1,.bool g',.slice A' n' c',.slice B' m' d']) t∧qk t.1 1000∧qk t.2 1000)∧(z≠0->F3 a b c d=none)))(e:Bw w0 w4):rA a b c d w0 (.pointer (sa w4.heap.size 0)) (zi z) (w4.alloc (.cells #[.bool g,.slice A n c1,.slice B m d1,.bool g',.slice A' n' c',.slice B' m' d'] 284)):=
 ⟨w4.heap.size,g,A,n,c1,B,m,d1,g',A',n',c',B',m',d',z,rfl,rfl,Blk.new _ _ _,⟨λi=>(h.out.1 i).imp λ_ f=>⟨f.1,f.2.1.on (zA _),f.2.2⟩,h.out.2⟩,e.alloc e.size _,e.size⟩
theorem wO{g:Bool}(f:Blk w4 gd 284 #[zF,zn,zn,zF,zn,zn])(h:Hid ((z=0->∃t,F3 a b c d=some t∧PtN w4 (.agg #[.bool g,.slice A n c1,.slice B m d1,.bool g',.slice A' n' c',.slice B' m' d']) t∧qk t.1 1000∧qk t.2 1000)∧(z≠0->F3 a b c d=none)))(l:Bw w0 w4)(i:w0.heap.size<=gd):rA a b c d w0 (.pointer (sa gd 0)) (zi z) ((((((w4.setCell (ad gd 0) (.bool g)).setCell (ad gd 1) (.slice A n c1)).setCell (ad gd 2) (.slice B m d1)).setCell (ad gd 3) (.bool g')).setCell (ad gd 4) (.slice A' n' c')).setCell (ad gd 5) (.slice B' m' d')):=by
 have j:=NoU.blk f zP;have k:=j.put3 gd 0 (Lt g) (GQ A n c1) (GQ B m d1);exact⟨gd,g,A,n,c1,B,m,d1,g',A',n',c',B',m',d',z,rfl,rfl,qZ f _ _ _ _ _ _,⟨λo=>(h.out.1 o).imp λ_ e=>⟨e.1,(e.2.1.put3 j 0 (Lt _) (GQ _ _ _)).put3 k 3 (Lt _) (GQ _ _ _),e.2.2⟩,h.out.2⟩,Mi l i _ _ _ _ _ _,i⟩
theorem rB(v:Pt)(x y:CR)(w:World)(hv:inS v)(X:inS x.a)(Y:inS x.b)(Z:inS y.a)(a0:inS y.b)(b7:0<=x.w∧x.w<=1000000)(b8:0<=y.w∧y.w<=1000000) :
  CP 137 #[.agg #[zi v.1,zi v.2],.agg #[zi x.a.1,zi x.a.2,zi x.b.1,zi x.b.2,zi x.w],.agg #[zi y.a.1,zi y.a.2,zi y.b.1,zi y.b.2,zi y.w]] w (Aay (By v x y) w):=by
 have Hv:=zH hv;have b9:=zH X;have ba:=zH Y;have bb:=zH Z;have bc:=zH a0;have hB:Bw w (((w.alloc (.cells #[zi v.1,zi v.2] 56)).alloc (.cells #[zi x.a.1,zi x.a.2,zi x.b.1,zi x.b.2,zi x.w] 246)).alloc (.cells #[zi y.a.1,zi y.a.2,zi y.b.1,zi y.b.2,zi y.w] 246)):=(((zJ.alloc zP _).alloc zP _).alloc zQ _);have Q:Hid (Blk (((w.alloc (.cells #[zi v.1,zi v.2] 56)).alloc (.cells #[zi x.a.1,zi x.a.2,zi x.b.1,zi x.b.2,zi x.w] 246)).alloc (.cells #[zi y.a.1,zi y.a.2,zi y.b.1,zi y.b.2,zi y.w] 246)) w.heap.size 56 #[zi v.1,zi v.2]):=zH ((((Blk.new w 56 #[zi v.1,zi v.2]).alloc _).alloc _));have L:Hid (Blk (((w.alloc (.cells #[zi v.1,zi v.2] 56)).alloc (.cells #[zi x.a.1,zi x.a.2,zi x.b.1,zi x.b.2,zi x.w] 246)).alloc (.cells #[zi y.a.1,zi y.a.2,zi y.b.1,zi y.b.2,zi y.w] 246)) (w.heap.size+1) 246 #[zi x.a.1,zi x.a.2,zi x.b.1,zi x.b.2,zi x.w]):=zH (((Blk.new' (w.alloc (.cells #[zi v.1,zi v.2] 56)) 246 #[zi x.a.1,zi x.a.2,zi x.b.1,zi x.b.2,zi x.w] zP).alloc _));have M:Hid (Blk (((w.alloc (.cells #[zi v.1,zi v.2] 56)).alloc (.cells #[zi x.a.1,zi x.a.2,zi x.b.1,zi x.b.2,zi x.w] 246)).alloc (.cells #[zi y.a.1,zi y.a.2,zi y.b.1,zi y.b.2,zi y.w] 246)) (w.heap.size+1+1) 246 #[zi y.a.1,zi y.a.2,zi y.b.1,zi y.b.2,zi y.w]):=zH ((Blk.new' ((w.alloc (.cells #[zi v.1,zi v.2] 56)).alloc (.cells #[zi x.a.1,zi x.a.2,zi x.b.1,zi x.b.2,zi x.w] 246)) 246 #[zi y.a.1,zi y.a.2,zi y.b.1,zi y.b.2,zi y.w] zP))
 have HB:=zH hB;have ai:w.heap.size+1+1<((((w.alloc (.cells #[zi v.1,zi v.2] 56)).alloc (.cells #[zi x.a.1,zi x.a.2,zi x.b.1,zi x.b.2,zi x.w] 246)).alloc (.cells #[zi y.a.1,zi y.a.2,zi y.b.1,zi y.b.2,zi y.w] 246))).heap.size:=by simp
 have aw:=zH (λW=>IY v W (by unfold inS at hv;omega) (by unfold inS at hv;omega));have aq:=zH (λW=>IY x.a W (by unfold inS at X;omega) (by unfold inS at X;omega));have ar:=zH (λW=>IY x.b W (by unfold inS at Y;omega) (by unfold inS at Y;omega));have au:=zH (λW=>IY y.a W (by unfold inS at Z;omega) (by unfold inS at Z;omega));have av:=zH (λW=>IY y.b W (by unfold inS at a0;omega) (by unfold inS at a0;omega));have aj:=zH (λW a b c d (h1:PtN W a (toQ x.a)) (h2:PtN W b (toQ x.b)) (h3:PtN W c (toQ y.a)) (h4:PtN W d (toQ y.b))=>(aD a b c d 2 (toQ x.a) (toQ x.b) (toQ y.a) (toQ y.b) W (h1.A (Da X).1 (Da X).2) (h2.A (Da Y).1 (Da Y).2) (h3.A (Da Z).1 (Da Z).2) (h4.A (Da a0).1 (Da a0).2) zD zD).mono (R':=tA x.a x.b y.a y.b W) λ_ _ h=>Tp.two X Y Z a0 h);clear hB hv X Y Z a0;go_enter func137,ntmps137
 go_upto_region 1 with fail
 generalize ax:(((w.alloc (.cells #[zi v.1,zi v.2] 56)).alloc (.cells #[zi x.a.1,zi x.a.2,zi x.b.1,zi x.b.2,zi x.w] 246)).alloc (.cells #[zi y.a.1,zi y.a.2,zi y.b.1,zi y.b.2,zi y.w] 246))=wy at *
 clear ax
 go_cut [7,8] (λs7 s8 wx=>rA x.a x.b y.a y.b wy s7 s8 wx)
 case first=>
  have s0:=BA L.o;have s1:=BA M.o
  go_region_held3(λw'=>w'.cell? (ad (w.heap.size+1) 0)=some (zi x.a.1)∧w'.cell? (ad (w.heap.size+1) 1)=some (zi x.a.2)∧w'.cell? (ad (w.heap.size+1) 2)=some (zi x.b.1)∧w'.cell? (ad (w.heap.size+1) 3)=some (zi x.b.2)∧w'.cell? (ad (w.heap.size+1) 4)=some (zi x.w)∧w'.cell? (ad (w.heap.size+1+1) 0)=some (zi y.a.1)∧w'.cell? (ad (w.heap.size+1+1) 1)=some (zi y.a.2)∧w'.cell? (ad (w.heap.size+1+1) 2)=some (zi y.b.1)∧w'.cell? (ad (w.heap.size+1+1) 3)=some (zi y.b.2)∧w'.cell? (ad (w.heap.size+1+1) 4)=some (zi y.w))
   (go_keep)
   (first
   | (go_at_call_of 180 (Value.agg #[zi x.a.1,zi x.a.2]);refine(aq.o _).mono ?_;rintro e uwy0 af;obtain⟨v0,rfl,r0,j⟩:=af;(first|(have a1:=zH (show Bw wy uwy0 from(zX j));(try(have f:=zH (f.out.below a1.o))))|(obtain⟨a3,k⟩:=aft (T:=284) (cs:=#[zF,zn,zn,zF,zn,zn]) (show Bw (wy.alloc _) uwy0 from(zX j));have a1:=zH a3;have f:=zH k;clear a3 k;have s:=zH (show wy.heap.size<=wy.heap.size from zs2 _);obtain⟨nz0,nx0,nz1,nx1,nz2,nx2⟩:=Vm (b:=w.heap.size) s.out zO));have D:=zH (a1.o:Bw wy uwy0);have s0_0:=BA (L.o.below D.o);clear s0;have s1_0:=BA (M.o.below D.o);clear s1;have E:=zH r0;clear r0;clear j)
   | (go_at_call_of 180 (Value.agg #[zi x.b.1,zi x.b.2]);refine(ar.o _).mono ?_;rintro e uwy1 ag;obtain⟨v1,rfl,r1,l⟩:=ag;(first|(have N:=zH (show Bw uwy0 uwy1 from(zX l));(try(have f:=zH (f.out.below N.o))))|(obtain⟨a4,k⟩:=aft (T:=284) (cs:=#[zF,zn,zn,zF,zn,zn]) (show Bw (uwy0.alloc _) uwy1 from(zX l));have N:=zH a4;have f:=zH k;clear a4 k;have s:=zH (show wy.heap.size<=uwy0.heap.size from D.o.size);obtain⟨nz0,nx0,nz1,nx1,nz2,nx2⟩:=Vm (b:=w.heap.size) s.out zO));have H:=zH (zT D.o N.o:Bw wy uwy1);have s0_1:=BA (L.o.below H.o);clear s0_0;have s1_1:=BA (M.o.below H.o);clear s1_0;have O:=zH (E.o.on N.o);clear E;have F:=zH r1;clear r1;clear l)
   | (go_at_call_of 180 (Value.agg #[zi y.a.1,zi y.a.2]);refine(au.o _).mono ?_;rintro e uwy2 ah;obtain⟨v2,rfl,r2,r⟩:=ah;(first|(have I:=zH (show Bw uwy1 uwy2 from(zX r));(try(have f:=zH (f.out.below I.o))))|(obtain⟨a9,k⟩:=aft (T:=284) (cs:=#[zF,zn,zn,zF,zn,zn]) (show Bw (uwy1.alloc _) uwy2 from(zX r));have I:=zH a9;have f:=zH k;clear a9 k;have s:=zH (show wy.heap.size<=uwy1.heap.size from H.o.size);obtain⟨nz0,nx0,nz1,nx1,nz2,nx2⟩:=Vm (b:=w.heap.size) s.out zO));have G:=zH (zT H.o I.o:Bw wy uwy2);have s0_2:=BA (L.o.below G.o);clear s0_1;have s1_2:=BA (M.o.below G.o);clear s1_1;have a7:=zH (O.o.on I.o);clear O;have a8:=zH (F.o.on I.o);clear F;have ab:=zH r2;clear r2;clear r)
   | (go_at_call_of 180 (Value.agg #[zi y.b.1,zi y.b.2]);refine(av.o _).mono ?_;rintro e uwy3 ay;obtain⟨v3,rfl,r3,J⟩:=ay;(first|(have a5:=zH (show Bw uwy2 uwy3 from(zX J));(try(have f:=zH (f.out.below a5.o))))|(obtain⟨ak,k⟩:=aft (T:=284) (cs:=#[zF,zn,zn,zF,zn,zn]) (show Bw (uwy2.alloc _) uwy3 from(zX J));have a5:=zH ak;have f:=zH k;clear ak k;have s:=zH (show wy.heap.size<=uwy2.heap.size from G.o.size);obtain⟨nz0,nx0,nz1,nx1,nz2,nx2⟩:=Vm (b:=w.heap.size) s.out zO));have aa:=zH (zT G.o a5.o:Bw wy uwy3);have s0_3:=BA (L.o.below aa.o);clear s0_2;have s1_3:=BA (M.o.below aa.o);clear s1_2;have R:=zH (a7.o.on a5.o);clear a7;have S:=zH (a8.o.on a5.o);clear a8;have U:=zH (ab.o.on a5.o);clear ab;have V:=zH r3;clear r3;clear J)
   | (go_at_call 179;(first|(refine(aj.o _ _ _ _ _ (by exact R.o) (by exact S.o) (by exact U.o) (by exact V.o)).mono ?_)|(refine(aj.o _ _ _ _ _ (by exact R.o.on (zA _)) (by exact S.o.on (zA _)) (by exact U.o.on (zA _)) (by exact V.o.on (zA _))).mono ?_));rintro e uwy4 az;obtain⟨g,A,n,c1,B,m,d1,g',A',n',c',B',m',d',z,rfl,r4,K⟩:=az;(first|(have a2:=zH (show Bw uwy3 uwy4 from(zX K));(try(have f:=zH (f.out.below a2.o))))|(obtain⟨al,k⟩:=aft (T:=284) (cs:=#[zF,zn,zn,zF,zn,zn]) (show Bw (uwy3.alloc _) uwy4 from(zX K));have a2:=zH al;have f:=zH k;clear al k;have s:=zH (show wy.heap.size<=uwy3.heap.size from aa.o.size);obtain⟨nz0,nx0,nz1,nx1,nz2,nx2⟩:=Vm (b:=w.heap.size) s.out zO));have ac:=zH (zT aa.o a2.o:Bw wy uwy4);have s0_4:=BA (L.o.below ac.o);clear s0_3;have s1_4:=BA (M.o.below ac.o);clear s1_3;have b3:=zH (R.o.on a2.o);clear R;have b4:=zH (S.o.on a2.o);clear S;have b5:=zH (U.o.on a2.o);clear U;have b6:=zH (V.o.on a2.o);clear V;(try(have dq0:=f.out.c (i:=0) (v:=zF) rfl;have yq0:=f.out.frozen 0;have dq1:=f.out.c (i:=1) (v:=zn) rfl;have yq1:=f.out.frozen 1;have dq2:=f.out.c (i:=2) (v:=zn) rfl;have yq2:=f.out.frozen 2;have dq3:=f.out.c (i:=3) (v:=zF) rfl;have yq3:=f.out.frozen 3;have dq4:=f.out.c (i:=4) (v:=zn) rfl;have yq4:=f.out.frozen 4;have dq5:=f.out.c (i:=5) (v:=zn) rfl;have yq5:=f.out.frozen 5));clear K))
  all_goals
   go_wp2_with fail
   go_meet
   first
   | (with_reducible exact wN r4 ac.o)
   | (with_reducible exact wO f.out r4 ac.o s.out)
 case rest=>
  obtain⟨ga,g,A,n,c1,B,m,d1,g',A',n',c',B',m',d',z,rfl,rfl,hG,hQ,C,am⟩:=hcut;have X0:=Q.o.below C;have X1:=L.o.below C;have X2:=M.o.below C;have BT:=zT HB.o C;by_cases hz:z=0
  ·subst hz;obtain⟨t,hm,hN,qt1,qt2⟩:=hQ.out.1 rfl;have HT:=zH hN;have HM:=zH hm;have HG:=zH hG;have Q:=zH X0;have L:=zH X1;have M:=zH X2;have an:=zH BT;have ae:=zH (zu2 (Kb qt1 (Da Hv.o).1) (Kb qt2 (Da Hv.o).2));have bd:w.heap.size+1+1<wc.heap.size:=zs1 ai C.size;have be:=hG.lt;have bf:w.heap.size+1+1<ga:=zs1 ai am;clear hQ hN hm hG X0 X1 X2 BT C;obtain⟨wo,rfl⟩:∃wo:World,wo=wc:=⟨_,rfl⟩
   go_upto_region 3 with fail
   go_cut [9,10] (λs9 s10 wx=>∃(gb:Nat)(a b z:Int),s9=.pointer (sa gb 0)∧s10=zi z∧Blk wx gb 56 #[zi a,zi b]∧Hid ((z=0->IA (t.1-(v.1:Rat)) (t.2-(v.2:Rat))=some (a,b))∧(z≠0->IA (t.1-(v.1:Rat)) (t.2-(v.2:Rat))=none))∧Bw wo wx∧wo.heap.size<=gb)
   case first=>
    have s0:=Ak HG.o;have s1:=AaW Q.o
    go_region_held3(λw'=>w'.cell? (ad ga 0)=some (.bool g)∧w'.cell? (ad ga 1)=some (.slice A n c1)∧w'.cell? (ad ga 2)=some (.slice B m d1)∧w'.cell? (ad ga 3)=some (.bool g')∧w'.cell? (ad ga 4)=some (.slice A' n' c')∧w'.cell? (ad ga 5)=some (.slice B' m' d')∧w'.cell? (ad w.heap.size 0)=some (zi v.1)∧w'.cell? (ad w.heap.size 1)=some (zi v.2))
     (go_keep)
     (first
     | (go_at_call_of 180 (Value.agg #[zi v.1,zi v.2]);refine(aw.o _).mono ?_;rintro e uwo0 af;obtain⟨g0,G0,gn0,gc0,H0,bg,a3,e0,E0,en0,ec0,F0,fm0,fd0,rfl,r0,j⟩:=C9 af;(first|(have a1:=zH (show Bw wo uwo0 from(zX j));(try(have f:=zH (f.out.below a1.o))))|(obtain⟨a3,k⟩:=aft (T:=56) (cs:=#[zi 0,zi 0]) (show Bw (wo.alloc _) uwo0 from(zX j));have a1:=zH a3;have f:=zH k;clear a3 k;have s:=zH (show wo.heap.size<=wo.heap.size from zs2 _);obtain⟨nz0,nx0,nz1,nx1⟩:¬wo.heap.size=w.heap.size∧¬w.heap.size=wo.heap.size∧¬wo.heap.size=ga∧¬ga=wo.heap.size:=by have:=s.out;omega));have D:=zH (a1.o:Bw wo uwo0);have s0_0:=Ak (HG.o.below D.o);clear s0;have s1_0:=AaW (Q.o.below D.o);clear s1;have E:=zH r0;clear r0;clear j)
     | (go_at_call 182;(first|(refine(FR _ _ 1000 2 t (toQ v) _ (PtN.A (by exact HT.o.on D.o) qt1 qt2) (PtN.A (by exact E.o) (Da Hv.o).1 (Da Hv.o).2) zO zO zO zO).mono ?_)|(refine(FR _ _ 1000 2 t (toQ v) _ (PtN.A (by exact HT.o.on (D.o.alloc D.o.size _)) qt1 qt2) (PtN.A (by exact E.o.on (zA _)) (Da Hv.o).1 (Da Hv.o).2) zO zO zO zO).mono ?_));rintro e uwo1 ag;obtain⟨g1,G1,gn1,gc1,H1,bh,a4,e1,E1,en1,ec1,F1,fm1,fd1,rfl,r1,l⟩:=C9 ag;(first|(have N:=zH (show Bw uwo0 uwo1 from(zX l));(try(have f:=zH (f.out.below N.o))))|(obtain⟨a4,k⟩:=aft (T:=56) (cs:=#[zi 0,zi 0]) (show Bw (uwo0.alloc _) uwo1 from(zX l));have N:=zH a4;have f:=zH k;clear a4 k;have s:=zH (show wo.heap.size<=uwo0.heap.size from D.o.size);obtain⟨nz0,nx0,nz1,nx1⟩:¬uwo0.heap.size=w.heap.size∧¬w.heap.size=uwo0.heap.size∧¬uwo0.heap.size=ga∧¬ga=uwo0.heap.size:=by have:=s.out;omega));have H:=zH (zT D.o N.o:Bw wo uwo1);have s0_1:=Ak (HG.o.below H.o);clear s0_0;have s1_1:=AaW (Q.o.below H.o);clear s1_0;have O:=zH (E.o.on N.o);clear E;have F:=zH r1;clear r1;clear l)
     | (go_at_call 181;(first|(refine(Vl _ (1000+2+1) (t.1-(toQ v).1,t.2-(toQ v).2) _ (PtN.A (by exact F.o) ae.o.1 ae.o.2) zO zO).mono ?_)|(refine(Vl _ (1000+2+1) (t.1-(toQ v).1,t.2-(toQ v).2) _ (PtN.A (by exact F.o.on (zA _)) ae.o.1 ae.o.2) zO zO).mono ?_));rintro e uwo2 ah;obtain⟨a,b,z,rfl,r2,r⟩:=To.two ah;(first|(have I:=zH (show Bw uwo1 uwo2 from(zX r));(try(have f:=zH (f.out.below I.o))))|(obtain⟨a9,k⟩:=aft (T:=56) (cs:=#[zi 0,zi 0]) (show Bw (uwo1.alloc _) uwo2 from(zX r));have I:=zH a9;have f:=zH k;clear a9 k;have s:=zH (show wo.heap.size<=uwo1.heap.size from H.o.size);obtain⟨nz0,nx0,nz1,nx1⟩:¬uwo1.heap.size=w.heap.size∧¬w.heap.size=uwo1.heap.size∧¬uwo1.heap.size=ga∧¬ga=uwo1.heap.size:=by have:=s.out;omega));have G:=zH (zT H.o I.o:Bw wo uwo2);have s0_2:=Ak (HG.o.below G.o);clear s0_1;have s1_2:=AaW (Q.o.below G.o);clear s1_1;have a7:=zH (O.o.on I.o);clear O;have a8:=zH (F.o.on I.o);clear F;(try(have dq0:=f.out.c (i:=0) (v:=zi 0) rfl;have yq0:=f.out.frozen 0;have dq1:=f.out.c (i:=1) (v:=zi 0) rfl;have yq1:=f.out.frozen 1));clear r))
    all_goals
     go_wp2_with fail
     go_meet
     first
     | exact⟨uwo2.heap.size,a,b,z,rfl,rfl,Blk.new _ _ _,r2,G.o.alloc G.o.size _,G.o.size⟩
     | exact⟨_,a,b,z,rfl,rfl,(f.out.set_ 0 _).set_ 1 _,r2,(G.o.setCell (p:=ad _ 0) s.out _).setCell (p:=ad _ 1) s.out _,s.out⟩
   case rest=>
    obtain⟨gb,a,b,z,rfl,rfl,hG,hQ,C,am⟩:=hcut;have X0:=Q.o.below C;have X1:=L.o.below C;have X2:=M.o.below C;have BT:=zT an.o C;obtain⟨x0,x1⟩:=AaW X0;obtain⟨x2,x3,x4,x5,x6⟩:=BA X1;obtain⟨y2,y3,y4,y5,y6⟩:=BA X2;obtain⟨e0,e1⟩:=AaW hG;by_cases hz:z=0
    ·subst hz;have hg:=hQ.out.1 rfl;have hr:=aJ hg;have ao:=zH hg;have b0:=zH hG;have a6:=zH C;clear hg hQ hG X0 X1 X2 C;have b1:0<=4*max x.w y.w+4∧4*max x.w y.w+4<=4611686018427387904:=zO;have HW:=zH (KY (a,b) (4*max x.w y.w+4) wc b1)
     cases hR:Cv (a,b) (4*max x.w y.w+4)with
     | false=>
      have hS:By v x y=[x.b,y.a]:=by unfold By;rw[HM.o];simp only;rw[ao.o];simp only;rw[hR];rfl
      rw[hR]at HW;have HS:=zH hS;clear hR hS;go_wp2_with(go_at_call 138;go_must((refine HW.o.mono ?_);rintro e w5 ⟨rfl,P⟩;have X1:=L.o.below (zT a6.o P);have X2:=M.o.below (zT a6.o P);obtain⟨p2,p3,p4,p5,p6⟩:=BA X1;obtain⟨q2,q3,q4,q5,q6⟩:=BA X2;have B5:=zT BT P;have HF:=zH (Nw (p:=x.b) (q:=y.a) (Blk.new w5 56 #[zi x.b.1,zi x.b.2,zi y.a.1,zi y.a.2]));clear X1 X2 P))
      go_ret;rw[HS.o];exact⟨_,rfl,B5.size,HF.o,B5.alloc B5.size _⟩
     | true=>
      have hS:By v x y=[(v.1+a,v.2+b)]:=by unfold By;rw[HM.o];simp only;rw[ao.o];simp only;rw[hR];rfl
      rw[hR]at HW;have HS:=zH hS;have HA:=zH (λW=>Pd v (a,b) W (by have:=Hv.o;unfold inS at this;simp only at hr⊢;omega) (by have:=Hv.o;unfold inS at this;simp only at hr⊢;omega));clear hR hS
      go_wp2_with(first
       | (go_at_call 138;go_must((refine HW.o.mono ?_);rintro e w5 ⟨rfl,P⟩;have X0:=Q.o.below (zT a6.o P);have G5:=b0.o.below P;obtain⟨p2,p3⟩:=AaW X0;obtain⟨q2,q3⟩:=AaW G5;have B5:=zT BT P;clear X0 G5 P))
       | (go_at_call 136;go_must((refine(HA.o _).mono ?_);rintro e w6 ⟨rfl,ap⟩;have B6:=zT B5 ap;have HF:=zH (jU (p:=(v.1+a,v.2+b)) (Blk.new w6 56 #[zi (v.1+a),zi (v.2+b)]));clear ap)))
      go_ret;rw[HS.o];exact⟨_,rfl,B6.size,HF.o,B6.alloc B6.size _⟩
    have hS:By v x y=[x.b,y.a]:=by unfold By;rw[HM.o];simp only;rw[hQ.out.2 hz]
    have b2:(z == 0)=false:=by simpa using hz
    have HS:=zH hS;have HF:=zH (Nw (p:=x.b) (q:=y.a) (Blk.new wc 56 #[zi x.b.1,zi x.b.2,zi y.a.1,zi y.a.2]));clear hQ hG X0 X1 X2 C hS
    go_wp2_with fail
    go_ret;rw[HS.o];exact⟨_,rfl,BT.size,HF.o,BT.alloc BT.size _⟩
  have hS:By v x y=[x.b,y.a]:=by unfold By;rw[hQ.out.2 hz]
  have b2:(z == 0)=false:=by simpa using hz
  obtain⟨x2,x3,x4,x5,x6⟩:=BA X1;obtain⟨y2,y3,y4,y5,y6⟩:=BA X2;have HS:=zH hS;have HF:=zH (Nw (p:=x.b) (q:=y.a) (Blk.new wc 56 #[zi x.b.1,zi x.b.2,zi y.a.1,zi y.a.2]));clear hQ hG X0 X1 X2 C hS
  go_wp2_with fail
  go_ret;rw[HS.o];exact⟨_,rfl,BT.size,HF.o,BT.alloc BT.size _⟩
end Go.Proofs.YteafekbddckemaaGreatDoor
