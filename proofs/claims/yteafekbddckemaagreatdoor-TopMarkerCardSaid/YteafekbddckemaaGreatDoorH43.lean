/- Parts of the proof. -/
import Derived.Test.YteafekbddckemaaGreatDoorH41
set_option maxRecDepth 100000
set_option maxHeartbeats 40000000
namespace Go.Proofs.YteafekbddckemaaGreatDoor
open Go.Proofs.Tryz Go.RowKit
open Go.Lib hiding intOf
variable{B g i j n size:Nat}{C:lP}{L:List Ae}{cs:List Ac}{e:TypeId}{fl:Bool}{p:Ac}{q:Ae}{s:Al}{v:Value}{w w':World}{x:Aw}{xs:lV}{y z:Int}{zs:List Int}{α:Type}
def DU(cs:List Ac)(zs:List Int)(g:Nat):List (Int×Ac):=cs.map λp=>(zs.getD g 0,({ p with garment:=g }:Ac))
def Cl(cs:List Ac)(zs:List Int)(g i:Nat):List (Int×Ac):=(List.range g).flatMap (DU cs zs)++(DU cs zs g).take i
section
variable{cs:List Ac}{zs:List Int}{g i:Nat}{p:Ac}{z:Int}
theorem QB(a:cs[i]?=some p)(b:zs[g]?=some z):Cl cs zs g (i+1)=Cl cs zs g i++[(z,({ p with garment:=g }:Ac))]:=by
 unfold Cl
 have h:(DU cs zs g)[i]?=some (z,({ p with garment:=g }:Ac)):=by
  unfold DU;rw[zr5,a,zt6,zq3,b,Option.getD_some]
 rw[List.take_add_one,h,List.append_assoc];rfl
theorem kV:Cl cs zs (g+1) 0=Cl cs zs g cs.length:=by
 unfold Cl;have a:(DU cs zs g).length=cs.length:=by simp[DU]
 rw[List.range_succ,zr7,List.take_zero,zt3,<-a,List.take_length];simp
theorem kW:(Cl cs zs g i).length<=cs.length*g+i:=by
 unfold Cl;rw[zq5,zq7]
 have h:∀g,((List.range g).flatMap (DU cs zs)).length=cs.length*g:=by
  intro g;induction g with
  | zero=>simp
  | succ g ih=>
   rw[List.range_succ,zr7,zq5,ih];simp[DU,Nat.mul_add]
 rw[h];omega
theorem Xc(b:g<n)(a:cs[i]?=some p)(e:zs[g]?=some z):∃rest,Cl cs zs n 0=Cl cs zs g i++(z,({ p with garment:=g }:Ac))::rest:=by
 have f:List.range n=List.range g++g::(List.range n).drop (g+1):=by
  have j:(List.range n).take g=List.range g:=by rw[List.take_range,zt0 zO]
  have k:(List.range n).drop g=g::(List.range n).drop (g+1):=by
   rw[List.drop_eq_getElem_cons (by simpa using b)];simp
  rw[<-j,<-k,List.take_append_drop]
 have l:DU cs zs g=(DU cs zs g).take i++(z,({ p with garment:=g }:Ac))::(DU cs zs g).drop (i+1):=by
  have hi:i<(DU cs zs g).length:=by
   have:=(zq1.1 a).1;simpa[DU]using this
  have m:(DU cs zs g)[i]=(z,({ p with garment:=g }:Ac)):=by
   have h:(DU cs zs g)[i]?=some (z,({ p with garment:=g }:Ac)):=by
    unfold DU;rw[zr5,a,zt6,zq3,e,Option.getD_some]
   rw[zq0 hi]at h;exact zs6 h
  rw[<-m,<-List.drop_eq_getElem_cons hi,List.take_append_drop]
 refine⟨(DU cs zs g).drop (i+1)++((List.range n).drop (g+1)).flatMap (DU cs zs),?_⟩;unfold Cl;rw[List.take_zero,zt3];generalize(List.range n).drop (g+1)=R at *
 rw[f,zr7,List.flatMap_cons];conv=>lhs;rw[l]
 simp
end
section
variable{s:Al}{zs:List Int}
theorem kX(h:AA s=z)(a:z≠0):AI s zs=.error z:=by
 unfold AI;rw[if_pos (by rw[h];exact a),h]
theorem kY(h:AA s=0)(a:zs.length<1∨6<zs.length):AI s zs=.error 3:=by
 unfold AI;rw[if_neg zO,if_pos a]
theorem VO(h:AA s=0)(a:¬(zs.length<1∨6<zs.length))(b:zs[j]?=some z)(e:z<0∨(s.sizes.length:Int)<=z):AI s zs=.error 3:=by
 unfold AI;rw[if_neg zO,if_neg a,if_pos];rw[List.any_eq_true];refine⟨z,zq2 b,?_⟩;simp only[Bool.or_eq_true,decide_eq_true_eq];exact e
theorem SO(h:∀(j:Nat)(z:Int),zs[j]?=some z->0<=z∧z<(s.sizes.length:Int)):¬(zs.any λk=>decide (k<0)||decide ((s.sizes.length:Int)<=k))=true:=by
 rw[List.any_eq_true];rintro⟨z,a,b⟩;obtain⟨j,e⟩:=List.getElem?_of_mem a;have:=h j z e;simp only[Bool.or_eq_true,decide_eq_true_eq]at b;omega
theorem rS(h:AA s=0)(a:¬(zs.length<1∨6<zs.length))(b:∀(j:Nat)(z:Int),zs[j]?=some z->0<=z∧z<(s.sizes.length:Int))(e:60<(AP s).length*zs.length):AI s zs=.error 5:=by
 unfold AI;rw[if_neg zO,if_neg a,if_neg (SO b),if_pos e]
theorem Yk(h:AA s=0)(a:¬(zs.length<1∨6<zs.length))(b:∀(j:Nat)(z:Int),zs[j]?=some z->0<=z∧z<(s.sizes.length:Int))(f:¬60<(AP s).length*zs.length):AI s zs=match AE ((Cl (AP s) zs zs.length 0).map λx=>CY s x.1 x.2)with
  | .error e=>.error e
  | .ok l=>.ok (l,(Cl (AP s) zs zs.length 0).map (·.2)):=by
 have e:Cl (AP s) zs zs.length 0=(List.range zs.length).flatMap (DU (AP s) zs):=by simp[Cl]
 unfold AI;rw[if_neg zO,if_neg a,if_neg (SO b),if_neg f,e];rfl
theorem rT(h:AA s=0)(b:¬(zs.length<1∨6<zs.length))(f:∀(j:Nat)(z:Int),zs[j]?=some z->0<=z∧z<(s.sizes.length:Int))(k:¬60<(AP s).length*zs.length){e:Int}(l:g<zs.length)(m:(AP s)[i]?=some p)(a:zs[g]?=some z)(n:((Cl (AP s) zs g i).map λx=>CY s x.1 x.2)=L.map .ok)(o:CY s z { p with garment:=g }=.error e):AI s zs=.error e:=by
 rw[Yk h b f k];obtain⟨rest,q⟩:=Xc l m a
 have:AE ((Cl (AP s) zs zs.length 0).map λx=>CY s x.1 x.2)=.error e:=by
  rw[q,zr0,n,List.map_cons];simp only[o];exact J8 _ _ _
 rw[this]
theorem rU(h:AA s=0)(a:¬(zs.length<1∨6<zs.length))(b:∀(j:Nat)(z:Int),zs[j]?=some z->0<=z∧z<(s.sizes.length:Int))(e:¬60<(AP s).length*zs.length)(f:((Cl (AP s) zs zs.length 0).map λx=>CY s x.1 x.2)=L.map .ok):AI s zs=.ok (L,(Cl (AP s) zs zs.length 0).map (·.2)):=by
 rw[Yk h a b e,f,GP]
theorem rV(a:(AP s)[i]?=some p)(b:zs[g]?=some z)(e:((Cl (AP s) zs g i).map λx=>CY s x.1 x.2)=L.map .ok)(f:CY s z { p with garment:=g }=.ok q):((Cl (AP s) zs g (i+1)).map λx=>CY s x.1 x.2)=(L++[q]).map .ok:=by
 rw[QB a b,zr0,e,zr0];simp only[List.map_cons,List.map_nil,f]
end
theorem QC(h:AA s=0):s.multiples.length=s.sizes.length:=by
 unfold AA at h;split at h
 ·rename_i b;exact absurd h b
 rename_i b;have a:AM s=0:=by simpa using b
 unfold AM at a;split at a
 ·cases a
 split at a
 ·cases a
 split at a
 ·cases a
 rename_i e;exact Classical.byContradiction λf=>e (.inl f)
abbrev SHd:=Ae×Nat×Nat
def shC(t:SHd):List Value:=[.slice (sa t.2.1 0) t.1.poly.length t.2.2,zi t.1.grain,.bool t.1.match_,zi t.1.anchor.1,zi t.1.anchor.2]
theorem wY(t:SHd):(shC t).length=5:=rfl
theorem wZ(t:SHd):∀u∈shC t,u.oneCell'=true:=λu a=>by
 simp only[shC,zr3,List.not_mem_nil,or_false]at a;rcases a with rfl|rfl|rfl|rfl|rfl <;> rfl
theorem kZ(W:World)(t:SHd)(T:TypeId):∀(j:Nat)(u:Value),(shC t)[j]?=some u->(zw W #[.slice (sa t.2.1 0) t.1.poly.length t.2.2,zi t.1.grain,.bool t.1.match_,zi t.1.anchor.1,zi t.1.anchor.2] T).cell? ((⟨W.heap.size,0,none⟩:Addr).add j)=some u:=λj u a=>by
 have b:Blk (W.alloc (.cells (shC t).toArray T)) W.heap.size T (shC t).toArray:=Blk.new W _ _;rw[Go.WideShapes.add_plain];exact b.c (by simpa using a)
theorem lA(W:World)(t:SHd)(T:TypeId)(g:Nat)(a:W.heap.size=g):∀(j:Nat)(u:Value),(shC t)[j]?=some u->(zw W #[.slice (sa t.2.1 0) t.1.poly.length t.2.2,zi t.1.grain,.bool t.1.match_,zi t.1.anchor.1,zi t.1.anchor.2] T).cell? ((⟨g,0,none⟩:Addr).add j)=some u:=by
 subst a;exact kZ W t T
theorem rW(h:Ab 2 Ad w (sa g 0) n C)(f:0<n):g<w.heap.size:=by
 obtain⟨b,j,e,a,_⟩:=h.2 f;injection e with e
 injection e with e1
 rw[e1];exact a
theorem bJ:(prog.info? 79).map (λi=>(i.zero,i.size,i.bytes))=some (some (.agg #[zn,zi 0,zF,zi 0,zi 0]),5,56):=zk
structure Gh(B:Nat)(w:World)(v1 v2:Value)(ts:List SHd)(ps:List Ac):Prop where
 o1:w.ownsRow B 79 5 v1 ts.length (ts.flatMap shC)
 o2:w.ownsRow B 58 7 v2 ps.length (ps.flatMap AN)
 ne:∀g,v1.ownBlock=some g->v2.ownBlock≠some g
 poly:∀t∈ts,Ab 2 Ad w (sa t.2.1 0) t.1.poly.length t.1.poly∧t.1.poly.length<=t.2.2∧(0<t.1.poly.length->t.2.1<w.heap.size∧v1.ownBlock≠some t.2.1∧v2.ownBlock≠some t.2.1)
theorem SP{r:Option Nat}(h:w.ownsRow B e size v n xs)(k:w.grownBy w' r)(b:∀g,v.ownBlock=some g->r≠some g):w'.ownsRow B e size v n xs:=by
 refine⟨h.1,?_⟩;rcases h.2 with a|⟨g,cap,cur,f,a,j,l⟩
 ·exact .inl a
 refine .inr ⟨g,cap,cur,f,a,(k.block g (Array.getElem?_eq_some_iff.1 j).1 (λe=>b g (by rw[f];rfl) e.symm)).trans j,l⟩
theorem K2{r:Option Nat}(h:Ab 2 Ad w (sa g 0) n C)(f:w.grownBy w' r)(v:0<n->g<w.heap.size∧r≠some g):Ab 2 Ad w' (sa g 0) n C:=by
 refine⟨h.1,λk=>?_⟩;obtain⟨l,m⟩:=v k;obtain⟨b,o,e,q,y⟩:=h.2 k;refine⟨b,o,e,zs1 q f.size,λj x D=>?_⟩;injection e with e
 injection e with e1 e2
 subst e1;subst e2;obtain⟨vs,E,t⟩:=y j x D;exact⟨vs,E,λi u F=>(World.cell?_of_block (a:=⟨g,0+j*2+i,none⟩) (f.block g l (λe=>m e.symm))).trans (t i u F)⟩
theorem Gh.start(B:Nat)(w:World):Gh B w (zn) (zn) [] []:=⟨World.ownsRow_nil _ _ _ _,World.ownsRow_nil _ _ _ _,λg h=>(by cases h),λt h=>(by cases h)⟩
section
variable{B:Nat}{w w':World}{v1 v2 v':Value}{ts:List SHd}{ps:List Ac}
theorem Gh.below(h:Gh B w v1 v2 ts ps)(e:Bw w w'):Gh B w' v1 v2 ts ps:=
 ⟨Ah h.o1 e,Ah h.o2 e,h.ne,λt j=>by
  obtain⟨a,b,c⟩:=h.poly t j;exact⟨a.on Aa e,b,λf=>⟨zs1 (c f).1 e.size,(c f).2⟩⟩⟩
theorem Gh.one(h:Gh B w v1 v2 ts ps){t:SHd}(n:w'.ownsRow B 79 5 v' (ts.length+1) (ts.flatMap shC++shC t))(k:w.grownBy w' v1.ownBlock)(o:v'.ownBlock=v1.ownBlock∨v'.ownBlock=some w.heap.size)(r:Ab 2 Ad w (sa t.2.1 0) t.1.poly.length t.1.poly)(v:t.1.poly.length<=t.2.2)(j:0<t.1.poly.length->t.2.1<w.heap.size∧v1.ownBlock≠some t.2.1∧v2.ownBlock≠some t.2.1):Gh B w' v' v2 (ts++[t]) ps:=by
 have key:∀g,g<w.heap.size->v1.ownBlock≠some g->v'.ownBlock≠some g:=λg y m e=>by
  rcases o with q|q
  ·exact m (q.symm.trans e)
  rw[q]at e;injection e with e
  omega
 refine⟨by rw[zr7,zq5];simpa using n,SP h.o2 k (λg e e2=>h.ne g e2 e),λg e e2=>?_,λx l=>?_⟩
 ·exact key g (h.o2.lt g e2).2 (λe3=>h.ne g e3 e2) e
 rcases zr1.1 l with l|l
 ·obtain⟨a,b,c⟩:=h.poly x l;exact⟨K2 a k λf=>⟨(c f).1,(c f).2.1⟩,b,λf=>⟨zs1 (c f).1 k.size,key _ (c f).1 (c f).2.1,(c f).2.2⟩⟩
 obtain rfl:x=t:=by simpa using l
 exact⟨K2 r k λf=>⟨(j f).1,(j f).2.1⟩,v,λf=>⟨zs1 (j f).1 k.size,key _ (j f).1 (j f).2.1,(j f).2.2⟩⟩
theorem Gh.two(h:Gh B w v1 v2 ts ps)(l:w'.ownsRow B 58 7 v' (ps.length+1) (ps.flatMap AN++AN p))(j:w.grownBy w' v2.ownBlock)(m:v'.ownBlock=v2.ownBlock∨v'.ownBlock=some w.heap.size):Gh B w' v1 v' ts (ps++[p]):=by
 have key:∀g,g<w.heap.size->v2.ownBlock≠some g->v'.ownBlock≠some g:=λg o k e=>by
  rcases m with q|q
  ·exact k (q.symm.trans e)
  rw[q]at e;injection e with e
  omega
 refine⟨SP h.o1 j (λg e=>h.ne g e),by rw[zr7,zq5];simpa using l,λg e=>key g (h.o1.lt g e).2 (h.ne g e),λx n=>?_⟩;obtain⟨a,b,c⟩:=h.poly x n;exact⟨K2 a j λf=>⟨(c f).1,(c f).2.2⟩,b,λf=>⟨zs1 (c f).1 j.size,(c f).2.1,key _ (c f).1 (c f).2.2⟩⟩
theorem Xd{Lc:Nat}(h:((Cl cs zs g i).map λx=>CY s x.1 x.2)=L.map .ok)(b:cs.length=Lc)(a:Lc<=48)(e:g<=6)(hi:i<=Lc):L.length<=400∧((Cl cs zs g i).map (·.2)).length<=400:=by
 have f:=kW (cs:=cs) (zs:=zs) (g:=g) (i:=i);have j:=congrArg List.length h;rw[zq6,zq6]at j;have k:=Nat.mul_le_mul a e;rw[b]at f;rw[zq6];omega
theorem Gh.recs{A1 A2:oA}{n1 c1 n2 c2:Nat}(h:Gh B w (.slice A1 n1 c1) (.slice A2 n2 c2) ts ps)(f:ts.length=n1):Ab 5 D6 w A1 n1 (ts.map (·.1))∧n1<=c1:=by
 obtain⟨A',c',e,j,k⟩:=CJ (G:=D6) (g:=λt:SHd=>t.1) wY (f ▸ h.o1) f (λt l=>by
  obtain⟨a,b,_⟩:=h.poly t l;exact⟨some ⟨t.2.1,0,none⟩,t.1.poly.length,t.2.2,rfl,a,b⟩)
 injection e with e _ hC
 rw[e,hC];exact⟨j,k⟩
end
theorem QD(h:Gp x y fl=.error z):z≠0:=by
 unfold Gp at h;split at h
 ·rename_i z' a;injection h with h;subst h;exact Rn a
 split at h
 ·rename_i z' a;injection h with h;subst h;exact Yf a
 cases h
theorem lB{B':Nat}(h:w.ownsRow B e size v n xs)(i:B'<=B):w.ownsRow B' e size v n xs:=by
 refine⟨h.1,?_⟩;rcases h.2 with a|⟨g,cap,cur,b,a,f⟩
 ·exact .inl a
 exact .inr ⟨g,cap,cur,b,by omega,f⟩
def yW(r:Except Int (List Ae×List Ac))(w:World)(e:Ending)(w':World):Prop:=Bw w w'∧match r with
 | .error z=>e=.returned (.tuple #[zn,zn,zi z])
 | .ok x=>∃A c B d,e=.returned (.tuple #[.slice A x.1.length c,.slice B x.2.length d,zi 0])∧Ab 5 D6 w' A x.1.length x.1∧x.1.length<=c∧w'.ownsRow w.heap.size 58 7 (.slice B x.2.length d) x.2.length (x.2.flatMap AN)
theorem QE(s:Al)(Z:oA)(z zc:Nat)(M:oA)(m mc:Nat)(P:oA)(p pc:Nat)(U:oA)(u uc:Nat)(E:oA)(e ec:Nat)(O:oA)(o oc:Nat)(Sa:oA)(n sc:Nat)(zs:List Int)(w:World)(h:Co w s Z z zc M m mc P p pc U u uc E e ec O o oc)(Y:Dj s)(S:Sl w w.heap.size Sa n (Ar zs))(cv:n<=9223372036854775807) :
  CP 16 #[.agg #[.string s.name,.slice Z z zc,.slice M m mc,.slice P p pc,.slice U u uc,.slice E e ec,.slice O o oc],.slice Sa n sc] w (yW (AI s zs) w):=by
 have hB:Bw w (zw w #[.string s.name,.slice Z z zc,.slice M m mc,.slice P p pc,.slice U u uc,.slice E e ec,.slice O o oc] 29):=zA _;have X0:=Blk.new w 29 #[.string s.name,.slice Z z zc,.slice M m mc,.slice P p pc,.slice U u uc,.slice E e ec,.slice O o oc];have HC:=M5 s Z z zc M m mc P p pc U u uc E e ec O o oc (zw w #[.string s.name,.slice Z z zc,.slice M m mc,.slice P p pc,.slice U u uc,.slice E e ec,.slice O o oc] 29) (h.on hB) Y;have G:zs.length=n:=S.ilen;have HZ:=zH S;have HA:=zH h;have bn:=zH Y;have T:=zH hB;have HX:=zH X0;have H:=zH G;have cy:z<=9223372036854775807:=by rw[<-h.sizes.slen];exact Y.szs
 have a7:=zH h.sizes.slen;have bo:=zH h.uses.len;obtain⟨E0,V⟩:=zG (AA s);rw[V]at HC;have HC:=zH HC;by_cases h0:E0=0
 ·subst h0;have t:=zH V;have ar:=zH (λW (hb:Bw w W)=>QA s Z z zc M m mc P p pc U u uc E e ec O o oc W (h.on hb) Y V);by_cases hn:n<1∨6<n
  ·have B:=zH (kY (zs:=zs) V (by rw[G];exact hn));clear hB X0 G V h Y S;rcases hn with hn|hn
   ·obtain rfl:n=0:=zO;go_enter func16,ntmps16;go_wp2_with(go_at_call 32;go_must((refine HC.o.mono ?_);rintro e1 w1 ⟨rfl,a⟩;have f:=zH (zT T.o a);clear a))
    refine bodyPost_ret (v:=.tuple #[zn,zn,zi 3]) (by simp[results,results16,go_sem]) rfl ?_;rw[B.o];exact⟨f.o,rfl⟩
   have bp:(6:Int)<(n:Int):=zO;have bm:¬(n:Int)<1:=zO;go_enter func16,ntmps16;go_wp2_with(go_at_call 32;go_must((refine HC.o.mono ?_);rintro e1 w1 ⟨rfl,a⟩;have f:=zH (zT T.o a);clear a))
   refine bodyPost_ret (v:=.tuple #[zn,zn,zi 3]) (by simp[results,results16,go_sem]) rfl ?_;rw[B.o];exact⟨f.o,rfl⟩
  have HN:=zH (show ¬(zs.length<1∨6<zs.length)by rw[G];exact hn);have n1:1<=n:=zO;have n6:n<=6:=zO;have bp:¬(6:Int)<(n:Int):=zO;have bm:¬(n:Int)<1:=zO;clear hB X0 G V h Y S hn;go_enter func16,ntmps16;go_wp2_with(go_at_call 32;go_must((refine HC.o.mono ?_);rintro e1 w1 ⟨rfl,a⟩;have f:=zH (zT T.o a);have au:=zH (HX.o.below a);clear a))
  obtain⟨x0,x1,x2,x3,x4,x5,x6⟩:=AS au.o
  go_loop [9,34,35,36,37,38,39,40,41,42,43,44,45,46,47] (λ_ i _ _ _ _ _ _ _ _ _ _ _ _ _=>∃j:Nat,j<=n∧i=zi (j:Int)∧Hid (∀(l:Nat)(x:Int),l<j->zs[l]?=some x->0<=x∧x<(s.sizes.length:Int))) (λ_ i _ _ _ _ _ _ _ _ _ _ _ _ _=>n-(intOf i).toNat)
  case atStart=>exact⟨0,zs3 _,rfl,λl x h=>absurd h zO⟩
  case round=>
   obtain⟨j,hj,rfl,HJ⟩:=hrel;by_cases bq:j<n
   ·obtain⟨b,br,y,rfl,bt,hy,c0⟩:=(HZ.o.on f.o).int_ bq;have HY:=zH hy;obtain⟨i1,i2⟩:=zI (k:=j) (n:=n) (by omega);clear hy;by_cases g1:y<0
    ·have B:=zH (VO t.o HN.o HY.o (.inl g1))
     go_wp2_with fail
     refine bodyPost_ret (v:=.tuple #[zn,zn,zi 3]) (by simp[results,results16,go_sem]) rfl ?_;rw[B.o];exact⟨f.o,rfl⟩
    by_cases g2:(z:Int)<=y
    ·have B:=zH (VO t.o HN.o HY.o (.inr (by rw[a7.o];exact g2)))
     go_wp2_with fail
     refine bodyPost_ret (v:=.tuple #[zn,zn,zi 3]) (by simp[results,results16,go_sem]) rfl ?_;rw[B.o];exact⟨f.o,rfl⟩
    have bu:Hid (∀(l:Nat)(x:Int),l<j+1->zs[l]?=some x->0<=x∧x<(s.sizes.length:Int)):=λl x hl D=>by
     by_cases e:l=j
     ·subst e;rw[HY.o]at D;obtain rfl:=zs6 D;rw[a7.o];omega
     exact HJ.o l x zO D
    go_wp2_with fail
    go_round
    case rel=>exact⟨j+1,by omega,by go_num,bu⟩
    case measure=>exact zM
   obtain rfl:j=n:=zO;have a0:Hid (∀(l:Nat)(x:Int),zs[l]?=some x->0<=x∧x<(s.sizes.length:Int)):=λl x D=>HJ.o l x (by have:=(zq1.1 D).1;rw[H.o]at this;exact this) D
   have bv:=zH (Nz (λx D=>(Du t.o x D).2.2.2) s.uses.length (zs2 _));have a8:=bv.o;rw[<-Ms t.o]at a8;have cz:=(ID t.o).2;have bw:=zH (λp (X:p∈AP s)=>Jk X);have bx:=zH (λhl=>rS (s:=s) (zs:=zs) t.o HN.o a0.o hl);have bz:=zH (λhl (g i:Nat) (p:Ac) (x y:Int) (L:List Ae)=>rT (s:=s) (zs:=zs) (g:=g) (i:=i) (p:=p) (z:=x) (e:=y) (L:=L) t.o HN.o a0.o hl);have c3:=zH (λhl (L:List Ae)=>rU (s:=s) (zs:=zs) (L:=L) t.o HN.o a0.o hl);have c4:=zH (λ(g i:Nat)(p:Ac)(x:Int)(L:List Ae)(q:Ae)=>rV (s:=s) (zs:=zs) (g:=g) (i:=i) (p:=p) (z:=x) (L:=L) (q:=q));have F:=ar.o w1 f.o;generalize AP s=cs at *
   obtain⟨Lc,a1⟩:=zG cs.length;unfold tC at F;rw[a1]at F a8;have av:=zH a1;have F:=zH F;obtain⟨K,hK⟩:=zG (Lc*j);have a9:Lc<=48:=zO;have d7:K<=288:=by rw[<-hK];exact zs0 (Nat.mul_le_mul a9 n6) zD
   have aw:(Lc:Int)*(j:Int)=(K:Int):=by rw[<-hK];simp
   have c5:IntKind.i64.wrap ((Lc:Int)*(j:Int))=(K:Int):=by rw[aw];exact zs5 _ zO
   have HK:=zH (show cs.length*zs.length=K by rw[a1,H.o,hK]);clear a1 hK a8 ar HJ;by_cases aa:60<K
   ·have B:=zH (bx.o (by rw[HK.o];exact aa));have ax:(60:Int)<(K:Int):=zO;go_wp2_with(go_at_call 11;go_must((refine F.o.mono ?_);rintro e3 w3 ⟨A0,c0,rfl,a2,c6,I⟩;have C:=zH (zT f.o I);clear I a2))
    refine bodyPost_ret (v:=.tuple #[zn,zn,zi 5]) (by simp[results,results16,go_sem]) rfl ?_;rw[B.o];exact⟨C.o,rfl⟩
   have ax:¬(60:Int)<(K:Int):=zO;have ay:=zH (show ¬60<cs.length*zs.length by rw[HK.o];exact aa);go_wp2_with(go_at_call 11;go_must((refine F.o.mono ?_);rintro e3 w3 ⟨A0,c0,rfl,a2,c6,I⟩;have C:=zH (zT f.o I);have c9:=zH (au.o.below I);have ca:=zH a2;clear I a2))
   clear aw c5 ax x0 x1 x2 x3 x4 x5 x6;obtain⟨n,rfl⟩:=zE j
   go_loopw[11,12,13,14,16,17,18,58,59,60,61,62,63,64,65,66,67,68,69,70,71,72,73,74,75,76,77,78,79,80,81,82,83,84,85,86,87,88,89,90] (λv1 v2 _ _ _ _ _ i _ _ _ _ _ _ _ _ _ _ _ _ _ _ _ _ _ _ _ _ _ _ _ _ _ _ _ _ _ _ _ _ wr=>∃(g:Nat)(A1:oA)(c1:Nat)(A2:oA)(c2:Nat)(ts:List SHd)(ps:List Ac),g<=n∧i=zi (g:Int)∧v1=.slice A1 ts.length c1∧v2=.slice A2 ps.length c2∧Hid (Gh w3.heap.size wr (.slice A1 ts.length c1) (.slice A2 ps.length c2) ts ps)∧Hid (((Cl cs zs g 0).map λx=>CY s x.1 x.2)=(ts.map (·.1)).map .ok)∧Hid (ps=((Cl cs zs g 0).map (·.2)))∧Hid (Bw w3 wr)) (λv1 v2 _ _ _ _ _ i _ _ _ _ _ _ _ _ _ _ _ _ _ _ _ _ _ _ _ _ _ _ _ _ _ _ _ _ _ _ _ _ _=>n-(intOf i).toNat)
   case atStart=>exact⟨0,none,0,none,0,[],[],zs3 _,rfl,rfl,rfl,zH (Gh.start _ _),zH rfl,zH rfl,zH zJ⟩
   case round=>
    obtain⟨g,A1,c1,A2,c2,ts,ps,hg,rfl,rfl,rfl,Q,HI,HP,ab⟩:=hrel;obtain⟨wo,rfl⟩:=zE wr;by_cases az:g<n
    ·obtain⟨b,br,y,rfl,bt,hy,c0'⟩:=(HZ.o.on (zT C.o ab.o)).int_ az;have HY:=zH hy;have d8:=a0.o g y hy;obtain⟨k,rfl⟩:∃k:Nat,y=(k:Int):=⟨y.toNat,by omega⟩;have ac:k<s.sizes.length:=zO;obtain⟨yy,b0⟩:∃yy,s.multiples[k]?=some yy:=⟨_,zq0 (by rw[QC t.o];exact ac)⟩;have b1:=zH b0;have b2:=zH ac;clear b0 ac;obtain⟨i1,i2⟩:=zI (k:=g) (n:=n) (by omega);clear hy
     go_wp2_with fail
     go_loopw[11,12,16,17,18,65,66,67,68,69,70,71,72,73,74,75,76,77,78,79,80,81,82,83,84,85,86,87,88,89] (λv1 v2 _ _ _ i _ _ _ _ _ _ _ _ _ _ _ _ _ _ _ _ _ _ _ _ _ _ _ _ wq=>∃(i0:Nat)(A1:oA)(c1:Nat)(A2:oA)(c2:Nat)(ts:List SHd)(ps:List Ac),i0<=Lc∧i=zi (i0:Int)∧v1=.slice A1 ts.length c1∧v2=.slice A2 ps.length c2∧Hid (Gh w3.heap.size wq (.slice A1 ts.length c1) (.slice A2 ps.length c2) ts ps)∧Hid (((Cl cs zs g i0).map λx=>CY s x.1 x.2)=(ts.map (·.1)).map .ok)∧Hid (ps=((Cl cs zs g i0).map (·.2)))∧Hid (Bw w3 wq)) (λv1 v2 _ _ _ i _ _ _ _ _ _ _ _ _ _ _ _ _ _ _ _ _ _ _ _ _ _ _ _ _=>Lc-(intOf i).toNat)
     case atStart=>exact⟨0,A1,c1,A2,c2,ts,ps,zs3 _,rfl,rfl,rfl,Q,HI,HP,ab⟩
     case round=>
      obtain⟨i0,A1,c1,A2,c2,ts,ps,cb,rfl,rfl,rfl,Q,HI,HP,J⟩:=hrel;by_cases cc:i0<Lc
      ·obtain⟨b7,cw,pp,rfl,d9,X,d0,d1,d2,d3,d4,d5,d6⟩:=EB (ca.o.on Ba J.o) cc;have b3:=bw.o pp (zq2 X);obtain⟨ju,hj⟩:∃ju:Nat,pp.use=(ju:Int):=⟨pp.use.toNat,by omega⟩;have a3:ju<s.uses.length:=zO;obtain⟨v,hv⟩:∃v,s.uses[ju]?=some v:=⟨_,zq0 a3⟩;have b4:=Du t.o v (zq2 hv);have ae:v.piece.toNat<s.pieces.length:=zO;obtain⟨x,D⟩:∃x,s.pieces[v.piece.toNat]?=some x:=⟨_,zq0 ae⟩;have af:=VN (p:=({ pp with garment:=(g:Int) }:Ac)) t.o b2.o hv D b1.o hj
       have a4:Bw w (zw wr #[zi pp.garment,zi (ju:Int),zi pp.copy,.bool pp.turn.flip,zi pp.turn.quarter,zi pp.at_.1,zi pp.at_.2] 58):=Below.alo (zT C.o J.o) _;have a5:=Xb s Z z zc M m mc P p pc U u uc E e ec O o oc (zw wr #[zi pp.garment,zi (ju:Int),zi pp.copy,.bool pp.turn.flip,zi pp.turn.quarter,zi pp.at_.1,zi pp.at_.2] 58) (HA.o.on a4) bn.o t.o k ju (by rw[<-a7.o];exact b2.o) (by rw[<-bo.o];exact a3) v hv x D yy b1.o pp.garment pp.copy pp.turn.flip pp.turn.quarter pp.at_.1 pp.at_.2;rw[hj]at d1;obtain⟨x0,x1,x2,x3,x4,x5,x6⟩:=AS ((c9.o.below J.o).alloc (.cells #[zi pp.garment,zi (ju:Int),zi pp.copy,.bool pp.turn.flip,zi pp.turn.quarter,zi pp.at_.1,zi pp.at_.2] 58));have ag:({ pp with garment:=(g:Int) }:Ac)=(⟨(g:Int),(ju:Int),pp.copy,pp.turn,pp.at_⟩:Ac):=by rw[<-hj]
       have X5:=Blk.new wr 58 #[zi pp.garment,zi (ju:Int),zi pp.copy,.bool pp.turn.flip,zi pp.turn.quarter,zi pp.at_.1,zi pp.at_.2];obtain⟨f0,f1,f2,f3,f4,f5,f6⟩:=Db X5;obtain⟨r,hr⟩:=zG (Gp x yy pp.turn.flip);have R:CY s (k:Int) ({ pp with garment:=(g:Int) }:Ac)=r:=af.trans hr
       obtain⟨b5,b6⟩:=Xd HI.o av.o a9 zO cb;rw[<-HP.o]at b6;rw[zq6]at b5;have ah:=QB (cs:=cs) (zs:=zs) X HY.o;rw[hr]at a5;have cd:=zH ag;have ce:=zH X5;have b8:=zH a5;have b9:=zH a4;have cf:=zH ah;obtain⟨i3,i4⟩:=zI (k:=i0) (n:=Lc) (by omega)
       cases r with
       | error er=>
        have S:=QD hr;have cg:(er != 0)=true:=by simpa using S
        have B:=zH (bz.o ay.o _ _ _ _ _ _ (by rw[H.o];exact az) X HY.o HI.o R);clear a5 a4 X5 ag hr af R D ae b4 hv a3 hj b3 X S ah b6 b5;go_wp2_with(go_at_call 37;go_must((refine b8.o.mono ?_);rintro e4 u1 ⟨N,rfl⟩;have ch:=zH (zT b9.o N);clear N))
        refine bodyPost_ret (v:=.tuple #[zn,zn,zi er]) (by simp[results,results16,go_sem]) rfl ?_;rw[B.o];exact⟨Below.alo ch.o _,rfl⟩
       | ok q=>
        have ci:=zH (c4.o _ _ _ _ _ _ X HY.o HI.o R);clear a5 a4 X5 ag hr af R D ae b4 hv a3 hj b3 X ah
        go_wp2_with(first
         | (go_at_call 37;go_must((refine b8.o.mono ?_);rintro e4 u1 ⟨N,gq,cq,rfl,ba,bb,bc⟩;have bd:wr.heap.size+1<=gq:=(by simpa using ba);have X6:=ce.o.below N;have X7:Blk (u1.setCell (ad wr.heap.size 0) (zi (g:Int))) wr.heap.size 58 #[zi (g:Int),zi (ju:Int),zi pp.copy,.bool pp.turn.flip,zi pp.turn.quarter,zi pp.at_.1,zi pp.at_.2]:=X6.set_ 0 _;have X8:Blk (((u1.setCell (ad wr.heap.size 0) (zi (g:Int))).alloc (.cells #[.slice (sa gq 0) q.poly.length cq,zi q.grain,.bool q.match_,zi q.anchor.1,zi q.anchor.2] 79)).alloc (.cells #[.slice (sa gq 0) q.poly.length cq,zi q.grain,.bool q.match_,zi q.anchor.1,zi q.anchor.2] 79)) wr.heap.size 58 #[zi (g:Int),zi (ju:Int),zi pp.copy,.bool pp.turn.flip,zi pp.turn.quarter,zi pp.at_.1,zi pp.at_.2]:=(X7.alloc _).alloc _;have Y5:Blk ((u1.setCell (ad wr.heap.size 0) (zi (g:Int))).alloc (.cells #[.slice (sa gq 0) q.poly.length cq,zi q.grain,.bool q.match_,zi q.anchor.1,zi q.anchor.2] 79)) u1.heap.size 79 #[.slice (sa gq 0) q.poly.length cq,zi q.grain,.bool q.match_,zi q.anchor.1,zi q.anchor.2]:=Blk.new' _ _ _ zP;have a:Bw wr u1:=(zA _).trans (N.mono zP);have be:Bw wr (u1.setCell (ad wr.heap.size 0) (zi (g:Int))):=a.setCell (zs2 _) _;have ai:Bw wr (((u1.setCell (ad wr.heap.size 0) (zi (g:Int))).alloc (.cells #[.slice (sa gq 0) q.poly.length cq,zi q.grain,.bool q.match_,zi q.anchor.1,zi q.anchor.2] 79)).alloc (.cells #[.slice (sa gq 0) q.poly.length cq,zi q.grain,.bool q.match_,zi q.anchor.1,zi q.anchor.2] 79)):=Below.alo (Below.alo be _) _;have aj:Ab 2 Ad (((u1.setCell (ad wr.heap.size 0) (zi (g:Int))).alloc (.cells #[.slice (sa gq 0) q.poly.length cq,zi q.grain,.bool q.match_,zi q.anchor.1,zi q.anchor.2] 79)).alloc (.cells #[.slice (sa gq 0) q.poly.length cq,zi q.grain,.bool q.match_,zi q.anchor.1,zi q.anchor.2] 79)) (sa gq 0) q.poly.length q.poly:=((((Bk.refl _ _).set_ (zs7 _) _ _).below (zA _)).below (zA _)).recs bb bd (λ_ _ _ h=>h);have bf:0<q.poly.length->gq<(((u1.setCell (ad wr.heap.size 0) (zi (g:Int))).alloc (.cells #[.slice (sa gq 0) q.poly.length cq,zi q.grain,.bool q.match_,zi q.anchor.1,zi q.anchor.2] 79)).alloc (.cells #[.slice (sa gq 0) q.poly.length cq,zi q.grain,.bool q.match_,zi q.anchor.1,zi q.anchor.2] 79)).heap.size∧(Value.slice A1 ts.length c1).ownBlock≠some gq∧(Value.slice A2 ps.length c2).ownBlock≠some gq:=(λh0=>⟨rW aj h0,λe=>by have:=(Q.o.o1.lt _ e).2;omega,λe=>by have:=(Q.o.o2.lt _ e).2;omega⟩);have cj:Hid (∀(j:Nat)(u:Value),(shC (q,gq,cq))[j]?=some u->(((u1.setCell (ad wr.heap.size 0) (zi (g:Int))).alloc (.cells #[.slice (sa gq 0) q.poly.length cq,zi q.grain,.bool q.match_,zi q.anchor.1,zi q.anchor.2] 79)).alloc (.cells #[.slice (sa gq 0) q.poly.length cq,zi q.grain,.bool q.match_,zi q.anchor.1,zi q.anchor.2] 79)).cell? ((⟨u1.heap.size+1,0,none⟩:Addr).add j)=some u):=(lA _ (q,gq,cq) 79 _ zP);have ck:=zH X8;have ak:=zH (Q.o.below ai);have cl:=zH aj;have cm:=zH bf;have cn:=zH bc;have bg:=zH (zT J.o ai);have bh:Hid (w3.heap.size<=_):=zH (bg.o.size);have co:Hid ((some wr.heap.size:Option Nat)≠(Value.slice A1 ts.length c1).ownBlock):=(λe=>by have:=(Q.o.o1.lt _ e.symm).2;omega);obtain⟨k0,k1,k2,k3,k4⟩:=Ff Y5;have cx:=X6.lt;have z0:=X6.frozen 0;obtain⟨f0,f1,f2,f3,f4,f5,f6⟩:=Db X6;clear N bb ba bc bd X6 X7 X8 Y5 a be ai aj bf))
         | (at_builtin;refine Bt (P:=prog) (by rfl) _ _ 73 (by rfl) w3.heap.size 79 (.agg #[zn,zi 0,zF,zi 0,zi 0]) 5 56 underlying73 bJ rfl zD (.slice A1 ts.length c1) ts.length (ts.flatMap shC) (by rfl) ak.o.o1 ⟨u1.heap.size+1,0,none⟩ 1 1 (shC (q,gq,cq)) (by rfl) (by rfl) cj.o (wZ _) zU zO bh.o ?_;intro v7 w7 al a6 bi;obtain⟨A7,c7,rfl⟩:=AX al;have am:=zH (ak.o.one al a6 bi cl.o cn.o cm.o);have an:=zH (Ax bg.o a6 bh.o (λg e=>(ak.o.o1.lt g e).1));have X9:=ck.o.grown a6 co.o;obtain⟨m0,m1,m2,m3,m4,m5,m6⟩:=Db X9;clear al a6 bi X9)
         | (at_builtin;refine Bt (P:=prog) (by rfl) _ _ 38 (by rfl) w3.heap.size 58 (.agg #[zi 0,zi 0,zi 0,zF,zi 0,zi 0,zi 0]) 7 56 underlying38 Ge rfl zD (.slice A2 ps.length c2) ps.length (ps.flatMap AN) (by rfl) (Ah am.o.o2 (zA _)) ⟨w7.heap.size,0,none⟩ 1 1 (AN (⟨(g:Int),(ju:Int),pp.copy,pp.turn,pp.at_⟩:Ac)) (by rfl) (by rfl) (Hf w7 (⟨(g:Int),(ju:Int),pp.copy,pp.turn,pp.at_⟩:Ac) 58) (Gf _) zU zO (Below.alo an.o _).size ?_;intro v8 w8 ao ap bj;obtain⟨A8,c8,rfl⟩:=AX ao;have cp:=zH ((am.o.below (zA _)).two ao ap bj);have cr:=zH (Ax (Below.alo an.o _) ap (Below.alo an.o _).size (λg e=>(am.o.o2.lt g e).1));clear ao ap bj))
        go_roundw
        case rel=>exact⟨i0+1,A7,c7,A8,c8,ts++[(q,gq,cq)],ps++[(⟨(g:Int),(ju:Int),pp.copy,pp.turn,pp.at_⟩:Ac)],by omega,by go_num,by simp,by simp,zH (by simpa using cp.o),zH (by rw[zr0];exact ci.o),zH (by rw[cf.o,zr0,<-HP.o,<-cd.o];rfl),cr⟩
        case measure=>exact zM
      obtain rfl:i0=Lc:=zO;have aq:Cl cs zs (g+1) 0=Cl cs zs g i0:=by rw[kV,av.o]
      have bk:=zH aq;clear aq
      go_wp2_with fail
      go_roundw
      case rel=>exact⟨g+1,A1,c1,A2,c2,ts,ps,by omega,by go_num,rfl,rfl,Q,zH (by rw[bk.o];exact HI.o),zH (by rw[bk.o];exact HP.o),J⟩
      case measure=>exact zM
    obtain rfl:n=g:=zO;have B:=zH (c3.o ay.o _ (by rw[H.o];exact HI.o))
    go_wp2_with fail
    refine bodyPost_ret (v:=.tuple #[.slice A1 ts.length c1,.slice A2 ps.length c2,zi 0]) (by simp[results,results16,go_sem]) rfl ?_;obtain⟨ct,cu⟩:=Q.o.recs rfl;have bl:=HP.o;rw[B.o];refine⟨zT C.o ab.o,A1,c1,A2,c2,?_,?_,?_,?_⟩
    ·rw[zq6,H.o,<-bl]
    ·rw[zq6];exact ct
    ·rw[zq6];exact cu
    rw[H.o,<-bl];exact lB Q.o.o2 C.o.size
 have cg:(E0 != 0)=true:=by simpa using h0
 have B:=zH (kX (zs:=zs) V h0);clear hB X0 G V h Y S h0;go_enter func16,ntmps16;go_wp2_with(go_at_call 32;go_must((refine HC.o.mono ?_);rintro e1 w1 ⟨rfl,a⟩;have f:=zH (zT T.o a);clear a))
 refine bodyPost_ret (v:=.tuple #[zn,zn,zi E0]) (by simp[results,results16,go_sem]) rfl ?_;rw[B.o];exact⟨f.o,rfl⟩
structure StI{α : Type}(B g:Nat)(ix : α->Int)(w0:World)(d:Array α)(w:World):Prop where
 gb:GB B g w0 w
 blk:Blk w g 3 (d.map λx=>zi (ix x))
section
variable{α : Type}{B g:Nat}{ix : α->Int}{w0 w w':World}{d:Array α}
theorem StI.below(h:StI B g ix w0 d w)(b:B<=w0.heap.size)(a:Bw w w'):StI B g ix w0 d w':=⟨h.gb.trans (GB.of (a.mono (zs0 b h.gb.size))),h.blk.below a⟩
theorem StI.drew(h:StI B g ix w0 d w):StI B g ix w0 d w.drew:=⟨h.gb.drewN 1,h.blk.drew⟩
theorem StI.cell[Inhabited α](h:StI B g ix w0 d w)(a:j<d.size):w.cell? (ad g j)=some (zi (ix d[j]!)):=h.blk.c (by
 rw[Array.getElem?_map,getElem!_pos d j a,Array.getElem?_eq_getElem a];rfl)
theorem StI.swap[Inhabited α](h:StI B g ix w0 d w)(i j:Nat):StI B g ix w0 (Go.Sort.swp d i j) ((w.setCell (ad g i) (zi (ix d[j]!))).setCell (ad g j) (zi (ix d[i]!))):=by
 refine⟨(h.gb.set_ i _).set_ j _,?_⟩;have:=(h.blk.set_ i (zi (ix d[j]!))).set_ j (zi (ix d[i]!));unfold Go.Sort.swp;rw[Array.map_setIfInBounds,Array.map_setIfInBounds];exact this
end
theorem bK[Inhabited α](ix : α->Int)(cf : α->α->Int)(q B g cap a b:Nat)(d:Array α)(w0 w:World)(S:B<=w0.heap.size)
  (z:0<d.size->∀W,GB B g w0 W->∀x y : α,CP 18 #[zi (ix x),zi (ix y),.pointer (sa q 0)] W (zR (zi (cf x y)) W))
  (h:StI B g ix w0 d w) (a5:a<=b) (hb:b<=d.size) (a6:d.size<4611686018427387904) :
  CP 63 #[.slice (sa g 0) d.size cap,zi (a:Int),zi (b:Int),.func (.func 18) #[] #[.pointer (sa q 0)]] w λe w'=>e=.returned (.tuple #[])∧StI B g ix w0 (Go.Sort.insertionSort (λx y=>decide (cf x y<0)) d a b) w':=by
 have T:=zH z;have HS:=zH h;have N:=zH S;clear z h S;go_enter func63,ntmps63
 go_wp2_with fail
 go_loopw[8,9,12,13,14,15,16,17,18,19,20,21,22,23,24,25,26,27,28,29,30,31,32,33,34,35,36,37,38,39,40,41,42,43,44,45,46,47,48,49,50,51,52] (λvi _ _ _ _ _ _ _ _ _ _ _ _ _ _ _ _ _ _ _ _ _ _ _ _ _ _ _ _ _ _ _ _ _ _ _ _ _ _ _ _ _ _ wr=>∃(i:Nat)(dk:Array α),vi=zi (i:Int)∧a<i∧i<=b+1∧dk.size=d.size∧Hid (StI B g ix w0 dk wr)∧Hid (Go.Sort.insOuter (λx y=>decide (cf x y<0)) a b i dk=Go.Sort.insOuter (λx y=>decide (cf x y<0)) a b (a+1) d)) (λvi _ _ _ _ _ _ _ _ _ _ _ _ _ _ _ _ _ _ _ _ _ _ _ _ _ _ _ _ _ _ _ _ _ _ _ _ _ _ _ _ _ _ _=>b+1-(intOf vi).toNat)
 case atStart=>exact⟨a+1,d,by go_num,by omega,by omega,rfl,HS,zH rfl⟩
 case round=>
  obtain⟨i,dk,rfl,a7,a8,U,V,Z⟩:=hrel;obtain⟨wo,rfl⟩:=zE wr;by_cases J:i<b
  ·have O:(i:Int)<(b:Int):=zO
   go_wp2_with fail
   go_loopw[9,18,19,20,21,22,23,24,25,26,27,28,29,30,31,32,33,34,35,36,37,38,39,40,41,42,43,44,45,46,47,48,49,50,51,52] (λvj _ _ _ _ _ _ _ _ _ _ _ _ _ _ _ _ _ _ _ _ _ _ _ _ _ _ _ _ _ _ _ _ _ _ _ wq=>∃(j:Nat)(dj:Array α),vj=zi (j:Int)∧a<=j∧j<=i∧dj.size=d.size∧Hid (StI B g ix w0 dj wq)∧Hid (Go.Sort.insInner (λx y=>decide (cf x y<0)) a j dj=Go.Sort.insInner (λx y=>decide (cf x y<0)) a i dk)) (λvj _ _ _ _ _ _ _ _ _ _ _ _ _ _ _ _ _ _ _ _ _ _ _ _ _ _ _ _ _ _ _ _ _ _ _ _=>(intOf vj).toNat)
   case atStart=>exact⟨i,dk,rfl,by omega,zs2 _,U,V,zH rfl⟩
   case round=>
    obtain⟨j,dj,rfl,a9,aa,C,k,HI⟩:=hrel
    have OUT:=zH (show(j<=a∨(λx y=>decide (cf x y<0)) dj[j]! dj[j-1]! = false)->Go.Sort.insOuter (λx y=>decide (cf x y<0)) a b (i+1) dj=Go.Sort.insOuter (λx y=>decide (cf x y<0)) a b (a+1) d from λhs=>by
     rw[<-Z.o,insOuter_go _ _ _ _ _ J,<-HI.o,insInner_stop _ _ _ _ hs])
    by_cases a0:a<j
    ·obtain⟨jp,rfl⟩:∃jp,j=jp+1:=⟨j-1,by omega⟩;have cj:=k.o.cell (j:=jp+1) zO;have cp:=k.o.cell (j:=jp) zO;simp only[Nat.add_sub_cancel]at OUT;obtain⟨xj,r⟩:=zG (dj[jp+1]!);obtain⟨xp,s⟩:=zG (dj[jp]!);have K:=zH r;have L:=zH s;rw[r]at cj;rw[s]at cp;rw[r,s]at OUT;have a1:=T.o zO wr k.o.gb xj xp;have m:=zH (λW (H:Bw wr W)=>T.o zO W (k.o.below N.o H).gb xj xp);obtain⟨v,l⟩:=zG (cf xj xp);have HV:=zH l;rw[l]at m;obtain⟨X,P⟩:=zG (ix xj);obtain⟨Y,Q⟩:=zG (ix xp);have a2:=zH P;have a3:=zH Q;rw[P]at cj m;rw[Q]at cp m;have t:=k.o.blk.lt;clear r s a1 l P Q;have ab:IntKind.i64.wrap (jp:Int)=(jp:Int):=zs5 _ zO;have a4:IntKind.i64.wrap ((jp:Int)+1)=(jp:Int)+1:=zs5 _ zO;have jz:(jp:Int)+1<(d.size:Int):=zO;have jz1:(jp:Int)<(d.size:Int):=zO;have I:(a:Int)<(jp:Int)+1:=zO;have R:decide ((a:Int)<(jp:Int)+1)=true:=zu1 I;have p0:(0:Int)<=(jp:Int)+1:=zO;have e0:((jp:Int)+1).toNat=jp+1:=zO;have f:=Below.refl wr.heap.size wr;have D:=zH (λW (H:Bw wr W)=>(⟨(H.cell (p:=ad g (jp+1)) t).trans cj,(H.cell (p:=ad g jp) t).trans cp⟩:W.cell? (ad g (jp+1))=some (zi X)∧W.cell? (ad g jp)=some (zi Y)));by_cases M:v<0
     ·have n:decide (v<0)=true:=zu1 M
      go_wp2_with fail
      go_region_held3(λw'=>w'.cell? (ad g (jp+1))=some (zi X)∧w'.cell? (ad g jp)=some (zi Y))
       ((refine D.o _ ?_;repeat(first|(with_reducible exact zJ)|(with_reducible exact f)|(with_reducible refine Below.drew ?_))))
       ((go_at_call 18;go_must((refine(m.o _ zB).mono ?_);rintro e w1 ⟨rfl,l⟩;replace f:=Ag f l;clear l)))
      all_goals
       obtain⟨cj2,cp2⟩:=D.o _ f;have E:=zH (k.o.below N.o f);have fj2:=E.o.blk.frozen (jp+1);have fp2:=E.o.blk.frozen jp;clear f cj cp t
       go_wp2_with fail
       obtain⟨j1,F⟩:=zE (jp+1);rw[<-F]at cj2 fj2 e0;have J1:Hid (j1=jp+1):=F;clear F
       go_big_region
       all_goals go_wp2
       refine⟨⟨jp,Go.Sort.swp dj (jp+1) jp,rfl,by omega,by omega,by rw[Go.Sort.size_swp];exact C,zH ?_,zH ?_⟩,by simp[intOf]⟩
       ·have G:=(E.o.swap (jp+1) jp).drew;rw[K.o,L.o,a2.o,a3.o]at G;rw[J1.out];exact G
       have G:=insInner_go (λx y=>decide (cf x y<0)) a (jp+1) dj a0 (by simp only[Nat.add_sub_cancel];rw[K.o,L.o,HV.o];exact n);simp only[Nat.add_sub_cancel]at G;rw[<-G,HI.o]
     have n:decide (v<0)=false:=zu0 M
     go_wp2_with fail
     go_region_held3(λw'=>w'.cell? (ad g (jp+1))=some (zi X)∧w'.cell? (ad g jp)=some (zi Y))
      ((refine D.o _ ?_;repeat(first|(with_reducible exact zJ)|(with_reducible exact f)|(with_reducible refine Below.drew ?_))))
      ((go_at_call 18;go_must((refine(m.o _ zB).mono ?_);rintro e w1 ⟨rfl,l⟩;replace f:=Ag f l;clear l)))
     all_goals
      have E:=zH (k.o.below N.o f);clear f cj cp t
      go_wp2_with fail
      go_roundw
      case rel=>exact⟨i+1,dj,by go_num,by omega,by omega,C,E,zH (OUT.out (.inr (by rw[HV.o];exact n)))⟩
      case measure=>exact zM
    have R:decide ((a:Int)<(j:Int))=false:=zu0 zO;have ac:¬(a:Int)<(j:Int):=zO
    go_wp2_with fail
    go_quiet (fail)
    go_wp2_with fail
    go_roundw
    case rel=>exact⟨i+1,dj,by go_num,by omega,by omega,C,zH ⟨k.o.gb.drewN _,k.o.blk.drewN _⟩,zH (OUT.out (.inl zO))⟩
    case measure=>exact zM
  have O:¬(i:Int)<(b:Int):=zO
  go_wp2_with fail
  go_end0;exact⟨rfl,by unfold Go.Sort.insertionSort;rw[<-Z.o,insOuter_stop _ _ _ _ _ J];exact V.o⟩
theorem bM[Inhabited α](ix : α->Int)(cf : α->α->Int)(q B g cap:Nat)(d:Array α)(w0 w:World)(b:B<=w0.heap.size)
  (a:0<d.size->∀W,GB B g w0 W->∀x y : α,CP 18 #[zi (ix x),zi (ix y),.pointer (sa q 0)] W (zR (zi (cf x y)) W))
  (h:StI B g ix w0 d w) (f:d.size<20) :
  CP 38 #[.slice (sa g 0) d.size cap,zi (d.size:Int),.func (.func 18) #[] #[.pointer (sa q 0)]] w λe w'=>e=.returned (.tuple #[])∧StI B g ix w0 (Go.Sort.insertionSort (λx y=>decide (cf x y<0)) d 0 d.size) w':=by
 have i:=zH (bK ix cf q B g cap 0 d.size d w0 w b a h (zs3 _) (zs2 _) zO);clear a h b;obtain⟨n,j⟩:=zG d.size;rw[j]at i f⊢
 generalize Go.Sort.insertionSort (λx y=>decide (cf x y<0)) d 0 n=d' at *
 clear j;have r:¬(20:Int)<=(n:Int):=zO;have s:¬(20:Int)<(n:Int):=zO;go_enter func38,ntmps38
 go_wp2_with fail
 go_loopw[7,8,11,12,13,14,15,16,17,18,19,20,21,22] (λv7 v8 _ _ _ _ _ _ _ _ _ _ _ _ wr=>v7=zi 0∧v8=zi 20∧Hid (wr=w)) (λv7 v8 _ _ _ _ _ _ _ _ _ _ _ _ _=>0)
 case atStart=>exact⟨rfl,rfl,zH rfl⟩
 case round=>
  obtain⟨rfl,rfl,l⟩:=hrel;obtain rfl:=l.o;go_wp2_with(go_at_call 63;go_must((refine i.o.mono ?_);rintro e w1 ⟨rfl,k⟩;have m:=zH k;clear k))
  go_loopw[6,7,8,9,28,29,30,31,32,33,34,35,36,37,38,39,40,41,42,43,44,45,46,47,48,49,50,51,52,53,54,55,56,57,58,59,60,61,62] (λv6 _ _ _ _ _ _ _ _ _ _ _ _ _ _ _ _ _ _ _ _ _ _ _ _ _ _ _ _ _ _ _ _ _ _ _ _ _ _ wq=>v6=zi 20∧Hid (wq=w1)) (λv6 _ _ _ _ _ _ _ _ _ _ _ _ _ _ _ _ _ _ _ _ _ _ _ _ _ _ _ _ _ _ _ _ _ _ _ _ _ _ _=>0)
  case atStart=>exact⟨rfl,zH rfl⟩
  case round=>
   obtain⟨rfl,p⟩:=hrel;obtain rfl:=p.o
   go_wp2_with fail
   go_end0;exact⟨rfl,m.o⟩
theorem bN[Inhabited α](ix : α->Int)(cf : α->α->Int)(q B g cap:Nat)(d:Array α)(w0 w:World)(b:B<=w0.heap.size)
  (a:0<d.size->∀W,GB B g w0 W->∀x y : α,CP 18 #[zi (ix x),zi (ix y),.pointer (sa q 0)] W (zR (zi (cf x y)) W))
  (h:StI B g ix w0 d w) (f:d.size<20) :
  CP 17 #[.slice (sa g 0) d.size cap,.func (.func 18) #[] #[.pointer (sa q 0)]] w λe w'=>e=.returned (.tuple #[])∧StI B g ix w0 (Go.Sort.insertionSort (λx y=>decide (cf x y<0)) d 0 d.size) w':=by
 have j:=zH (bM ix cf q B g cap d w0 w b a h f);clear a h b;go_enter func17,ntmps17;go_wp2_with(go_at_call 38;go_must((refine j.o.mono ?_);rintro e w1 ⟨rfl,i⟩;have k:=zH i;clear i))
 go_end0;exact⟨rfl,k.o⟩
end Go.Proofs.YteafekbddckemaaGreatDoor
