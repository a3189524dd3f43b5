/- Parts of the proof. -/
import Derived.Test.YteafekbddckemaaGreatDoorH22
set_option maxRecDepth 100000
set_option maxHeartbeats 40000000
namespace Go.Proofs.YteafekbddckemaaGreatDoor
open Tryz Go.RowKit
open Go.Lib hiding intOf
variable{A:oA}{T:TypeId}{a c g j k n:Nat}{b l r x y:lP}{cs:aV}{d p q:Pt}{e:Ending}{v v':Value}{w w' w1 w2:World}{xs:lV}{z:Int}
theorem O4(x:Pt):CF x x=false:=by rw[Gc];omega
theorem Rc{x y z:Pt}(a:CF x y=true)(b:CF y z=true):CF x z=true:=by
 rw[GL]at *
 omega
theorem L8{x y:Pt}(h:x≠y)(a:CF x y=false):CF y x=true:=by
 rw[Gc]at a;rw[GL];have:¬(x.1=y.1∧x.2=y.2):=λe=>h (Prod.ext e.1 e.2)
 omega
theorem Rd(x:Pt):∀{l:lP}{q:Pt},q∈LL x l↔q=x∨q∈l
 | [],q=>by simp[LL]
 | y::l,q=>by
  unfold LL;by_cases h:x=y
  ·rw[if_pos h];subst h;simp
  rw[if_neg h];split
  ·simp
  rw[zr3,Rd x,zr3];constructor
  ·rintro(h|h|h)
   ·exact .inr (.inl h)
   ·exact .inl h
   exact .inr (.inr h)
  rintro(h|h|h)
  ·exact .inr (.inl h)
  ·exact .inl h
  exact .inr (.inr h)
theorem Qc(x:Pt):∀{l:lP},l.Pairwise (λa b=>CF a b=true)->(LL x l).Pairwise (λa b=>CF a b=true)
 | [],_=>by simp[LL]
 | y::l,h=>by
  unfold LL;obtain⟨i,j⟩:=List.pairwise_cons.1 h;by_cases e:x=y
  ·rw[if_pos e];exact h
  rw[if_neg e];split
  ·rename_i g;refine List.pairwise_cons.2 ⟨λb f=>?_,h⟩;rcases zr3.1 f with rfl|f
   ·exact g
   exact Rc g (i b f)
  rename_i g;refine List.pairwise_cons.2 ⟨λb f=>?_,Qc x j⟩;rcases(Rd x).1 f with rfl|f
  ·exact L8 e (by simpa using g)
  exact i b f
theorem Hd:q∈Dx l↔q∈l:=by
 induction l with
 | nil=>simp[Dx]
 | cons x l ih=>
  show q∈LL x (Dx l)↔_;rw[Rd,ih,zr3]
theorem L9(l:lP):(Dx l).Pairwise (λa b=>CF a b=true):=by
 induction l with
 | nil=>simp[Dx]
 | cons x l ih=>exact Qc x ih
theorem Ky:∀{l m:lP},l.Pairwise (λa b=>CF a b=true)->m.Pairwise (λa b=>CF a b=true)->(∀q,q∈l↔q∈m)->l=m
 | [],[],_,_,_=>rfl
 | [],b::m,_,_,h=>by have:=(h b).2 zP;simp at this
 | a::l,[],_,_,h=>by have:=(h a).1 zP;simp at this
 | a::l,b::m,h1,h2,h=>by
  obtain⟨p1,q1⟩:=List.pairwise_cons.1 h1;obtain⟨p2,q2⟩:=List.pairwise_cons.1 h2
  have e:a=b:=by
   rcases zr3.1 ((h a).1 zP)with e|j
   ·exact e
   rcases zr3.1 ((h b).2 zP)with e|n
   ·exact e.symm
   have:=Rc (p1 b n) (p2 a j);rw[O4]at this
   cases this
  subst e;rw[Ky q1 q2 λq=>?_]
  have i:∀{k:lP},(∀b∈k,CF a b=true)->a∉k:=λo f=>by
   have:=o a f;rw[O4]at this
   cases this
  constructor
  ·intro g;rcases zr3.1 ((h q).1 (List.mem_cons_of_mem _ g))with e|f
   ·subst e;exact absurd g (i p1)
   exact f
  intro g;rcases zr3.1 ((h q).2 (List.mem_cons_of_mem _ g))with e|f
  ·subst e;exact absurd g (i p2)
  exact f
theorem Nf{q:Pt}:∀{l:lP},q∈Bj l↔q∈l
 | []=>by simp[Bj]
 | [a]=>by simp[Bj]
 | a::b::r=>by
  have ih:=Nf (q:=q) (l:=b::r);rw[Bj];by_cases h:a=b
  ·rw[if_pos h,ih];subst h;simp
  rw[if_neg h,zr3,ih,zr3 (a:=q) (b:=a)]
theorem Ng:∀{l:lP},l.Pairwise (λx y=>(!CF y x)=true)->(Bj l).Pairwise (λa b=>CF a b=true)
 | [],_=>by simp[Bj]
 | [a],_=>by simp[Bj]
 | a::b::r,h=>by
  obtain⟨k,i⟩:=List.pairwise_cons.1 h;obtain⟨m,_⟩:=List.pairwise_cons.1 i;have ih:=Ng i;rw[Bj];by_cases e:a=b
  ·rw[if_pos e];exact ih
  rw[if_neg e];refine List.pairwise_cons.2 ⟨λq g=>?_,ih⟩;have f:CF a b=true:=L8 (λq=>e q.symm) (by simpa using k b zP);rcases zr3.1 (Nf.1 g)with rfl|g
  ·exact f
  have j:CF q b=false:=by simpa using m q g
  rw[Gc]at j;rw[GL]at f⊢
  omega
theorem Qd(l:lP):(DR l).Pairwise (λx y=>(!CF y x)=true):=by
 unfold DR;refine List.pairwise_mergeSort (λa b c e f=>?_) (λa b=>?_) l
 ·simp only[Bool.not_eq_true',Gc]at *
  omega
 by_cases h:CF b a=true
 ·have:CF a b=false:=by
   rw[GL]at h;rw[Gc];omega
  simp[this]
 simp[h]
theorem NT(l:lP):(DR l).length=l.length:=by simp[DR]
theorem Re:q∈DR l↔q∈l:=by simp[DR]
theorem Ol(l:lP):Bj (DR l)=Dx l:=Ky (Ng (Qd l)) (L9 l) λq=>by rw[Nf,Re,Hd]
theorem UA:∀l:List Pt,(Bj l).length<=l.length
 | []=>zs2 _
 | [a]=>zs2 _
 | a::b::r=>by
  have:=UA (b::r);rw[Bj];split <;> simp only[zt5]at * <;> omega
section
open Go.Sort
theorem gV(p:Pt):∀{r:lP},r≠[]->Ev p r≠[]
 | [],h=>absurd rfl h
 | [a],_=>by simp[Ev]
 | b::a::r,_=>by
  unfold Ev;split
  ·exact gV p zP
  simp
theorem Qe(h:2<=l.length):0<(Be l).length:=by
 obtain⟨p,a⟩:∃p,l[l.length-1]?=some p:=⟨_,zq0 zO⟩;obtain⟨q,b⟩:∃q,l[l.length-2]?=some q:=⟨_,zq0 zO⟩;have e1:=Ft a;have e2:=Ft b;rw[show l.length-1+1=l.length by omega,zq4 (zs2 _)]at e1;rw[show l.length-2+1=l.length-1 by omega]at e2;have e:Ev p (BG (l.take (l.length-1)))≠[]:=gV p (by rw[e2];simp);have f:=List.length_pos_iff.2 e;unfold Be;rw[List.length_dropLast,List.length_reverse,e1,zt5];omega
theorem IG(l:lP):(Be l).length<=l.length:=by
 have:=P8 l l.length (zs2 _);rw[zq4 (zs2 _)]at this;unfold Be;rw[List.length_dropLast,List.length_reverse];omega
theorem Om(h:q∈Be l):q∈l:=by
 unfold Be at h;exact P6 (List.mem_reverse.1 (List.dropLast_subset _ h))
theorem NV(l:lP):(Dx l).length<=l.length:=by
 have:=UA (DR l);rw[Ol,NT]at this;exact this
theorem O5(h:D8 l=some r):(∀q∈r,q∈l)∧r.length<=2*l.length∧3<=r.length:=by
 unfold D8 at h;simp only at h;split at h
 ·cases h
 split at h
 ·cases h
 rename_i b;injection h with h
 subst h;refine⟨λq a=>?_,?_,by omega⟩
 ·rcases zr1.1 a with a|a
  ·exact Hd.1 (Om a)
  exact Hd.1 (List.mem_reverse.1 (Om a))
 have f:=IG (Dx l);have e:=IG (Dx l).reverse;have b:=NV l;rw[List.length_reverse]at e;rw[zq5];omega
theorem Im{b0 b1:Nat}(h:w.ownsRow b1 T 2 v n xs)(a:b0<=b1):w.ownsRow b0 T 2 v n xs:=by
 refine⟨h.1,?_⟩;rcases h.2 with h|⟨g,cap,cur,e,q,r⟩
 ·exact .inl h
 exact .inr ⟨g,cap,cur,e,zs0 a q,r⟩
def Qf(x:Option (List Pt))(w:World)(e:Ending)(w':World):Prop:=Bw w w'∧match x with
 | some r=>∃A c,e=.returned (.tuple #[.slice A r.length c,zY])∧w'.ownsRow w.heap.size 56 2 (.slice A r.length c) r.length (r.flatMap spC)
 | none=>e=.returned (.tuple #[zn,zF])
theorem WM{b:Nat}(h:Ab 2 Ad w (sa b a) n l):∀(j:Nat)(u:Value),(l.flatMap spC)[j]?=some u->w.cell? (ad b (a+j))=some u:=λj u e=>by
 have:=PW h j u e;rwa[Go.WideShapes.add_plain]at this
theorem gX(b a n c:Nat)(l:lP)(w:World)(f:Ab 2 Ad w (sa b a) n l)(s:n<=1000000) :
  CP 290 #[.slice (sa b a) n c] w λe w'=>∃g c',e=.returned (.slice (sa g 0) n c')∧w.heap.size<=g∧HSp w' g 0 l∧n<=c'∧Bw w w':=by
 obtain⟨i0,hi,i,j,k⟩:=info_parts BY;refine(AnyE.slices_Clone Tryz.laysCloneSp i0 (.agg #[zi 0,zi 0]) 2 16 hi i j k rfl zD sizeOf56 b a n c (l.flatMap spC) w (by rw[DG Bu,f.len]) zU zO (WM f) (Hb l)).mono ?_;rintro e w' ⟨v,rfl,m,o,p⟩;rcases m.2 with⟨e,t⟩|⟨g,cap,cur,rfl,q,r,q1,q2,q3,q4⟩
 ·exact absurd e o
 exact⟨g,cap,rfl,q,HSp.of_own m,q1,p⟩
theorem GN{m:Nat}(h:w.ownsRow a T 2 (.slice A m c) m xs)(i:0<m):∃g,A=some ⟨g,0,none⟩∧a<=g∧∀(j:Nat)(u:Value),xs[j]?=some u->w.cell? ((⟨g,0,none⟩:Addr).add j)=some u:=by
 rcases h.2 with⟨e,k⟩|⟨g,cap,cur,e,b,l,q1,q2,q3,q4⟩
 ·omega
 injection e with e e2 e3
 subst e;exact⟨g,rfl,b,λj u f=>h.cells (g:=g) rfl _ _ f⟩
theorem DC(h:Bw w w1)(a:w1.grownBy w2 (some g))(b:w.heap.size<=g):Bw w w2:=
 Ax h a h.size (λk e=>by injection e with e;omega)
theorem UB(b Z n c:Nat)(l:lP)(w:World)(ha:Ab 2 Ad w (sa b Z) n l)(hn:n<=200000)(hg:∀p∈l,inD p) :
  CP 273 #[.slice (sa b Z) n c] w (Qf (D8 l) w):=by
 obtain rfl:=ha.len;have G:=zH (gX b Z l.length c l w ha zO);have a0:=zH (λg c W (h:HSp W g 0 l)=>OY 291 uN g 0 c l W h zO);have V:=zH (λg c W (h:HSp W g 0 (DR l)) (hc:l.length<=c)=>WL g 0 c l.length (DR l) W h (NT l) hc zO);rw[Ol]at V;obtain⟨Q,hQ⟩:=zG (Qf (D8 l) w);have ag:=NV l;have a1:∀p∈Dx l,inD p:=λp hp=>hg p (Hd.1 hp)
 have HQ:Hid (Q=Qf (if (Dx l).length<3 then none else if (Be (Dx l)++Be (Dx l).reverse).length<3 then none else some (Be (Dx l)++Be (Dx l).reverse)) w):=hQ.symm;rw[hQ];clear hQ;generalize Dx l=S at *
 have X:=zH (λg c W (h:HSp W g 0 S) (h3:3<=S.length)=>P9 (sa g 0) S.length c S W h.recs zO zO a1);have a7:=zH (λg c W (h:HSp W g 0 S)=>XF g 0 c S W h zO);have Y:=zH (λg c W (h:HSp W g 0 S.reverse) (h3:3<=S.length)=>P9 (sa g 0) S.length c S.reverse W (by have:=h.recs;rwa[List.length_reverse]at this) zO zO (λp hp=>a1 p (List.mem_reverse.1 hp)));clear ha hg a1;by_cases h3:S.length<3
 ·go_enter func273,ntmps273
  go_wp2_with(first
   | (go_at_call 290;refine G.o.mono ?_;rintro e w1 ⟨g,c1,rfl,f,r,H,s⟩;have I:=zH r;have z:=zH s;clear r s G)
   | (go_at_call 103;refine(a0.o _ _ _ I.o).mono ?_;rintro e w2 ⟨rfl,t,v⟩;have J:=zH t;have B:=zH (DC z.o v f);clear t v)
   | (go_at_call 292;refine(V.o _ _ _ J.o H).mono ?_;rintro e w3 ⟨rfl,x,i⟩;have y:=zH x;have a:=zH (DC B.o i f);clear x i))
  rw[HQ.o,if_pos h3];exact⟨a.o,rfl⟩
 have ah:=Qe (l:=S) zO;have a8:=Qe (l:=S.reverse) (by rw[List.length_reverse];omega);have ai:=IG S;have aa:=IG S.reverse;rw[List.length_reverse]at aa;by_cases hm:(Be S).length+(Be S.reverse).length<3
 ·go_enter func273,ntmps273
  go_wp2_with(first
     | (go_at_call 290;refine G.o.mono ?_;rintro e w1 ⟨g,c1,rfl,f,r,H,s⟩;have I:=zH r;have z:=zH s;clear r s G)
     | (go_at_call 103;refine(a0.o _ _ _ I.o).mono ?_;rintro e w2 ⟨rfl,t,v⟩;have J:=zH t;have B:=zH (DC z.o v f);clear t v)
     | (go_at_call 292;refine(V.o _ _ _ J.o H).mono ?_;rintro e w3 ⟨rfl,x,i⟩;have y:=zH x;have a:=zH (DC B.o i f);clear x i)
     | (go_at_call 293;first
      | (refine(X.o _ _ _ y.o zO).mono ?_;rintro e w4 ⟨A4,c4,rfl,K,j⟩;have L:=zH K;have i:=y.o.2;have a2:=zH (y.o.below j);have T:=zH (zT a.o j);have ab:=j.size;clear K j X)
      | (refine(Y.o _ _ _ a3.o zO).mono ?_;rintro e w6 ⟨A6,c6,rfl,M,m⟩;obtain⟨g6,rfl,ac,C⟩:=GN M a8;have a4:=zH C;have N:=zH (Ah a5.o m);have D:=zH (zT E.o m);have ae:=m.size;clear M m C Y))
     | (go_at_call 130;refine(a7.o _ _ _ a2.o).mono ?_;rintro e w5 ⟨rfl,O,q⟩;have a3:=zH O;have E:=zH (DC T.o q f);have a5:=zH (L.o.kept q (.inr (λe=>by have:=(L.o.lt _ e).1;omega)));have af:=q.size;clear O q)
     | (at_builtin;refine Bt (P:=prog) (by rfl) _ _ 64 (by rfl) w3.heap.size 56 (.agg #[zi 0,zi 0]) 2 16 underlying64 BY rfl zD (.slice A4 (Be S).length c4) (Be S).length ((Be S).flatMap spC) (by rfl) N.o ⟨g6,0,none⟩ (Be S.reverse).length c6 ((Be S.reverse).flatMap spC) (by rfl) (by rw[DG Bu]) a4.o (Hb _) zU zO zO ?_;intro v7 w7 F R a6;obtain⟨A7,c7,rfl⟩:=AX F;have a9:=zH (Im F a.o.size);have U:=zH (Ax D.o R D.o.size (λk e=>zs0 a.o.size (N.o.lt _ e).1));clear F R a6))
  rw[HQ.o,if_neg h3,if_pos (by rw[zq5];exact hm)];exact⟨U.o,rfl⟩
 go_enter func273,ntmps273
 go_wp2_with(first
    | (go_at_call 290;refine G.o.mono ?_;rintro e w1 ⟨g,c1,rfl,f,r,H,s⟩;have I:=zH r;have z:=zH s;clear r s G)
    | (go_at_call 103;refine(a0.o _ _ _ I.o).mono ?_;rintro e w2 ⟨rfl,t,v⟩;have J:=zH t;have B:=zH (DC z.o v f);clear t v)
    | (go_at_call 292;refine(V.o _ _ _ J.o H).mono ?_;rintro e w3 ⟨rfl,x,i⟩;have y:=zH x;have a:=zH (DC B.o i f);clear x i)
    | (go_at_call 293;first
     | (refine(X.o _ _ _ y.o zO).mono ?_;rintro e w4 ⟨A4,c4,rfl,K,j⟩;have L:=zH K;have i:=y.o.2;have a2:=zH (y.o.below j);have T:=zH (zT a.o j);have ab:=j.size;clear K j X)
     | (refine(Y.o _ _ _ a3.o zO).mono ?_;rintro e w6 ⟨A6,c6,rfl,M,m⟩;obtain⟨g6,rfl,ac,C⟩:=GN M a8;have a4:=zH C;have N:=zH (Ah a5.o m);have D:=zH (zT E.o m);have ae:=m.size;clear M m C Y))
    | (go_at_call 130;refine(a7.o _ _ _ a2.o).mono ?_;rintro e w5 ⟨rfl,O,q⟩;have a3:=zH O;have E:=zH (DC T.o q f);have a5:=zH (L.o.kept q (.inr (λe=>by have:=(L.o.lt _ e).1;omega)));have af:=q.size;clear O q)
    | (at_builtin;refine Bt (P:=prog) (by rfl) _ _ 64 (by rfl) w3.heap.size 56 (.agg #[zi 0,zi 0]) 2 16 underlying64 BY rfl zD (.slice A4 (Be S).length c4) (Be S).length ((Be S).flatMap spC) (by rfl) N.o ⟨g6,0,none⟩ (Be S.reverse).length c6 ((Be S.reverse).flatMap spC) (by rfl) (by rw[DG Bu]) a4.o (Hb _) zU zO zO ?_;intro v7 w7 F R a6;obtain⟨A7,c7,rfl⟩:=AX F;have a9:=zH (Im F a.o.size);have U:=zH (Ax D.o R D.o.size (λk e=>zs0 a.o.size (N.o.lt _ e).1));clear F R a6))
 rw[HQ.o,if_neg h3,if_neg (by rw[zq5];exact hm)];exact⟨U.o,A7,c7,by rw[zq5];rfl,by rw[zq5,zr7];exact a9.o⟩
end
section
open Go.Sort
def Hu(x:Except Int (List Pt))(w:World)(e:Ending)(w':World):Prop:=Bw w w'∧match x with
 | .ok r=>∃A c,e=.returned (.tuple #[.slice A r.length c,zi 0])∧w'.ownsRow w.heap.size 56 2 (.slice A r.length c) r.length (r.flatMap spC)
 | .error z=>e=.returned (.tuple #[zn,zi z])
theorem UC(h:DL l=.ok r):l.length<=160∧(∀p∈l,inC p)∧D8 l=some r:=by
 unfold DL at h;split at h
 ·cases h
 split at h
 ·cases h
 rename_i e a
 refine⟨by omega,λp b=>Q5.1 (by
  rw[Bool.not_eq_true,List.any_eq_false]at a;simpa using a p b),?_⟩
 cases hh:D8 l with
 | none=>rw[hh]at h;cases h
 | some x=>rw[hh]at h;injection h with h;rw[h]
theorem Kz(h:DL l=.error z):z≠0:=by
 unfold DL at h;split at h
 ·injection h with h;omega
 split at h
 ·injection h with h;omega
 split at h
 ·injection h with h;omega
 cases h
theorem Sg(b s n c:Nat)(l:lP)(w:World)(k:Ab 2 Ad w (sa b s) n l)(D:n<=1000000) :
  CP 272 #[.slice (sa b s) n c] w (Hu (DL l) w):=by
 have E:=k.len;obtain⟨Q,g⟩:=zG (Hu (DL l) w);rw[g];by_cases F:160<n
 ·have m:Hid (Q=Hu (.error 5) w):=by
   rw[Hid,<-g];unfold DL;rw[if_pos zO]
  clear g k;go_enter func272,ntmps272
  go_wp2_with fail
  rw[m.o];exact⟨zJ,rfl⟩
 have i:=Gt 274 Em XE (sa b s) n c l w k zO
 cases hc:l.any Em with
 | true=>
  have m:Hid (Q=Hu (.error 3) w):=by
   rw[Hid,<-g];unfold DL;rw[if_neg zO,if_pos hc]
  rw[hc]at i;have i:=zH i;clear g k;go_enter func272,ntmps272;go_wp2_with(go_at_call 85;refine i.o.mono ?_;rintro e w1 ⟨rfl,f⟩;have a:=zH f;clear f)
  rw[m.o];exact⟨a.o,rfl⟩
 | false=>
  rw[hc]at i;have i:=zH i
  have y:∀p∈l,inD p:=λp B=>(Q5.1 (by
   rw[List.any_eq_false]at hc;simpa using hc p B)).d
  have v:=zH (λW (C:Bw w W)=>UB b s n c l W (k.on Aa C) zO y)
  cases hh:D8 l with
  | none=>
   have m:Hid (Q=Hu (.error 11) w):=by
    rw[Hid,<-g];unfold DL;rw[if_neg zO,if_neg (by simp[hc]),hh]
   rw[hh]at v;clear g k y;go_enter func272,ntmps272
   go_wp2_with(first
    | (go_at_call 85;refine i.o.mono ?_;rintro e w1 ⟨rfl,f⟩;have a:=zH f;clear f)
    | (go_at_call 273;refine(v.o _ a.o).mono ?_;rintro e w2 ⟨j,q⟩;replace q:e=.returned (.tuple #[zn,zF]):=q;subst q;have t:=zH (zT a.o j);clear j))
   rw[m.o];exact⟨t.o,rfl⟩
  | some r=>
   have m:Hid (Q=Hu (.ok r) w):=by
    rw[Hid,<-g];unfold DL;rw[if_neg zO,if_neg (by simp[hc]),hh]
   rw[hh]at v;clear g k y;go_enter func272,ntmps272
   go_wp2_with(first
    | (go_at_call 85;refine i.o.mono ?_;rintro e w1 ⟨rfl,f⟩;have a:=zH f;clear f)
    | (go_at_call 273;refine(v.o _ a.o).mono ?_;rintro e w2 ⟨j,q⟩;obtain⟨A2,c2,q,x⟩:=q;subst q;have t:=zH (zT a.o j);have z:=zH (Im x a.o.size);clear j x))
   rw[m.o];exact⟨t.o,A2,c2,rfl,z.o⟩
end
section
open Go.Sort
def EA(p q:Pt):Pt:=(p.1+q.1,p.2+q.2)
def Bo(x y:lP):List Pt:=x.flatMap λp=>y.map λq=>EA p q
theorem gY(h:x[k]?=some p):Bo (x.take (k+1)) y=Bo (x.take k) y++y.map (EA p):=by
 unfold Bo;rw[List.take_add_one,zr7,h];simp
theorem iA(h:y[j]?=some q):(y.take (j+1)).map (EA p)=(y.take j).map (EA p)++[EA p q]:=by
 rw[List.take_add_one,zr0,h];rfl
theorem UD(x y:lP):(Bo x y).length=x.length*y.length:=by
 induction x with
 | nil=>simp[Bo]
 | cons p x ih=>
  have:Bo (p::x) y=y.map (EA p)++Bo x y:=rfl;rw[this,zq5,zq6,ih,zt5,Nat.succ_mul,Nat.add_comm]
theorem uY(f:∀p∈x,inC p)(g:∀p∈y,inC p):∀p∈Bo x y,inD p:=λp e=>by
 obtain⟨a,i,e⟩:=List.mem_flatMap.1 e;obtain⟨b,j,rfl⟩:=zr2.1 e;obtain⟨k,l,m,n⟩:=f a i;obtain⟨q1,q2,q3,q4⟩:=g b j;exact⟨by simp only[EA];omega,by simp only[EA];omega,by simp only[EA];omega,by simp only[EA];omega⟩
theorem uZ{a:lP}(e:DL a=.ok x)(f:DL b=.ok y):Fv a b=if ((D8 (Bo x y)).getD []).any Em=true then .error 3 else if 160<((D8 (Bo x y)).getD []).length then .error 5 else .ok ((D8 (Bo x y)).getD []):=by
 unfold Fv;rw[e,f];rfl
theorem iB{a:lP}(e:DL a=.error z):Fv a b=.error z:=by unfold Fv;rw[e]
theorem iC{a:lP}(e:DL a=.ok x)(f:DL b=.error z):Fv a b=.error z:=by unfold Fv;rw[e,f]
theorem Rf(x:Option (List Pt))(h:Qf x w e w'):Bw w w'∧∃A c ok,e=.returned (.tuple #[.slice A (x.getD []).length c,.bool ok])∧w'.ownsRow w.heap.size 56 2 (.slice A (x.getD []).length c) (x.getD []).length ((x.getD []).flatMap spC):=by
 obtain⟨a,h⟩:=h;refine⟨a,?_⟩
 cases x with
 | none=>exact⟨none,0,false,h,World.ownsRow_nil _ _ _ _⟩
 | some r=>
  obtain⟨A,c,b,f⟩:=h;exact⟨A,c,true,b,f⟩
theorem DX(h:w.ownsRow a T 2 (.slice A n c) n (l.flatMap spC))(f:l.length=n):Ab 2 Ad w A n l:=by
 obtain⟨A',c',b,e,i⟩:=CJ (G:=Ad) (g:=λx:Pt=>x) Bu h f (λt _=>rfl);rw[List.map_id']at e;injection b with b _ _
 rw[b];exact e
theorem Ma{X:lP}(h:w.ownsRow a T 2 v (l.length+1) (l.flatMap spC++spC p))(b:X=l++[p]):∃A c,v=.slice A X.length c∧w.ownsRow a T 2 (.slice A X.length c) X.length (X.flatMap spC):=by
 subst b;obtain⟨A,c,rfl⟩:=AX h;refine⟨A,c,by simp,?_⟩;rw[zr7,zq5];simpa using h
theorem iD(w:World)(o:Obj)(p:Pt)(T:TypeId):∀(j:Nat)(u:Value),(spC p)[j]?=some u->(zw (w.alloc o) #[zi p.1,zi p.2] T).cell? ((⟨w.heap.size+1,0,none⟩:Addr).add j)=some u:=λj u a=>by
 have:=FN (w.alloc o) p T j u a;simpa using this
theorem NW(h:Blk w g T cs)(a:v.ownBlock≠some g)(b:Bw w w1)(f:w1.grownBy w2 v.ownBlock)(i:v'.ownBlock=v.ownBlock∨v'.ownBlock=some w1.heap.size)(j:w.heap.size<=w1.heap.size):v'.ownBlock≠some g∧Blk w2 g T cs:=by
 refine⟨λe=>?_,(h.below b).grown f (λe=>a e.symm)⟩;rcases i with q|q
 ·exact a (q.symm.trans e)
 rw[q]at e;injection e with e
 have:=h.lt;omega
theorem vA(g1 o1 g2 o2 n1 c1 n2 c2:Nat)(a b:lP)(w:World)(ha:Ab 2 Ad w (sa g1 o1) n1 a)(hb:Ab 2 Ad w (sa g2 o2) n2 b)(an:n1<=1000000)(ao:n2<=1000000) :
  CP 227 #[.slice (sa g1 o1) n1 c1,.slice (sa g2 o2) n2 c2] w (Hu (Fv a b) w):=by
 have G:=Sg g1 o1 n1 c1 a w ha an;have I:=λW (h:Bw w W)=>Sg g2 o2 n2 c2 b W (hb.on Aa h) ao
 obtain⟨Q,R⟩:=zG (Hu (Fv a b) w);rw[R]
 cases hs:DL a with
 | error z=>
  rw[hs]at G;have hz:=Kz hs;have ap:(z != 0)=true:=by simpa using hz
  have s:Hid (Q=Hu (.error z) w):=by rw[Hid,<-R,iB hs]
  have G:=zH G;clear R hs I ha hb;go_enter func227,ntmps227;go_wp2_with(go_at_call 272;refine G.o.mono ?_;rintro e w1 ⟨t,f⟩;replace f:e=.returned (.tuple #[zn,zi z]):=f;subst f;have m:=zH t;clear t)
  rw[s.o];exact⟨m.o,rfl⟩
 | ok x=>
  rw[hs]at G;have G:=zH G;have I:=zH I
  cases ht:DL b with
  | error z=>
   rw[ht]at I;have hz:=Kz ht;have ap:(z != 0)=true:=by simpa using hz
   have s:Hid (Q=Hu (.error z) w):=by rw[Hid,<-R,iC hs ht]
   clear R hs ht ha hb;go_enter func227,ntmps227
   go_wp2_with(go_at_call 272;first
    | (refine G.o.mono ?_;rintro e w1 ⟨t,f⟩;obtain⟨B1,d1,f,a1⟩:=f;subst f;have m:=zH t;clear t G)
    | (refine(I.o _ m.o).mono ?_;rintro e w2 ⟨H,f⟩;replace f:e=.returned (.tuple #[zn,zi z]):=f;subst f;have U:=zH (zT m.o H);clear H))
   rw[s.o];exact⟨U.o,rfl⟩
  | ok y=>
   rw[ht]at I;have s:Hid (Q=Hu (if ((D8 (Bo x y)).getD []).any Em=true then .error 3 else if 160<((D8 (Bo x y)).getD []).length then .error 5 else .ok ((D8 (Bo x y)).getD [])) w):=by rw[Hid,<-R,uZ hs ht]
   obtain⟨p1,p2,p3⟩:=UC hs;obtain⟨q1,q2,q3⟩:=UC ht;obtain⟨p4,p5,p6⟩:=O5 p3;obtain⟨q4,q5,q6⟩:=O5 q3;have a7:Hid (∀p∈x,inC p):=zH (λp T=>p2 p (p4 p T));have a8:Hid (∀p∈y,inC p):=zH (λp T=>q2 p (q4 p T));have b7:x.length<=320:=zO;have a6:y.length<=320:=zO
   have a9:∀k,k<=x.length->(Bo (x.take k) y).length<=102400:=λk hk=>by
    rw[UD,zq7];exact zs0 (Nat.mul_le_mul (show min k x.length<=320 by omega) a6) zD
   have aa:=zH a9;clear R hs ht ha hb p1 p2 p3 p4 p5 q1 q2 q3 q4 q5 a9;go_enter func227,ntmps227
   go_wp2_with(go_at_call 272;first
    | (refine G.o.mono ?_;rintro e w1 ⟨t,f⟩;obtain⟨B1,d1,f,a1⟩:=f;subst f;have m:=zH t;have aq:=zH (DX a1 rfl);clear t a1 G)
    | (refine(I.o _ m.o).mono ?_;rintro e w2 ⟨H,f⟩;obtain⟨B2,d2,f,ab⟩:=f;subst f;have U:=zH (zT m.o H);have am:=zH (aq.o.on Aa H);have ar:=zH (DX ab rfl);clear H ab I))
   go_loopw[9,11,13,34,35,36,37,38,39,40,41,42,43,44,45,46,47,48,49,50,51,52,53,54,55,56,57,58,59] (λv _ _ i _ _ _ _ _ _ _ _ _ _ _ _ _ _ _ _ _ _ _ _ _ _ _ _ _ wr=>∃(k:Nat)(A3:oA)(c3:Nat),k<=x.length∧i=zi (k:Int)∧v=.slice A3 (Bo (x.take k) y).length c3∧Hid (wr.ownsRow w2.heap.size 56 2 (.slice A3 (Bo (x.take k) y).length c3) (Bo (x.take k) y).length ((Bo (x.take k) y).flatMap spC))∧Hid (Bw w2 wr)) (λ_ _ _ i _ _ _ _ _ _ _ _ _ _ _ _ _ _ _ _ _ _ _ _ _ _ _ _ _ _=>x.length-(intOf i).toNat)
   case atStart=>exact⟨0,none,0,zs3 _,rfl,rfl,zH (by exact World.ownsRow_nil _ _ _ _),zH zJ⟩
   case round=>
    obtain⟨k,A3,c3,hk,rfl,rfl,HO,V⟩:=hrel;by_cases au:k<x.length
    ·obtain⟨b1,b9,p,rfl,ba,T,d0,d1'⟩:=Ap (am.o.on Aa V.o) au;have ac:=zH (gY (y:=y) T);have av:=zH (aa.o (k+1) zO);have aw:=zH (a7.o p (zq2 T));have ax:=zH (Blk.new wr 56 #[zi p.1,zi p.2]);have ae:Hid (Bw wr (zw wr #[zi p.1,zi p.2] 56)):=zH (zA _);have i1:(0:Int)<=(k:Int):=zO;have i2:(k:Int)<(x.length:Int):=zO;clear T
     go_wp2_with fail
     go_loopw[9,13,40,41,42,43,44,45,46,47,48,49,50,51,52,53,54,55,56,57,58] (λv _ i _ _ _ _ _ _ _ _ _ _ _ _ _ _ _ _ _ _ wq=>∃(j:Nat)(A4:oA)(c4:Nat),j<=y.length∧i=zi (j:Int)∧v=.slice A4 (Bo (x.take k) y++(y.take j).map (EA p)).length c4∧Hid (wq.ownsRow w2.heap.size 56 2 (.slice A4 (Bo (x.take k) y++(y.take j).map (EA p)).length c4) (Bo (x.take k) y++(y.take j).map (EA p)).length ((Bo (x.take k) y++(y.take j).map (EA p)).flatMap spC))∧Hid ((Value.slice A4 (Bo (x.take k) y++(y.take j).map (EA p)).length c4).ownBlock≠some wr.heap.size∧Blk wq wr.heap.size 56 #[zi p.1,zi p.2])∧Hid (Bw w2 wq)) (λ_ _ i _ _ _ _ _ _ _ _ _ _ _ _ _ _ _ _ _ _ _=>y.length-(intOf i).toNat)
     case atStart=>exact⟨0,A3,c3,zs3 _,rfl,by simp,zH (by simpa using Ah HO.o ae.o),zH ⟨λe=>by have:=(HO.o.lt _ (by simpa using e)).2;omega,ax.o⟩,zH (zT V.o ae.o)⟩
     case round=>
      obtain⟨j,A4,c4,hj,rfl,rfl,Y,Z,J⟩:=hrel
      have ay:(Bo (x.take k) y++(y.take j).map (EA p)).length<=102400:=by
       have:=av.o;rw[ac.o,zq5,zq6]at this;rw[zq5,zq6,zq7];omega
      by_cases az:j<y.length
      ·obtain⟨b2,b8,q,rfl,bb,hq,f0,f1⟩:=Ap ((ar.o.on Aa J.o)) az;have b0:=zH (iA (p:=p) hq);have hx:=Z.o.2;obtain⟨x0,x1⟩:=AR hx;have xl:=hx.lt;obtain⟨y1,y2,y3,y4⟩:=aw.o;obtain⟨y5,y6,y7,y8⟩:=a8.o q (zq2 hq);have i3:IntKind.i64.wrap (p.1+q.1)=p.1+q.1:=zs5 _ zO;have i4:IntKind.i64.wrap (p.2+q.2)=p.2+q.2:=zs5 _ zO;have i1:(0:Int)<=(j:Int):=zO;have i2:(j:Int)<(y.length:Int):=zO;have bc:=J.o.size;clear hq hx;obtain⟨L,hL⟩:=zG (Bo (x.take k) y++(y.take j).map (EA p));have HL:Hid (Bo (x.take k) y++(y.take (j+1)).map (EA p)=L++[EA p q]):=zH (by rw[b0.o,<-List.append_assoc,hL]);rw[hL]at ay Y Z⊢
       clear hL;have a2:Hid (∀o1 o2:Obj,Bw wr ((wr.alloc o1).alloc o2)):=zH (λ_ _=>Below.alo (zA _) _);go_wp2_with(at_builtin;refine Bt (P:=prog) (by rfl) _ _ 64 (by rfl) w2.heap.size 56 (.agg #[zi 0,zi 0]) 2 16 underlying64 BY rfl zD (.slice A4 L.length c4) L.length (L.flatMap spC) (by rfl) (Ah Y.o (a2.o _ _)) ⟨wr.heap.size+1,0,none⟩ 1 1 (spC (EA p q)) (by rfl) (by rfl) (iD _ _ _ _) (DH _) zU zO zQ ?_;intro v7 w7 af a3 ag;obtain⟨A7,c7,rfl,ah⟩:=Ma af HL.o;have b3:=zH ah;have b4:=zH (NW Z.o.2 Z.o.1 (a2.o _ _) a3 ag zQ);have b5:=zH (Ax (J.o.trans ((a2.o _ _).mono J.o.size)) a3 zQ (λg e=>(Y.o.lt g e).1));clear af ah a3 ag)
       go_roundw
       case rel=>exact⟨j+1,A7,c7,by omega,by go_num,by simp,b3,b4,b5⟩
       case measure=>exact zM
      obtain rfl:j=y.length:=zO;have HE:Hid (Bo (x.take (k+1)) y=Bo (x.take k) y++(y.take y.length).map (EA p)):=zH (by rw[ac.o,zq4 (zs2 _)])
      go_wp2_with fail
      go_roundw
      case rel=>exact⟨k+1,A4,c4,by omega,by go_num,by rw[HE.o],zH (by rw[HE.o];exact Y.o),J⟩
      case measure=>exact zM
    obtain rfl:k=x.length:=zO;have ai:(Bo x y).length=x.length*y.length:=UD x y;have aj:0<(Bo x y).length:=by rw[ai];exact Nat.mul_pos zO zO
    have b6:(Bo x y).length<=102400:=by have:=aa.o x.length (zs2 _);rwa[zq4 (zs2 _)]at this
    have ak:∀p∈Bo x y,inD p:=uY a7.o a8.o;rw[zq4 (zs2 _)]at HO⊢
    obtain⟨g3,rfl,_,_⟩:=GN HO.o aj;have K:=zH (UB g3 0 (Bo x y).length c3 (Bo x y) wr (DX HO.o rfl) zO ak)
    have al:((D8 (Bo x y)).getD []).length<=204800:=by
     cases hh:D8 (Bo x y)with
     | none=>simp
     | some r=>
      have:=(O5 hh).2.1;show r.length<=_;omega
    clear ak ai aj b6;obtain⟨X,hX⟩:=zG (D8 (Bo x y));rw[hX]at K al s;clear hX;obtain⟨S,hS⟩:=zG (Bo x y);rw[hS]at K HO⊢
    clear hS;have n:=zH (zT U.o V.o);have a0:=zH (λe w' (h:Qf X wr e w')=>Rf X h);obtain⟨r,hr⟩:=zG (X.getD []);simp only[hr]at s al a0;clear hr;have M:=zH (λA c W (h:Ab 2 Ad W A r.length r)=>Gt 274 Em XE A r.length c r W h zO)
    cases hany:r.any Em with
    | true=>
     rw[hany]at M;rw[if_pos hany]at s;clear hany
     go_wp2_with(first
      | (go_at_call 273;refine K.o.mono ?_;intro e w4 B;obtain⟨C,A4,c4,ok,rfl,D⟩:=a0.o _ _ B;have E:=zH (zT n.o C);have F:=zH D;have N:=zH n.o.size;clear B C D)
      | (go_at_call 85;refine(M.o _ _ _ (DX F.o rfl)).mono ?_;rintro e w5 ⟨rfl,l⟩;have O:=zH (zT E.o l);have a4:=zH (Im (Ah F.o l) N.o);clear l))
     rw[s.o];exact⟨O.o,rfl⟩
    | false=>
     rw[hany]at M;rw[if_neg (by rw[hany];decide)]at s;clear hany;by_cases a5:160<r.length
     ·rw[if_pos a5]at s
      go_wp2_with(first
       | (go_at_call 273;refine K.o.mono ?_;intro e w4 B;obtain⟨C,A4,c4,ok,rfl,D⟩:=a0.o _ _ B;have E:=zH (zT n.o C);have F:=zH D;have N:=zH n.o.size;clear B C D)
       | (go_at_call 85;refine(M.o _ _ _ (DX F.o rfl)).mono ?_;rintro e w5 ⟨rfl,l⟩;have O:=zH (zT E.o l);have a4:=zH (Im (Ah F.o l) N.o);clear l))
      rw[s.o];exact⟨O.o,rfl⟩
     rw[if_neg a5]at s
     go_wp2_with(first
      | (go_at_call 273;refine K.o.mono ?_;intro e w4 B;obtain⟨C,A4,c4,ok,rfl,D⟩:=a0.o _ _ B;have E:=zH (zT n.o C);have F:=zH D;have N:=zH n.o.size;clear B C D)
      | (go_at_call 85;refine(M.o _ _ _ (DX F.o rfl)).mono ?_;rintro e w5 ⟨rfl,l⟩;have O:=zH (zT E.o l);have a4:=zH (Im (Ah F.o l) N.o);clear l))
     rw[s.o];exact⟨O.o,A4,c4,rfl,a4.o⟩
end
theorem UE(a:r.length=n)(h:∀j,j<n->0<Ao (vtx r j) (vtx r (j+1)) d):CN r d=decide (0<n):=by
 unfold CN;rw[a];have:((List.range n).all λi=>decide (0<Ao (vtx r i) (vtx r (i+1)) d))=true:=List.all_eq_true.2 λi hi=>zu1 (h i (zt8.1 hi))
 rw[this,Bool.true_and]
theorem WN(a:r.length=n)(b:k<n)(h:Ao (vtx r k) (vtx r (k+1)) d<=0):CN r d=false:=by
 unfold CN;rw[a]
 have:((List.range n).all λi=>decide (0<Ao (vtx r i) (vtx r (i+1)) d))=false:=by
  rw[List.all_eq_false];exact⟨k,zt8.2 b,by simp;omega⟩
 rw[this,Bool.false_and]
theorem UF(A:oA)(n c:Nat)(r:lP)(d:Pt)(w:World)(E:Ab 2 Ad w A n r)(K:∀p∈r,inD p)(hd:inD d)(Y:n<=1000000) :
  CP 235 #[.slice A n c,.agg #[zi d.1,zi d.2]] w (zR (.bool (CN r d)) w):=by
 have L:=zH E;have M:=zH K;have y:=zH hd;have b:=E.len;have N:=zH (Blk.new w 56 #[zi d.1,zi d.2]);have O:Hid (Bw w (zw w #[zi d.1,zi d.2] 56)):=zH (zA _);clear E K hd;go_enter func235,ntmps235
 go_wp2_with fail
 go_loopw[5,6,7,10,11,12,13,14,15,16,17,18,19,20,21,22,23,24,25,26,27,28,29,30,31,32,33,34,35,36,37,38,39,40,41,42,43,44,45,46,47] (λ_ _ _ i _ _ _ _ _ _ _ _ _ _ _ _ _ _ _ _ _ _ _ _ _ _ _ _ _ _ _ _ _ _ _ _ _ _ _ _ _ wr=>∃k:Nat,k<=n∧i=zi (k:Int)∧Hid (∀j,j<k->0<Ao (vtx r j) (vtx r (j+1)) d)∧Hid (Blk wr w.heap.size 56 #[zi d.1,zi d.2])∧Hid (Bw w wr)) (λ_ _ _ i _ _ _ _ _ _ _ _ _ _ _ _ _ _ _ _ _ _ _ _ _ _ _ _ _ _ _ _ _ _ _ _ _ _ _ _ _ _=>n-(intOf i).toNat)
 case atStart=>exact⟨0,zs3 _,rfl,zH (λj Q=>by omega),N,O⟩
 case round=>
  obtain⟨k,Z,rfl,B,l,a⟩:=hrel;by_cases s:k<n
  ·obtain⟨m2,f⟩:=zG ((k+1)%n);have l2:m2<n:=by rw[<-f];exact Nat.mod_lt _ zO
   obtain⟨b1,V,p,rfl,W,F,d0,d1⟩:=Ap (L.o.on Aa a.o) s;obtain⟨b2,R,q,t,_,G,d2,d3⟩:=Ap (L.o.on Aa a.o) l2;injection t with t
   injection t with e1 e2
   subst e1;subst e2;have e2:vtx r k=p:=Dl b (Nat.mod_eq_of_lt s) F;have e3:vtx r (k+1)=q:=Dl b f G;have C:=M.o p (zq2 F);have D:=M.o q (zq2 G);have S:=Sf C D y.o;have H:Hid (Ao (vtx r k) (vtx r (k+1)) d=(q.1-p.1)*(d.2-p.2)-(q.2-p.2)*(d.1-p.1)):=zH (by rw[e2,e3];rfl);obtain⟨y1,y2,y3,y4⟩:=C;obtain⟨y5,y6,y7,y8⟩:=D;obtain⟨y9,y10,y11,y12⟩:=y.o;obtain⟨⟨z1,z2⟩,z3,z4⟩:=S;obtain⟨x0,x1⟩:=AR l.o;have xl:=l.o.lt;have xl1:w.heap.size<wr.heap.size+1:=zO;obtain⟨i1,i2⟩:=zI (k:=k) (n:=n) (by omega);have i5:IntKind.i64.wrap ((k:Int)+1)=((k+1:Nat):Int):=by rw[zs5 _ zO];omega
   have i7:(((k+1:Nat):Int)).tmod (n:Int)=(m2:Int):=by rw[<-f];rfl
   have i8:¬(n:Int)=0:=zO;have i8b:¬n=0:=zO;obtain⟨i11,i12⟩:=zI (k:=m2) (n:=n) (by omega);have T:b1<wr.heap.size+1:=zO;have v:Hid (∀o1 o2:Obj,Bw wr ((wr.alloc o1).alloc o2)):=zH (λ_ _=>Below.alo (zA _) _);clear f F G e2 e3;obtain⟨z,I⟩:=zG (k+1);have g:=zH I;rw[I]at i5 i7 H;clear I;by_cases P:(q.1-p.1)*(d.2-p.2)-(q.2-p.2)*(d.1-p.1)<=0
   ·have x:=zH (WN (d:=d) b s (by rw[g.o,H.o];exact P))
    go_wp2_with fail
    go_ret;exact⟨by rw[x.o];rfl,a.o.trans ((v.o _ _).mono a.o.size)⟩
   have J:Hid (∀j,j<z->0<Ao (vtx r j) (vtx r (j+1)) d):=zH (λj Q=>by
    by_cases e:j=k
    ·subst e;rw[g.o,H.o];omega
    exact B.o j (zV g.o))
   go_wp2_with fail
   go_roundw
   case rel=>exact⟨z,by have:=g.o;omega,by have:=g.o;subst this;go_num,J,zH (l.o.below (v.o _ _)),zH (a.o.trans ((v.o _ _).mono a.o.size))⟩
   case measure=>
    have:=g.o;simp[intOf];omega
  obtain rfl:k=n:=zO;have x:=zH (UE (d:=d) b B.o);by_cases U:0<k
  ·have X:(0:Int)<(k:Int):=zO
   go_wp2_with fail
   go_ret;exact⟨by rw[x.o,zu1 U];rfl,a.o⟩
  obtain rfl:k=0:=zO
  go_wp2_with fail
  go_ret;exact⟨by rw[x.o];rfl,a.o⟩
theorem WO(A:oA)(n c:Nat)(rs:List (List Pt))(d:Pt)(w:World)(t:Ab 1 plG w A n rs)(D:∀r∈rs,(∀p∈r,inD p)∧r.length<=1000000)(hn:n<=1000000) :
  CP 184 #[.slice A n c,.agg #[zi d.1,zi d.2]] w (zR (.bool (CX rs d)) w):=by
 have b:Hid (Bw w (zw w #[zi d.1,zi d.2] 56)):=zH (zA _);by_cases a:(decide (d.1 < -2097152)||(decide (2097152<d.1)||(decide (d.2 < -2097152)||decide (2097152<d.2))))=true
 ·have g:Hid (CX rs d=false):=zH (by unfold CX;rw[a];rfl);clear t D;obtain⟨x,y⟩:=d;simp only at a b⊢
  by_cases F:x < -2097152
  ·go_enter func184,ntmps184;go_wp2;go_ret;exact⟨by rw[g.o];rfl,b.o⟩
  by_cases G:2097152<x
  ·go_enter func184,ntmps184;go_wp2;go_ret;exact⟨by rw[g.o];rfl,b.o⟩
  by_cases H:y < -2097152
  ·go_enter func184,ntmps184;go_wp2;go_ret;exact⟨by rw[g.o];rfl,b.o⟩
  have I:2097152<y:=by
   simp only[Bool.or_eq_true,decide_eq_true_eq]at a;omega
  go_enter func184,ntmps184;go_wp2;go_ret;exact⟨by rw[g.o];rfl,b.o⟩
 have g:Hid (CX rs d=rs.any λr=>CN r d):=zH (by unfold CX;rw[Bool.not_eq_true]at a;rw[a];rfl)
 have J : -2097152<=d.1∧d.1<=2097152∧-2097152<=d.2∧d.2<=2097152:=by
  simp only[Bool.or_eq_true,decide_eq_true_eq]at a;omega
 have hd:inD d:=⟨by omega,by omega,by omega,by omega⟩;have K:=zH hd;obtain⟨F,G,H,I⟩:=J;have T:¬d.1 < -2097152:=zO;have U:¬2097152<d.1:=zO;have V:¬d.2 < -2097152:=zO;have W:¬2097152<d.2:=zO;have P:=zH t;have Q:=zH D;have X:=t.len;have L:=zH (Blk.new w 56 #[zi d.1,zi d.2]);clear t D hd a F G H I;go_enter func184,ntmps184
 go_wp2_with fail
 go_loopw[6,27,28,29,30,31,32,33,34] (λ_ i _ _ _ _ _ _ _ wr=>∃k:Nat,k<=n∧i=zi (k:Int)∧Hid ((rs.take k).any (λr=>CN r d)=false)∧Hid (Blk wr w.heap.size 56 #[zi d.1,zi d.2])∧Hid (Bw w wr)) (λ_ i _ _ _ _ _ _ _ _=>n-(intOf i).toNat)
 case atStart=>exact⟨0,zs3 _,rfl,zH zP,L,b⟩
 case round=>
  obtain⟨k,hk,rfl,z,l,f⟩:=hrel;by_cases M:k<n
  ·obtain⟨b1,Y,x,B,m,cx,rfl,Z,E,d0,q,a0⟩:=P5 (P.o.on JC f.o) M;obtain⟨g1,g2⟩:=Q.o x (zq2 E);have N:=zH E;have v:=zH (UF B m cx x d wr q g1 K.o (by rw[<-q.len];exact g2));obtain⟨x0,x1⟩:=AR l.o;have xl:=l.o.lt;obtain⟨i1,i2⟩:=zI (k:=k) (n:=n) (by omega)
   have C:Hid ((rs.take (k+1)).any (λr=>CN r d)=CN x d):=zH (by
    rw[List.take_add_one,List.any_append,z.o,N.o];simp)
   clear E q g1
   cases hi:CN x d with
   | true=>
    rw[hi]at v;have R:Hid ((rs.any λr=>CN r d)=true):=zH (List.any_eq_true.2 ⟨x,zq2 N.o,hi⟩);clear hi;go_wp2_with(go_at_call 235;refine v.o.mono ?_;rintro e w9 ⟨rfl,j⟩;have s:=zH (zT f.o j);clear j)
    go_ret;exact⟨by rw[g.o,R.o];rfl,s.o⟩
   | false=>
    rw[hi]at v C;clear hi;go_wp2_with(go_at_call 235;refine v.o.mono ?_;rintro e w9 ⟨rfl,j⟩;have s:=zH (zT f.o j);have O:=zH (l.o.below j);clear j)
    go_roundw
    case rel=>exact⟨k+1,by omega,by go_num,C,O,s⟩
    case measure=>exact zM
  obtain rfl:k=n:=zO;have S:Hid ((rs.any λr=>CN r d)=false):=zH (by have:=z.o;rwa[zq4 zO]at this)
  go_wp2_with fail
  go_ret;exact⟨by rw[g.o,S.o];rfl,f.o⟩
end Go.Proofs.YteafekbddckemaaGreatDoor
