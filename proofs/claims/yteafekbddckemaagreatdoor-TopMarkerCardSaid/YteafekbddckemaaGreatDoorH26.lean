/- Parts of the proof. -/
import Derived.Test.YteafekbddckemaaGreatDoorH25
set_option maxRecDepth 100000
set_option maxHeartbeats 40000000
namespace Go.Proofs.YteafekbddckemaaGreatDoor
open Tryz Go.RowKit
open Go.Lib hiding intOf
variable{A:oA}{E T e:TypeId}{a keys l:lP}{b:AG}{done rs:List PL}{j k n r:Nat}{p:Pt}{puts:List Am}{q:Am}{ss:List Ae}{t x:PL}{v:Value}{w w':World}{xs:lV}{z:Int}{α:Type}
section
open Go.RowKit Go.ChangeMaps
section
variable{κ : Type}[DecidableEq κ]
structure I5(P:Program)(K:TypeId)(mk : κ->Value):Prop where
 find:∀(k : κ)(es:List MapEntry)(m:List (κ × Value))(w:World),es.map (λe=>(e.key,e.val))=m.map (λp=>(mk p.1,p.2))->(Instr.findKey K (mk k) es).run P w=.ok (Bi m k 0) w
 check:∀(e:Bool)(a : κ)(w:World),(Instr.checkKey e 10000 K (mk a)).run P w=.ok () w
 bits:∀a,Instr.sameBits 10000 (mk a) (mk a)=true
variable{mk : κ->Value}{P:Program}{K:TypeId}{w w':World}{b:Nat}{m:List (κ × Value)}
theorem Qk(f:∀(a b : κ)(w:World),(Op.equal K (mk a) (mk b)).run P w=.ok (decide (a=b)) w)(k : κ)(w:World):∀{es:List MapEntry}{m:List (κ × Value)}(i:Nat),es.map (λe=>(e.key,e.val))=m.map (λp=>(mk p.1,p.2))->(Instr.findAsking K (mk k) es i).run P w=.ok (Bi m k i) w
 | [],[],i,_=>by simp[Instr.findAsking,Bi]
 | [],_::_,i,h=>by simp at h
 | _::_,[],i,h=>by simp at h
 | e::es,p::m,i,h=>by
  simp only[List.map_cons,List.cons.injEq,Prod.mk.injEq]at h;obtain⟨⟨l,n⟩,q⟩:=h;rw[Instr.findAsking,l,Bi];by_cases g:p.1=k
  ·rw[if_pos g];simp[f,g.symm,n]
  rw[if_neg g];have j:decide (k=p.1)=false:=zu0 (λe=>g e.symm);simp only[Sem.run_bind,f,j,Result.andThen_ok,Bool.false_eq_true,if_false];exact Qk f k w (i+1) q
theorem I5.of_equal{fs:Array Field}(g:P.underlying K=some (.struct fs))(f:∀(a b : κ)(w:World),(Op.equal K (mk a) (mk b)).run P w=.ok (decide (a=b)) w)
  (check:∀(e:Bool)(a : κ)(w:World),(Instr.checkKey e 10000 K (mk a)).run P w=.ok () w) (bits:∀a,Instr.sameBits 10000 (mk a) (mk a)=true):I5 P K mk:=
 ⟨λk es m w h=>(run_findKey_eq (P:=P) (k:=K) (w:=w) (by rw[g]) (mk k) es).trans (Qk f k w 0 h),check,bits⟩
theorem Bv.lookupF(h:Bv mk w b m)(e:I5 P K mk)(j:P.underlying T=some (.map K E)){z:Value}(l:(zeroValue E).run P w=.ok z w)(k : κ)(ok:Bool) :
  (Instr.lookup T (.map (some b)) (mk k) ok).run P w=.ok (if ok=true then .tuple #[(Cz m k).getD z,.bool (Cz m k).isSome]else(Cz m k).getD z) w:=by
 obtain⟨es,clock,n,f,_⟩:=h;have q:=e.find k es.toList m w f;have g:∀t d,P.underlying t=some d->(underlying t).run P w=.ok d w:=λt d h=>by simp[underlying,h]
 unfold Instr.lookup;simp only[Sem.run_bind,g _ _ j,Result.andThen_ok,getObj,Sem.run,n,e.check,q,Sem.run_pure,Array.isEmpty]
 cases hm:Bi m k 0 with
 | none=>simp[Cz,hm,l,Result.andThen_ok]
 | some p=>obtain⟨i,v⟩:=p;simp[Cz,hm]
theorem Bv.updateF(h:Bv mk w b m)(D:I5 P K mk)(N:P.underlying T=some (.map K E))(k : κ)(v:Value) :
  ∃w',(Instr.mapUpdate T (.map (some b)) (mk k) v).run P w=.ok () w'∧Bv mk w' b (Ec m k v)∧w.grownBy w' (some b):=by
 have O:=h.lt;obtain⟨es,clock,F,n,f,H,r⟩:=h;have R:=D.find k es.toList m w n;have I:∀t d,P.underlying t=some d->(underlying t).run P w=.ok d w:=λt d h=>by simp[underlying,h]
 have s:∀o,(setBlock w b o).heap[b]?=some o:=λo=>by unfold setBlock;simp[O]
 have U:es.toList.length=m.length:=by have:=congrArg List.length n;simpa using this
 cases hm:Bi m k 0 with
 | none=>
  refine⟨setBlock w b (.map (es.push { key:=mk k,val:=v,born:=clock }) (clock+1)),?_,⟨_,_,s _,?_,?_,?_,?_⟩,IB _ _ _⟩
  ·unfold Instr.mapUpdate;simp only[Sem.run_bind,I _ _ N,Result.andThen_ok,getObj,Sem.run,F,D.check,R,hm,NO F]
  ·rw[Gv hm];simp[n]
  ·intro e g;simp only[Array.toList_push,zr1,zr9]at g;rcases g with g|rfl
   ·have:=f e g;omega
   simp
  ·simp only[Array.toList_push,zr0,List.map_cons,List.map_nil];rw[List.nodup_append];refine⟨H,by simp,λx J y z=>?_⟩;simp only[zr9]at z;subst z;obtain⟨e,g,rfl⟩:=zr2.1 J;have:=f e g;omega
  rw[Gv hm,zr0,List.nodup_append];refine⟨r,by simp,λx J y z=>?_⟩;simp only[List.map_cons,List.map_nil,zr9]at z;subst z;obtain⟨p,B,rfl⟩:=zr2.1 J;exact LV hm p B
 | some p=>
  obtain⟨i,v0⟩:=p;obtain⟨_,hi,B⟩:=OQ hm;rw[Nat.sub_zero]at B;have C:i<es.toList.length:=zO
  have L:es.toList[i].key=mk k:=by
   have:=congrArg (λl=>l[i]?) n;simp only[zr5,B,zq0 C,zt6,Option.some.injEq,Prod.mk.injEq]at this;exact this.1
  have S:((es[i]?).map (·.key)).getD (mk k)=mk k:=by
   rw[<-zt9,zq0 C,zt6,Option.getD_some];exact L
  have G:(Instr.keyThatStays (mk k) (mk k)).run P w=.ok (mk k) w:=by
   unfold Instr.keyThatStays;rw[if_pos (D.bits k)];rfl
  refine⟨setBlock w b (.map (es.modify i λe=>{ e with key:=mk k,val:=v }) clock),?_,⟨_,_,s _,?_,?_,?_,?_⟩,IB _ _ _⟩
  ·unfold Instr.mapUpdate;simp only[Sem.run_bind,I _ _ N,Result.andThen_ok,getObj,Sem.run,F,D.check,R,hm,S,G,NO F]
  ·rw[Ec,hm];simp only[Array.toList_modify];refine List.ext_getElem? λj=>?_
   have q:=congrArg (λl=>l[j]?) n;simp only[zr5]at q;simp only[zr5,List.getElem?_modify];by_cases e:i=j
   ·subst e;simp[B,zq0 C]
   cases h1:es.toList[j]? <;> cases h2:m[j]? <;> simp[h1,h2,e]at q⊢ <;> exact q
  ·intro e g;simp only[Array.toList_modify]at g;obtain⟨j,q⟩:=List.getElem?_of_mem g;rw[List.getElem?_modify]at q;simp only[Option.map_eq_map,Option.map_eq_some_iff]at q;obtain⟨e0,V,rfl⟩:=q;have:=f e0 (zq2 V);split <;> exact this
  ·have:(es.modify i λe=>{ e with key:=mk k,val:=v }).toList.map (·.born)=es.toList.map (·.born):=by
    simp only[Array.toList_modify];refine List.ext_getElem? λj=>?_
    simp only[zr5,List.getElem?_modify]
    cases es.toList[j]? with
    | none=>simp
    | some e=>by_cases M:i=j <;> simp[M]
   rw[this];exact H
  rw[Ec,hm]
  have:(m.modify i λp=>(p.1,v)).map (·.1)=m.map (·.1):=by
   refine List.ext_getElem? λj=>?_
   simp only[zr5,List.getElem?_modify]
   cases m[j]? with
   | none=>simp
   | some e=>by_cases M:i=j <;> simp[M]
  simp only[this];exact r
end
section
variable{κ : Type}[DecidableEq κ]{mk : κ->Value}{P:Program}{K:TypeId}{w:World}{b:Nat}{m:List (κ × Value)}{ops:Array Oper}{rest:List Oper}{o:Oper}{a:Act}{Q:Exit->Act->World->Prop}
theorem IH(i:o.guard=none)(mo x v:Operand)(T:TypeId)(f:o.op=Op.mapUpdate T mo x v)(j:I5 P K mk)(l:P.underlying T=some (.map K E))(n:a.eval mo=.map (some b))(h:Bv mk w b m)(k : κ)(p:a.eval x=mk k)(val:Value)(q:a.eval v=val)
  (r:∀w',Bv mk w' b (Ec m k val)->w.grownBy w' (some b)->wpList P ops Q rest (a.put o.dst undef) w'):wpList P ops Q (o::rest) a w:=by
 refine wpList_plain i λK' g=>?_
 obtain⟨w',e,r1,r2⟩:=h.updateF j l k val;unfold Oper.wp;simp[execOp,f,n,p,q,e,Result.andThen];exact g _ _ (r w' r1 r2)
theorem WS(g:o.guard=none)(mo x:Operand)(T:TypeId)(ok:Bool)(e:o.op=Op.lookup T mo x ok)(i:I5 P K mk)(j:P.underlying T=some (.map K E)){z:Value}(l:(zeroValue E).run P w=.ok z w)(n:a.eval mo=.map (some b))(h:Bv mk w b m)(k : κ)(p:a.eval x=mk k)
  (q:wpList P ops Q rest (a.put o.dst (if ok=true then .tuple #[(Cz m k).getD z,.bool (Cz m k).isSome]else(Cz m k).getD z)) w):wpList P ops Q (o::rest) a w:=by
 refine wpList_plain g λK' f=>?_
 unfold Oper.wp;simp only[execOp,e,n,p,Sem.run_bind,h.lookupF i j l k ok,Result.andThen];exact f _ _ q
end
end
section
variable{κ : Type}[DecidableEq κ]
def DI(l:List κ):List (κ × Value):=l.map λx=>(x,zY)
theorem Sj{l:List κ}{k : κ}(h:k∉l)(i:Nat):Bi (DI l) k i=none:=by
 induction l generalizing i with
 | nil=>rfl
 | cons x l ih=>
  have a:x≠k:=λe=>h (by simp[e])
  have b:k∉l:=λe=>h (by simp[e])
  show Bi ((x,zY)::DI l) k i=none;rw[Bi,if_neg a];exact ih b _
theorem Sk{l:List κ}{k : κ}(h:k∈l)(i:Nat):∃j,Bi (DI l) k i=some (j,zY):=by
 induction l generalizing i with
 | nil=>cases h
 | cons x l ih=>
  show ∃j,Bi ((x,zY)::DI l) k i=some (j,zY);by_cases a:x=k
  ·exact⟨i,by rw[Bi,if_pos a]⟩
  have b:k∈l:=by
   rcases zr3.1 h with e|e
   ·exact absurd e.symm a
   exact e
  obtain⟨j,f⟩:=ih b (i+1);exact⟨j,by rw[Bi,if_neg a];exact f⟩
theorem pV(l:List κ)(k : κ):Cz (DI l) k=if k∈l then some (zY)else none:=by
 unfold Cz;by_cases h:k∈l
 ·obtain⟨j,a⟩:=Sk h 0;rw[a,if_pos h];rfl
 rw[Sj h,if_neg h];rfl
theorem ZV(l:List α)(j:Nat):(DI l).modify j (λp=>(p.1,zY))=DI l:=by
 refine List.ext_getElem? λi=>?_
 rw[List.getElem?_modify];unfold DI;rw[zr5]
 cases l[i]? with
 | none=>simp
 | some x=>by_cases a:j=i <;> simp[a]
theorem UT(l:List κ)(k : κ):Ec (DI l) k (zY)=DI (if k∈l then l else l++[k]):=by
 unfold Ec;by_cases h:k∈l
 ·obtain⟨j,a⟩:=Sk h 0;rw[a,if_pos h];exact ZV l j
 rw[Sj h,if_neg h];simp[DI]
theorem Sm(l xs:List κ)(x : κ):AJ l (xs++[x])=if x∈AJ l xs then AJ l xs else AJ l xs++[x]:=by
 unfold AJ;rw[List.foldl_append];rfl
theorem O8(l xs ys:List κ):AJ l (xs++ys)=AJ (AJ l xs) ys:=by
 unfold AJ;rw[List.foldl_append]
theorem O9{l xs:List κ}{q : κ}:q∈AJ l xs↔q∈l∨q∈xs:=by
 unfold AJ;induction xs generalizing l with
 | nil=>simp
 | cons x xs ih=>
  rw[List.foldl_cons,ih];by_cases h:x∈l
  ·rw[if_pos h];constructor
   ·rintro(a|a)
    ·exact .inl a
    exact .inr (List.mem_cons_of_mem _ a)
   rintro(a|a)
   ·exact .inl a
   rcases zr3.1 a with rfl|a
   ·exact .inl h
   exact .inr a
  rw[if_neg h];constructor
  ·rintro(a|a)
   ·rcases zr1.1 a with a|a
    ·exact .inl a
    obtain rfl:=zr9.1 a;exact .inr zP
   exact .inr (List.mem_cons_of_mem _ a)
  rintro(a|a)
  ·exact .inl (by simp[a])
  rcases zr3.1 a with rfl|a
  ·exact .inl zP
  exact .inr a
theorem ZW{l xs:List κ}(h:l.Nodup):(AJ l xs).Nodup:=by
 unfold AJ;induction xs generalizing l with
 | nil=>exact h
 | cons x xs ih=>
  rw[List.foldl_cons];refine ih ?_;by_cases f:x∈l
  ·rw[if_pos f];exact h
  rw[if_neg f,List.nodup_append];refine⟨h,by simp,λa g b i=>?_⟩;obtain rfl:=zr9.1 i;exact λe=>f (e ▸ g)
theorem FP(l xs:List κ):(AJ l xs).length<=l.length+xs.length:=by
 unfold AJ;induction xs generalizing l with
 | nil=>simp
 | cons x xs ih=>
  rw[List.foldl_cons];refine zs0 (ih _) ?_;split <;> simp <;> omega
end
structure Off(S:Nat->Prop)(w w':World):Prop where
 os:w'.os=w.os
 tape:w'.tape=w.tape
 output:w'.output=w.output
 size:w.heap.size<=w'.heap.size
 block:∀i,i<w.heap.size->¬S i->w'.heap[i]?=w.heap[i]?
section
variable{S:Nat->Prop}{w w' w1 w2:World}
theorem Off.refl(S:Nat->Prop)(w:World):Off S w w:=⟨rfl,rfl,rfl,zs2 _,λ_ _ _=>rfl⟩
theorem Off.of_below(h:Bw w w'):Off S w w':=⟨h.os,h.tape,h.output,h.size,λi hi _=>h.block i hi⟩
theorem Off.trans(a:Off S w w1)(b:Off S w1 w2):Off S w w2:=⟨b.os.trans a.os,b.tape.trans a.tape,b.output.trans a.output,zs0 a.size b.size,λi hi e=>(b.block i (zs1 hi a.size) e).trans (a.block i hi e)⟩
theorem Off.below(h:Off S w w')(a:n<=w.heap.size)(b:∀i,S i->n<=i):Below n w w':=⟨h.os,h.tape,h.output,h.size,λi hi=>h.block i (zs1 hi a) λe=>by have:=b i e;omega⟩
theorem Off.grown(h:Off S w w')(b:∀i,S i->i=r):w.grownBy w' (some r):=⟨h.os,h.tape,h.output,h.size,λi hi a=>h.block i hi λe=>a (by rw[b i e])⟩
theorem Off.recs(h:Off S w w')(g:Ab 2 Ad w A n l)(k:∀b a,A=some ⟨b,a,none⟩->¬S b):Ab 2 Ad w' A n l:=by
 refine⟨g.1,λm=>?_⟩;obtain⟨b,a,e,f,o⟩:=g.2 m;refine⟨b,a,e,zs1 f h.size,λj x p=>?_⟩;obtain⟨vs,q,r⟩:=o j x p;refine⟨vs,q,λi u s=>?_⟩;rw[<-r i u s];unfold World.cell?;simp only;rw[h.block b f (k b a e)]
end
def spK(p:Pt):Value:=.agg #[zi p.1,zi p.2]
theorem Rh(a b:Pt)(h:spK a=spK b):a=b:=by
 obtain⟨a1,a2⟩:=a;obtain⟨b1,b2⟩:=b;simpa[spK]using h
theorem Pa:I5 prog 56 spK:=by
 refine I5.of_equal underlying56 (λa b w=>CL a b w) (λe a w=>?_) (λa=>?_)
 ·rw[show(10000:Nat)=9998+1+1 from rfl,Instr.checkKey];have u3:=underlying3;have z3:=sizeOf3;have a3:=isAgg3;have c3:=λx=>G7 u3 e 9998 x w
  simp only[spK];go_simp
 unfold Instr.sameBits;simp[spK,OR]
section
open Go.Sort
theorem FQ{α : Type}:∀{l:List (Except Int α)}{z:Int},AE l=.error z->.error z∈l
 | [],z,h=>by cases h
 | .error e::l,z,h=>by
  rw[AE]at h;injection h with h
  subst h;simp
 | .ok x::l,z,h=>by
  rw[AE]at h;split at h
  ·rename_i e a;injection h with h
   subst h;exact List.mem_cons_of_mem _ (FQ a)
  cases h
theorem Nk{b:lP}(h:Cx a b=.error z):z≠0:=by
 unfold Cx at h;split at h
 ·rename_i e f;injection h with h
  subst h;exact ES f
 split at h
 ·rename_i e f;injection h with h
  subst h;exact ES f
 split at h
 ·rename_i e f;injection h with h
  subst h;have:=FQ f;obtain⟨x,_,g⟩:=List.mem_flatMap.1 this;obtain⟨y,_,i⟩:=zr2.1 g;exact Si i
 cases h
theorem Nl{α β γ : Type}(f : α->β->γ)(t:List β):∀s:List α,(s.flatMap λx=>t.map (f x)).length=s.length*t.length
 | []=>by simp
 | x::s=>by
  rw[List.flatMap_cons,zq5,zq6,Nl f t s,zt5,Nat.succ_mul];omega
theorem Or{b:lP}(h:Cx a b=.ok rs):rs.length<=1681:=by
 unfold Cx at h;split at h
 ·cases h
 rename_i s e;split at h
 ·cases h
 rename_i t f;split at h
 ·cases h
 rename_i l g;injection h with h
 subst h;have i:=(Hc e).1;have j:=(Hc f).1;have k:=congrArg List.length (CE g);rw[zq6,Nl]at k;have m:s.length*t.length<=41*41:=Nat.mul_le_mul i j;have n:=O7 l;show(GO l).length<=_;omega
theorem NX(K:Nat):∀{rs:List PL},(∀r∈rs,r.length<=K)->(rs.flatMap id).length<=rs.length*K
 | [],_=>by simp
 | r::rs,h=>by
  have b:=h r zP;have e:=NX K (rs:=rs) (λx a=>h x (by simp[a]));rw[List.flatMap_cons,zq5,zt5,Nat.succ_mul];show r.length+_<=_;omega
def Fz(x:Except Int (List Pt))(w:World)(e:Ending)(w':World):Prop:=Bw w w'∧match x with
 | .ok r=>∃A c,e=.returned (.tuple #[.slice A r.length c,zi 0])∧Ab 2 Ad w' A r.length r∧r.length<=c∧∀b a,A=some ⟨b,a,none⟩->w.heap.size<=b
 | .error z=>e=.returned (.tuple #[zn,zi z])
theorem iI(h:l.Nodup):(DR l).Pairwise (λa b=>CF a b=true):=by
 have g:=Qd l;have i:(DR l).Nodup:=(List.mergeSort_perm l _).nodup_iff.2 h;have j:=g.and (List.nodup_iff_pairwise_ne.1 i)
 exact j.imp λ{a b} e=>by
  by_cases f:CF a b=true
  ·exact f
  have:=L8 e.2 (by simpa using f);rw[this]at e;simp at e
theorem vD(l:lP):DR (AJ [] l)=Dx l:=Ky (iI (ZW List.nodup_nil)) (L9 l) λq=>by rw[Re,Hd,O9];simp
theorem ZX{f:Pt->Bool}{done flat:lP}(a:done.Nodup)(b:∀q,q∈done↔q∈flat):DR (done.reverse.filter f)=(Dx flat).filter f:=by
 refine Ky (iI (((List.reverse_perm done).nodup_iff.2 a).filter _)) ((L9 flat).filter _) λq=>?_
 rw[Re,List.mem_filter,List.mem_filter,Hd,List.mem_reverse,b]
theorem Nm{α : Type}{p q : α->Bool}(a:∀x,q x=true->p x=true){x : α}(f:p x=true)(g:q x=false):∀{l:List α},x∈l->(l.filter q).length<(l.filter p).length
 | [],h=>by cases h
 | y::l,h=>by
  have i:(l.filter q).length<=(l.filter p).length:=by
   rw[<-List.countP_eq_length_filter,<-List.countP_eq_length_filter];exact List.countP_mono_left λx _=>a x
  rcases zr3.1 h with rfl|h
  ·rw[List.filter_cons_of_neg (by simp[g]),List.filter_cons_of_pos f,zt5];omega
  have ih:=Nm a f g h;by_cases e:q y=true
  ·rw[List.filter_cons_of_pos e,List.filter_cons_of_pos (a y e),zt5,zt5];omega
  rw[List.filter_cons_of_neg e];by_cases b:p y=true
  ·rw[List.filter_cons_of_pos b,zt5];omega
  rw[List.filter_cons_of_neg b];exact ih
theorem UU:∀{done keys:lP},done.Nodup->(∀q∈done,q∈keys)->done.length<=keys.length
 | [],_,_,_=>by simp
 | q::d,keys,hn,h=>by
  have a:=h q zP;have b:=List.nodup_cons.1 hn;have g:=UU (keys:=keys.erase q) b.2 λx f=>(List.mem_erase_of_ne (λe=>b.1 (by rw[<-e];exact f))).2 (h x (by simp[f]))
  rw[List.length_erase_of_mem a]at g;have i:=List.length_pos_of_mem a;rw[zt5];omega
def Md(keys done:lP):Nat:=(keys.filter λq=>!done.contains q).length
theorem Ql{done:lP}{q:Pt}(h:q∈keys)(b:q∉done):Md keys (q::done)<Md keys done:=by
 unfold Md;refine Nm (λx a=>?_) (x:=q) ?_ ?_ h
 ·simp only[List.contains_cons,Bool.not_or,Bool.and_eq_true]at a;exact a.2
 ·simpa using b
 simp
theorem pW{k:Pt}(h:(k,v)∈DI keys):k∈keys:=by
 obtain⟨x,a,e⟩:=zr2.1 h;injection e with e1 e2
 subst e1;exact a
theorem iJ(h:rs[k]?=some x):(rs.take (k+1)).flatMap id=(rs.take k).flatMap id++x:=by
 rw[List.take_add_one,h,zr7];simp
theorem J9(h:l[k]?=some p):l.take (k+1)=l.take k++[p]:=by rw[List.take_add_one,h];rfl
theorem iK{L xs:lP}(h:xs[k]?=some p):Ec (DI (AJ [] (L++xs.take k))) p (zY)=DI (AJ [] (L++xs.take (k+1))):=by
 rw[UT,J9 h,<-List.append_assoc,Sm]
theorem NY(w:World)(o:Obj):w.heap.size<=(w.alloc o).heap.size:=by simp
theorem Js{b:Nat}{m:List (Pt×Value)}{done:lP}(h:Fa spK w r b m done)(a:Bw w w'):Fa spK w' r b m done:=h.kept (q:=none) ⟨a.os,a.tape,a.output,a.size,λk e _=>a.block k e⟩ zP zP
theorem XL{a size b:Nat}(h:w.ownsRow a e size v n xs)(f:b<a):some b≠v.ownBlock:=λq=>by
 have:=(h.lt b q.symm).1;omega
theorem iL(A1 A2:oA)(n1 c1 n2 c2:Nat)(a b:lP)(w:World)(ha:Ab 2 Ad w A1 n1 a)(hb:Ab 2 Ad w A2 n2 b)(b5:n1<=c1)(b6:n2<=c2)(b7:n1<=1000000)(b8:n2<=1000000) :
  CP 141 #[.slice A1 n1 c1,.slice A2 n2 c2] w (Fz (Cs a b) w):=by
 have F:=WR A1 A2 n1 c1 n2 c2 a b w ha hb b5 b6 b7 b8;obtain⟨Q,hQ⟩:=zG (Fz (Cs a b) w);rw[hQ]
 cases hs:Cx a b with
 | error z=>
  rw[hs]at F;have hz:=Nk hs;have c5:(z != 0)=true:=by simpa using hz
  have HQ:Hid (Q=Fz (.error z) w):=by rw[Hid,<-hQ];unfold Cs;rw[hs]
  have F:=zH F;clear hQ hs ha hb;go_enter func141,ntmps141;go_wp2_with(go_at_call 183;refine F.o.mono ?_;rintro e w1 ⟨I,O⟩;replace O:e=.returned (.tuple #[zn,zi z]):=O;subst O;have n:=zH I;clear I)
  rw[HQ.o];exact⟨n.o,rfl⟩
 | ok rs=>
  rw[hs]at F;have HQ:Hid (Q=Fz (.ok ((Dx (rs.flatMap id)).filter λv=>!CX rs v)) w):=by rw[Hid,<-hQ];unfold Cs;rw[hs]
  have c6:=Or hs;have S:=zH (Mc hs);have b9:=zH (NX 160 (λr hr=>(S.o r hr).2));have F:=zH F;have ba:=@run_makeMap prog;clear hQ hs ha hb;go_enter func141,ntmps141;go_wp2_with(go_at_call 183;refine F.o.mono ?_;rintro e w1 ⟨I,O⟩;obtain⟨B1,d1,O,y,c8⟩:=O;subst O;have n:=zH I;have af:=zH y;clear I y F)
  clear ba
  go_loopw[10,12,27,28,29,30,31,32,33,34,35,36,37,38,39,40] (λ_ _ i _ _ _ _ _ _ _ _ _ _ _ _ _ wr=>∃k:Nat,k<=rs.length∧i=zi (k:Int)∧Hid (Bv spK wr w1.heap.size (DI (AJ [] ((rs.take k).flatMap id))))∧Hid (Bw w1 wr)) (λ_ _ i _ _ _ _ _ _ _ _ _ _ _ _ _ _=>rs.length-(intOf i).toNat)
  case atStart=>exact⟨0,zs3 _,rfl,zH (Bv.made _ _),zH (zA _)⟩
  case round=>
   obtain⟨k,hk,rfl,HM,J⟩:=hrel;by_cases bb:k<rs.length
   ·obtain⟨b1,a0,x,B,m,cx,rfl,bc,hx,d0',y,c9⟩:=P5 af.o bb;have d0:=(J.o.cell (p:=ad b1 (a0+k)) bc).trans d0';have hm:=y.len;have ca:=(S.o x (zq2 hx)).2;have bd:=zH y;have ag:=zH (iJ hx);have i1:(0:Int)<=(k:Int):=zO;have i2:(k:Int)<(rs.length:Int):=zO;obtain⟨L,hL⟩:=zG ((rs.take k).flatMap id);rw[hL]at ag HM;clear y hx hL d0'
    go_wp2_with fail
    go_loopw[12,33,34,35,36,37,38,39] (λ_ i _ _ _ _ _ _ wr=>∃j:Nat,j<=m∧i=zi (j:Int)∧Hid (Bv spK wr w1.heap.size (DI (AJ [] (L++x.take j))))∧Hid (Bw w1 wr)) (λ_ i _ _ _ _ _ _ _=>m-(intOf i).toNat)
    case atStart=>exact⟨0,zs3 _,rfl,zH (by simpa using HM.o),J⟩
    case round=>
     obtain⟨j,hj,rfl,ah,T⟩:=hrel;by_cases be:j<m
     ·obtain⟨b2,c4,p,rfl,cb,hp,f0,f1⟩:=Ap (bd.o.on Aa T.o) be;have bf:=zH (iK (L:=L) hp);obtain⟨i3,i4⟩:=zI (k:=j) (n:=m) (by omega);have s:Bw wr (zw wr #[zi p.1,zi p.2] 56):=zA _;have bg:=zH (ah.o.below s);have bh:=zH (zT T.o s);have uM:=underlying195;clear hp s;go_wp2_with(at_mapUpdate;refine IH (by rfl) _ _ _ _ (by rfl) Pa uM (by rfl) bg.o p (by rfl) (zY) (by rfl) ?_;intro w6 a1 C;rw[bf.o]at a1;have bi:=zH a1;have bj:=zH C;clear a1 C)
      go_roundw
      case rel=>exact⟨j+1,by omega,by go_num,bi,zH (DC bh.o bj.o (zs2 _))⟩
      case measure=>exact zM
     obtain rfl:j=m:=zO
     go_wp2_with fail
     go_roundw
     case rel=>exact⟨k+1,by omega,by go_num,zH (by have:=ah.o;rwa[zq4 zO,<-ag.o]at this),T⟩
     case measure=>exact zM
   obtain rfl:k=rs.length:=zO;rw[zq4 (zs2 _)]at HM;obtain⟨w2,rfl⟩:∃w2:World,w2=wr:=⟨_,rfl⟩;obtain⟨keys,t⟩:=zG (AJ [] (rs.flatMap id));have bk:Hid (∀q,q∈keys↔q∈rs.flatMap id):=zH (λq=>by rw[<-t,O9];simp)
   have cc:keys.length<=300000:=by
    have K:=FP [] (rs.flatMap id);have Z:=b9.o;rw[t]at K;simp only[List.length_nil]at K;omega
   rw[t]at HM;have uM:=underlying195;clear t;go_wp2_with(at_range;refine fE (by rfl) _ _ (by rfl) uM (by rfl) HM.o ?_;intro w3 ai aj bl;go_frame)
   have M:=zH ai;have bm:=zH (zT J.o aj);have bn:Hid (w2.heap.size<w3.heap.size):=zH zO;have l:=zH J.o.size;clear ai aj bl uM
   go_loopg [13,14,43,44,45,46,47,48,49,50,51,52,53,54] (Md keys []) (λg v _ _ _ _ _ _ _ _ _ _ _ _ _ wr=>∃(done lst:lP)(A:oA)(c:Nat),Hid (g=Md keys done)∧v=.slice A lst.length c∧Hid (lst=done.reverse.filter λq=>!CX rs q)∧Hid (wr.ownsRow (w2.heap.size+1) 56 2 (.slice A lst.length c) lst.length (lst.flatMap spC))∧Hid (Fa spK wr w2.heap.size w1.heap.size (DI keys) done)∧Hid (done.Nodup∧∀q∈done,q∈keys)∧Hid (Bw w1 wr)∧Hid (w2.heap.size<wr.heap.size))
   case atStart=>exact⟨[],[],none,0,rfl,rfl,zH rfl,zH (World.ownsRow_nil _ _ _ _),M,zH ⟨List.nodup_nil,λq h=>by cases h⟩,bm,bn⟩
   case round=>
    obtain⟨done,lst,A,c,ak,rfl,U,HO,M,D,HB,bo⟩:=hrel;have cd:done.length<=keys.length:=UU D.o.1 D.o.2
    have ce:lst.length<=300000:=by
     rw[U.o];have:=List.length_filter_le (λq=>!CX rs q) done.reverse;rw[List.length_reverse]at this;omega
    by_cases G:∀p∈DI keys,p.1∈done
    ·have R:=zH G
     have al:Hid (DR lst=(Dx (rs.flatMap id)).filter λq=>!CX rs q):=zH (by
      rw[U.o];refine ZX D.o.1 λq=>?_
      rw[<-bk.o q];refine⟨D.o.2 q,λhq=>?_⟩;exact R.o (q,zY) (zr2.2 ⟨q,hq,rfl⟩))
     rw[<-al.o]at HQ;clear G al;by_cases h0:lst.length=0
     ·have bp:lst=[]:=zt7 h0;subst bp;have bq:=zH (λW=>R5 A c (.func (.func 185) #[] #[]) W);clear h0
      go_wp2_with(first
       | (at_next;refine OS (by rfl) _ (by rfl) Rh (by rfl) M.o ?_ (λk v w' K Z _ _ _ _=>absurd (R.o _ K) Z);intro H;clear H)
       | (go_at_call 103;refine(bq.o _).mono ?_;rintro e w6 ⟨rfl,rfl⟩))
      rw[HQ.o];have br:DR []=[]:=by simp[DR]
      rw[br];refine⟨zT n.o HB.o,A,c,rfl,Ab.nil _ _ _ _,zs3 _,λb a0 e=>?_⟩;have K:=(HO.o.lt b (by rw[e];rfl)).1;have Z:=n.o.size;have h3:=l.o;omega
     obtain⟨g4,rfl,am,_⟩:=GN HO.o zO;have bt:=Lo HO.o;have bu:=zH (OY 185 Q7 g4 0 c lst wr (HSp.of_own HO.o) zO);have an:=zH am;have ao:=zH (NT lst);clear h0 am
     go_wp2_with(first
      | (at_next;refine OS (by rfl) _ (by rfl) Rh (by rfl) M.o ?_ (λk v w' K Z _ _ _ _=>absurd (R.o _ K) Z);intro H;clear H)
      | (go_at_call 103;refine bu.o.mono ?_;rintro e w6 ⟨rfl,a2,a3⟩;have a4:=zH a2;have V:=zH (DC HB.o a3 (by have:=an.o;have:=l.o;omega));clear a2 a3))
     rw[HQ.o];refine⟨zT n.o V.o,_,c,by rw[ao.o];rfl,a4.o.recs,by rw[ao.o];exact bt,λb a0 e=>?_⟩;injection e with e
     injection e with e1 e2
     have K:=an.o;have Z:=n.o.size;have h3:=l.o;omega
    have bv:=zH G;clear G;go_wp2_with(at_next;refine OS (by rfl) _ (by rfl) Rh (by rfl) M.o (λh=>absurd h bv.o) ?_;intro key v w6 a5 ap a6 C aq a7;replace a7:(Instr.entry (.pointer (sa w2.heap.size 0))).run prog w6=.ok (.tuple #[.agg #[zi key.1,zi key.2],v]) w6:=a7;have a8:=zH (pW a5);have a9:=zH ap;have b3:=zH a6;have V:=zH (DC HB.o C l.o);have bw:=zH (HO.o.kept C (.inr (λe=>by have:=(HO.o.lt _ e).1;omega)));have a4:=zH aq;clear a5 ap a6 C aq)
    have s:Bw w6 (zw w6 #[zi key.1,zi key.2] 56):=zA _;have E:=zH (zT V.o s);have ar:=zH (Ah bw.o s);have aa:=zH (Js b3.o s);have X:=zH (λW (h:Bw w1 W)=>WO B1 rs.length d1 rs key W (af.o.on JC h) (λr hr=>⟨λp hp=>((S.o r hr).1 p hp).d,by have:=(S.o r hr).2;omega⟩) zO);have au:Hid (w2.heap.size<w6.heap.size):=zH (by rw[a4.o];exact bo.o)
    have ab:Hid ((key::done).Nodup∧∀q∈key::done,q∈keys):=zH ⟨List.nodup_cons.2 ⟨a9.o,D.o.1⟩,λq hq=>by
     rcases zr3.1 hq with rfl|hq
     ·exact a8.o
     exact D.o.2 q hq⟩
    have av:=zH (Blk.new w6 56 #[zi key.1,zi key.2]);clear a7 s
    cases hbl:CX rs key with
    | true=>
     rw[hbl]at X;have ac:Hid (lst=(key::done).reverse.filter λq=>!CX rs q):=zH (by rw[U.o,List.reverse_cons,List.filter_append];simp[hbl]);clear hbl;go_wp2_with(go_at_call 184;refine(X.o _ E.o).mono ?_;rintro e w8 ⟨rfl,f⟩;have N:=zH f;clear f)
     go_roundg (Md keys (key::done))
     case measure=>rw[ak.o];exact Ql a8.o a9.o
     case rel=>exact⟨key::done,lst,A,c,rfl,rfl,ac,zH (Ah ar.o N.o),zH (Js aa.o N.o),ab,zH (zT E.o N.o),zH (zs1 au.o (zs0 (NY _ _) N.o.size))⟩
    | false=>
     rw[hbl]at X;have ac:Hid (lst++[key]=(key::done).reverse.filter λq=>!CX rs q):=zH (by rw[U.o,List.reverse_cons,List.filter_append];simp[hbl]);clear hbl
     go_wp2_with(first
      | (go_at_call 184;refine(X.o _ E.o).mono ?_;rintro e w8 ⟨rfl,f⟩;have N:=zH f;obtain⟨x0,x1⟩:=AR (av.o.below f);have xl:=(av.o.below f).lt;have Y:=zH (Ah (Ah ar.o f) (zA (.cells #[zi key.1,zi key.2] 56)));have aw:=zH (Below.alo (zT E.o f) (.cells #[zi key.1,zi key.2] 56));have b4:=zH (Js (Js aa.o f) (zA (.cells #[zi key.1,zi key.2] 56)));have ax:=zH (zs1 au.o (zs0 (NY _ _) (zs0 f.size (NY _ (.cells #[zi key.1,zi key.2] 56)))));clear f)
      | (at_builtin;refine Bt (P:=prog) (by rfl) _ _ 64 (by rfl) (w2.heap.size+1) 56 (.agg #[zi 0,zi 0]) 2 16 underlying64 BY rfl zD (.slice A lst.length c) lst.length (lst.flatMap spC) (by rfl) Y.o ⟨w8.heap.size,0,none⟩ 1 1 (spC key) (by rfl) (by rfl) (FN _ _ _) (DH _) zU zO (by exact ax.o) ?_;intro v7 w7 ay ae bx;obtain⟨A7,c7,bz,az⟩:=Ma ay rfl;subst bz;have c0:=zH az;have b0:=zH ae;have c3:=zH (zs1 ax.o ae.size);clear ay ae bx az))
     go_roundg (Md keys (key::done))
     case measure=>rw[ak.o];exact Ql a8.o a9.o
     case rel=>exact⟨key::done,lst++[key],A7,c7,rfl,by simp,ac,c0,zH (b4.o.kept b0.o (XL Y.o (zs7 _)) (XL Y.o (zV l.o))),ab,zH (Ax aw.o b0.o aw.o.size (λg e=>by have:=(Y.o.lt g e).1;have:=l.o;omega)),c3⟩
end
theorem ZY(h:60<puts.length):Ce b ss puts=5:=by unfold Ce;rw[if_pos h]
theorem pX(h:¬60<puts.length)(a:puts[k]?=some q)(j:∀i x,i<k->puts[i]?=some x->Bh b ss (puts.take i) x=0)(g:Bh b ss (puts.take k) q=z)(l:z≠0):Ce b ss puts=z:=by
 unfold Ce;rw[if_neg h];have e:k<puts.length:=(zq1.1 a).1;refine(Kh (f:=λi=>Bh b ss (puts.take i) (puts.getD i ⟨0,⟨false,0⟩,(0,0)⟩)) e (λi hi=>?_) ?_).trans ?_
 ·rw[zq3,zq0 (Nat.lt_trans hi e)];exact j i _ hi (zq0 (Nat.lt_trans hi e))
 ·show Bh b ss (puts.take k) _≠0;rw[zq3,a];show Bh b ss (puts.take k) q≠0;rw[g];exact l
 rw[zq3,a];exact g
theorem ZZ(h:¬60<puts.length)(a:∀i x,i<puts.length->puts[i]?=some x->Bh b ss (puts.take i) x=0):Ce b ss puts=0:=by
 unfold Ce;rw[if_neg h];refine Iw λi hi=>?_
 rw[zq3,zq0 hi];exact a i _ hi (zq0 hi)
theorem Z0(b:AG)(A:oA)(n c:Nat)(ss:List Ae)(P:oA)(m d:Nat)(puts:List Am)(w:World)(R:Ab 5 D6 w A n ss)(L:Ab 5 Hs w P m puts)(a1:m<=d)(hm:m<=1000000)(S:∀s∈ss,s.poly.length<=1000000)(B:∀q∈puts,Q4 q.turn) :
  CP 50 #[.agg #[zi b.length,zi b.width,zi b.rx,zi b.ry],.slice A n c,.slice P m d] w (zR (zi (Ce b ss puts)) w):=by
 obtain⟨F,y⟩:=zG (Ce b ss puts);rw[y];have M:Hid (Bw w (zw w #[zi b.length,zi b.width,zi b.rx,zi b.ry] 33)):=zH (Rg b w);have C:=L.len;by_cases a2:60<m
 ·have D:Hid (F=5):=zH (by rw[<-y,ZY zO]);clear y R L S B C;go_enter func50,ntmps50;go_wp2;go_ret;exact⟨by rw[D.o];rfl,M.o⟩
 have HX:=zH (Blk.new w 33 #[zi b.length,zi b.width,zi b.rx,zi b.ry]);have HA:=zH R;have U:=zH L;have V:=zH S;have N:=zH B;have X:Hid (∀(k:Nat)(q:Am)(z:Int),puts[k]?=some q->(∀i x,i<k->puts[i]?=some x->Bh b ss (puts.take i) x=0)->Bh b ss (puts.take k) q=z->z≠0->F=z):=zH (λk q z h1 h2 h3 h4=>by rw[<-y,pX zO h1 h2 h3 h4]);have Y:Hid ((∀i x,i<m->puts[i]?=some x->Bh b ss (puts.take i) x=0)->F=0):=zH (λh=>by rw[<-y,ZZ zO (by rw[C];exact h)]);clear y R L S B C;go_enter func50,ntmps50
 go_wp2_with fail
 go_loopw[7,8,9,15,16,17,18,19,20,21,22,23,24,25,26,27,28,29,30] (λ_ _ _ i _ _ _ _ _ _ _ _ _ _ _ _ _ _ _ wr=>∃j:Nat,j<=m∧i=zi (j:Int)∧Hid (∀i x,i<j->puts[i]?=some x->Bh b ss (puts.take i) x=0)∧Hid (Blk wr w.heap.size 33 #[zi b.length,zi b.width,zi b.rx,zi b.ry])∧Hid (Bw w wr)) (λ_ _ _ i _ _ _ _ _ _ _ _ _ _ _ _ _ _ _ _=>m-(intOf i).toNat)
 case atStart=>exact⟨0,zs3 _,rfl,zH (λi x h=>by omega),HX,M⟩
 case round=>
  obtain⟨j,hj,rfl,E,Z,f⟩:=hrel;by_cases O:j<m
  ·obtain⟨b2,a,q,rfl,t,r,f0',f1',f2',f3',f4'⟩:=Ik U.o O;have f0:=(f.o.cell (p:=ad b2 (a+j*5)) t).trans f0';have f1:=(f.o.cell (p:=ad b2 (a+j*5+1)) t).trans f1';have f2:=(f.o.cell (p:=ad b2 (a+j*5+2)) t).trans f2';have f3:=(f.o.cell (p:=ad b2 (a+j*5+3)) t).trans f3';have f4:=(f.o.cell (p:=ad b2 (a+j*5+4)) t).trans f4';have G:Bw wr (zw wr #[zi q.shape,.bool q.turn.flip,zi q.turn.quarter,zi q.at_.1,zi q.at_.2] 87):=zA _;have l:=zH (zT f.o G);have H:=zH (Z.o.below G);have HK:=zH (λW (h:Bw (zw wr #[zi q.shape,.bool q.turn.flip,zi q.turn.quarter,zi q.at_.1,zi q.at_.2] 87) W)=>zu2 (Ez (H.o.below h)) (Dm ((Blk.new wr 87 #[zi q.shape,.bool q.turn.flip,zi q.turn.quarter,zi q.at_.1,zi q.at_.2]).below h)));have g:=Below.refl (zw wr #[zi q.shape,.bool q.turn.flip,zi q.turn.quarter,zi q.at_.1,zi q.at_.2] 87).heap.size (zw wr #[zi q.shape,.bool q.turn.flip,zi q.turn.quarter,zi q.at_.1,zi q.at_.2] 87);have I:=zH (λW (h:Bw w W)=>US b A n c ss (sa b2 a) j d (puts.take j) q W (HA.o.on Bz h) ((U.o.take (Nat.le_of_lt O)).on D7 h) zO V.o (N.o q (zq2 r)) (λx J=>N.o x (List.mem_of_mem_take J)));obtain⟨i1,i2⟩:=zI (k:=j) (n:=m) (by omega);have i3:(j:Int)<=(m:Int):=zO;have i4:(j:Int)<=(d:Int):=zO;have HV:=zH r;obtain⟨z,T⟩:=zG (Bh b ss (puts.take j) q);have HZ:=zH T;rw[T]at I
   clear r f0' f1' f2' f3' f4' G T;by_cases v:z=0
   ·subst v
    have a0:Hid (∀i x,i<j+1->puts[i]?=some x->Bh b ss (puts.take i) x=0):=zH (λi x hi J=>by
     by_cases e:i=j
     ·subst e;rw[HV.o]at J;rw[<-zs6 J];exact HZ.o
     exact E.o i x zO J)
    go_wp2_with fail
    go_region_held3(λw'=>(w'.cell? (ad w.heap.size 0)=some (zi b.length)∧w'.cell? (ad w.heap.size 1)=some (zi b.width)∧w'.cell? (ad w.heap.size 2)=some (zi b.rx)∧w'.cell? (ad w.heap.size 3)=some (zi b.ry))∧(w'.cell? (ad wr.heap.size 0)=some (zi q.shape)∧w'.cell? (ad wr.heap.size 1)=some (.bool q.turn.flip)∧w'.cell? (ad wr.heap.size 2)=some (zi q.turn.quarter)∧w'.cell? (ad wr.heap.size 3)=some (zi q.at_.1)∧w'.cell? (ad wr.heap.size 4)=some (zi q.at_.2)))
     ((refine HK.o _ ?_;repeat(first|(with_reducible exact zJ)|(with_reducible exact g)|(with_reducible refine Below.drew ?_))))
     ((go_at_call 70;go_must((refine(I.o _ (by repeat(first|(with_reducible exact l.o)|(with_reducible refine Below.drew ?_)))).mono ?_);rintro e w5 ⟨rfl,r⟩;replace g:=Ag g r;clear r)))
    have K:=zH (zT l.o g);have Q:=zH (H.o.below g);clear g
    go_wp2_with fail
    go_roundw
    case rel=>exact⟨j+1,by omega,by go_num,a0,Q,K⟩
    case measure=>exact zM
   have D:=zH (X.o j q z HV.o E.o HZ.o v);have a3:(z != 0)=true:=by simpa using v
   clear v
   go_wp2_with fail
   go_region_held3(λw'=>(w'.cell? (ad w.heap.size 0)=some (zi b.length)∧w'.cell? (ad w.heap.size 1)=some (zi b.width)∧w'.cell? (ad w.heap.size 2)=some (zi b.rx)∧w'.cell? (ad w.heap.size 3)=some (zi b.ry))∧(w'.cell? (ad wr.heap.size 0)=some (zi q.shape)∧w'.cell? (ad wr.heap.size 1)=some (.bool q.turn.flip)∧w'.cell? (ad wr.heap.size 2)=some (zi q.turn.quarter)∧w'.cell? (ad wr.heap.size 3)=some (zi q.at_.1)∧w'.cell? (ad wr.heap.size 4)=some (zi q.at_.2)))
    ((refine HK.o _ ?_;repeat(first|(with_reducible exact zJ)|(with_reducible exact g)|(with_reducible refine Below.drew ?_))))
    ((go_at_call 70;go_must((refine(I.o _ (by repeat(first|(with_reducible exact l.o)|(with_reducible refine Below.drew ?_)))).mono ?_);rintro e w5 ⟨rfl,r⟩;replace g:=Ag g r;clear r)))
   have K:=zH (zT l.o g);have Q:=zH (H.o.below g);clear g
   go_wp2_with fail
   go_ret;exact⟨by rw[D.o];rfl,K.o⟩
  obtain rfl:j=m:=zO;have D:=zH (Y.o E.o)
  go_wp2_with fail
  go_ret;exact⟨by rw[D.o];rfl,f.o⟩
def I6:List Pt->Int
 | []=>0
 | v::r=>r.foldl (λm s=>max m s.1) v.1
theorem iM(F:lP)(v:Pt):I6 (F++[v])=if F=[]then v.1 else max (I6 F) v.1:=by
 cases F with
 | nil=>rfl
 | cons a l=>
  show(l++[v]).foldl _ a.1=_;rw[List.foldl_append,if_neg zP];rfl
theorem WT(h:AE (puts.map (Af ss))=.error z):De ss puts=.error z:=by unfold De;rw[h]
theorem Z1{l:List PL}(h:AE (puts.map (Af ss))=.ok l):De ss puts=.ok (I6 (l.flatMap id)):=by
 unfold De;rw[h];simp only
 cases l.flatMap id <;> rfl
theorem No(h:puts[j]?=some q)(a:Af ss q=.ok t):done.map (Except.ok (ε:=Int))++(puts.drop j).map (Af ss)=(done++[t]).map Except.ok++(puts.drop (j+1)).map (Af ss):=by
 rw[Et h,List.map_cons,a];simp
theorem Np(h:puts[j]?=some q)(a:Af ss q=.error z):AE (done.map (Except.ok (ε:=Int))++(puts.drop j).map (Af ss))=.error z:=by
 rw[Et h,List.map_cons,a,J8]
end Go.Proofs.YteafekbddckemaaGreatDoor
