/- Parts of the proof. -/
import Derived.Maps.OwnSet
import Derived.Maps.RangeRun
import Derived.Test.YteafekbddckemaaGreatDoorH01
set_option maxRecDepth 100000
set_option maxHeartbeats 40000000
namespace Go.Proofs.YteafekbddckemaaGreatDoor
open Tryz Go.RowKit
open Go.Lib hiding intOf
variable{B a b clock g i k n r size:Nat}{E K T e:TypeId}{es:List MapEntry}{p:Addr}{v z:Value}{w w1 w2:World}{xs:lV}{zs:List ByteArray}
def Sl(w:World)(B:Nat)(A:oA)(n:Nat)(xs:lV):Prop:=
 xs.length=n∧(0<n->∃b a,A=some ⟨b,a,none⟩∧b<B∧∀j u,xs[j]?=some u->w.cell? (ad b (a+j))=some u)
def Ar(xs:List Int):List Value:=xs.map (Value.int .i64)
def Hh(xs:List ByteArray):List Value:=xs.map Value.string
section
variable{w w':World}{B B' n:Nat}{A:oA}{xs:lV}
theorem Sl.none_:Sl w B A 0 []:=⟨rfl,λh=>absurd h zO⟩
theorem Sl.len(h:Sl w B A n xs):xs.length=n:=h.1
theorem Sl.at_(h:Sl w B A n xs)(j:k<n):∃b a u,A=some ⟨b,a,none⟩∧b<B∧xs[k]?=some u∧zL w b (a+k) u:=by
 obtain⟨b,a,e,g,i⟩:=h.2 zO;have f:k<xs.length:=by have:=h.1;omega
 exact⟨b,a,xs[k],e,g,zq0 f,i k _ (zq0 f)⟩
theorem Sl.int_{zs:List Int}(h:Sl w B A n (Ar zs))(g:k<n):∃b a x,A=some ⟨b,a,none⟩∧b<B∧zs[k]?=some x∧zL w b (a+k) (zi x):=by
 obtain⟨b,a,u,e,i,f,j⟩:=h.at_ g;simp only[Ar,zr5,Option.map_eq_some_iff]at f;obtain⟨x,l,rfl⟩:=f;exact⟨b,a,x,e,i,l,j⟩
theorem Sl.str_(h:Sl w B A n (Hh zs))(g:k<n):∃b a x,A=some ⟨b,a,none⟩∧b<B∧zs[k]?=some x∧zL w b (a+k) (.string x):=by
 obtain⟨b,a,u,e,i,f,j⟩:=h.at_ g;simp only[Hh,zr5,Option.map_eq_some_iff]at f;obtain⟨x,l,rfl⟩:=f;exact⟨b,a,x,e,i,l,j⟩
theorem Sl.keep(h:Sl w B A n xs)(g:∀p:Addr,p.block<B->w'.cell? p=w.cell? p):Sl w' B A n xs:=
 ⟨h.1,λi=>by
  obtain⟨b,a,e,f,k⟩:=h.2 i;exact⟨b,a,e,f,λj u l=>(g _ f).trans (k j u l)⟩⟩
theorem Sl.more(h:Sl w B A n xs)(i:B<=B'):Sl w B' A n xs:=
 ⟨h.1,λf=>by
  obtain⟨b,a,e,j,g⟩:=h.2 f;exact⟨b,a,e,by omega,g⟩⟩
theorem Sl.below(h:Sl w B A n xs)(a:Below B w w'):Sl w' B A n xs:=h.keep λ_ b=>a.cell b
theorem Sl.on(h:Sl w w.heap.size A n xs)(a:Bw w w'):Sl w' w'.heap.size A n xs:=(h.below a).more a.size
theorem Sl.drew(h:Sl w B A n xs):Sl w.drew B A n xs:=h
theorem Sl.drewN(h:Sl w B A n xs)(k:Nat):Sl (w.drewN k) B A n xs:=h
theorem Sl.alloc(h:Sl w B A n xs)(a:B<=w.heap.size)(o:Obj):Sl (w.alloc o) B A n xs:=h.keep λp b=>World.cell?_alloc_lt w o p zO
theorem Sl.setCell(h:Sl w B A n xs)(a:B<=p.block)(u:Value):Sl (w.setCell p u) B A n xs:=
 h.keep λq b=>World.cell?_setCell_other w p q u (λe=>by subst e;omega)
theorem Sl.of_own{c:Nat}(h:w.ownsRow a e 1 (.slice A n c) n xs):Sl w w.heap.size A n xs:=by
 refine⟨by simpa using h.1,λf=>?_⟩;obtain⟨g,cap,i,_,b⟩:=h.form f;have k:A=some ⟨g,0,none⟩:=by injection i
 subst k;refine⟨g,0,rfl,b,λj u l=>?_⟩;have:=h.cells (g:=g) rfl j u l;rw[Go.WideShapes.add_plain]at this;simpa using this
theorem cL(h:w.ownsRow a e size v n xs)(f:b<a):some b≠v.ownBlock:=by
 rcases h.2 with⟨rfl,_⟩|⟨g,cap,cur,rfl,i,_⟩
 ·simp[Value.ownBlock]
 simp[Value.ownBlock];omega
theorem AX(h:w.ownsRow a e size v n xs):∃A' c,v=.slice A' n c:=by
 rcases h.2 with⟨rfl,rfl⟩|⟨g,cap,cur,rfl,b,_⟩
 ·exact⟨_,_,rfl⟩
 exact⟨_,_,rfl⟩
theorem Tr(zs:List Int):(Ar zs).length=zs.length:=by simp[Ar]
theorem Ts(zs:List ByteArray):(Hh zs).length=zs.length:=by simp[Hh]
theorem Sl.ilen{zs:List Int}(h:Sl w B A n (Ar zs)):zs.length=n:=by rw[<-Tr];exact h.1
theorem Sl.slen(h:Sl w B A n (Hh zs)):zs.length=n:=by rw[<-Ts];exact h.1
theorem Ai{a:World}(h:Below B a w)(k:Nat):Below B a (w.drewN k):=(zX h)
theorem BR(w:World)(B k:Nat):Below B w (w.drewN k):=Ai zJ k
end
def Blk(w:World)(g:Nat)(t:TypeId)(cs:aV):Prop:=w.heap[g]?=some (.cells cs t (0,0))
section
variable{w w':World}{g:Nat}{t:TypeId}{cs:aV}
theorem Blk.lt(h:Blk w g t cs):g<w.heap.size:=by
 rcases Nat.lt_or_ge g w.heap.size with a|b
 ·exact a
 unfold Blk at h;rw[Array.getElem?_eq_none b]at h;cases h
theorem Blk.cell(h:Blk w g t cs)(i:Nat):w.cell? (ad g i)=cs[i]?:=cell_of_row w g i cs t (0,0) h
theorem Blk.frozen(h:Blk w g t cs)(i:Nat):w.frozen? (ad g i)=false:=by
 unfold Blk at h;simp[World.frozen?,h]
theorem Blk.new(w:World)(t:TypeId)(cs:aV):Blk (w.alloc (.cells cs t)) w.heap.size t cs:=heap_alloc_new w _
theorem Blk.new'(w:World)(t:TypeId)(cs:aV)(h:w.heap.size=g):Blk (w.alloc (.cells cs t)) g t cs:=by
 subst h;exact Blk.new w t cs
theorem Blk.drewN(h:Blk w g t cs)(n:Nat):Blk (w.drewN n) g t cs:=h
theorem Blk.drew(h:Blk w g t cs):Blk w.drew g t cs:=h
theorem Blk.alloc(h:Blk w g t cs)(o:Obj):Blk (w.alloc o) g t cs:=(Below.heap_alloc w o g h.lt).trans h
theorem Blk.set_(h:Blk w g t cs)(i:Nat)(u:Value):Blk (w.setCell (ad g i) u) g t (cs.setIfInBounds i u):=by
 unfold Blk at h⊢
 simp[World.setCell,Array.getElem?_modify,h]
theorem Blk.far(h:Blk w g t cs)(a:g≠p.block)(u:Value):Blk (w.setCell p u) g t cs:=(Below.heap_setCell w p u g a).trans h
theorem Blk.below(h:Blk w g t cs)(a:Bw w w'):Blk w' g t cs:=(a.block g h.lt).trans h
theorem Blk.c(h:Blk w g t cs)(a:cs[i]?=some v):w.cell? (ad g i)=some v:=(h.cell i).trans a
end
section
open Go.RowKit Go.ChangeMaps
section
variable{κ : Type}
def Bv(mk : κ->Value)(w:World)(b:Nat)(m:List (κ × Value)):Prop:=
 ∃es clock,w.heap[b]?=some (.map es clock)∧es.toList.map (λe=>(e.key,e.val))=m.map (λp=>(mk p.1,p.2))∧(∀e∈es.toList,e.born<clock)∧(es.toList.map (·.born)).Nodup∧(m.map (·.1)).Nodup
variable{mk : κ->Value}{P:Program}{K:TypeId}{w w':World}{b:Nat}{m:List (κ × Value)}
theorem Bv.lt(h:Bv mk w b m):b<w.heap.size:=by
 obtain⟨es,clock,a,_⟩:=h;exact(Array.getElem?_eq_some_iff.1 a).1
theorem Bv.made(mk : κ->Value)(w:World):Bv mk (w.alloc (.map #[] 0)) w.heap.size []:=⟨#[],0,heap_alloc_new w _,rfl,by simp,by simp,by simp⟩
theorem Bv.kept{r:Option Nat}(h:Bv mk w b m)(f:w.grownBy w' r)(a:some b≠r):Bv mk w' b m:=by
 have e:=h.lt;obtain⟨es,clock,g,i⟩:=h;exact⟨es,clock,(f.block b e a).trans g,i⟩
theorem Bv.below(h:Bv mk w b m)(e:Bw w w'):Bv mk w' b m:=by
 have a:=h.lt;obtain⟨es,clock,f,g⟩:=h;exact⟨es,clock,(e.block b a).trans f,g⟩
theorem Bv.len(h:Bv mk w b m)(i:P.underlying T=some (.map K E))(ty:TypeId):(Builtin.len_ #[T] ty #[.map (some b)]).run P w=.ok (zi (m.length:Int)) w:=by
 obtain⟨es,clock,j,e,_⟩:=h;have a:es.toList.length=m.length:=by have:=congrArg List.length e;simpa using this
 have f:∀t d,P.underlying t=some d->(underlying t).run P w=.ok d w:=λt d h=>by simp[underlying,h]
 have g:es.size=m.length:=by rw[<-a];simp
 unfold Builtin.len_;simp[Sem.run_bind,f _ _ i,Result.andThen_ok,getObj,Sem.run,j,g,goInt]
end
section
variable{κ : Type}[DecidableEq κ]
def Bi:List (κ × Value)->κ->Nat->Option (Nat×Value)
 | [],_,_=>none
 | p::m,k,i=>if p.1=k then some (i,p.2)else Bi m k (i+1)
def Cz(m:List (κ × Value))(k : κ):Option Value:=(Bi m k 0).map (·.2)
def Ec(m:List (κ × Value))(k : κ)(v:Value):List (κ × Value):=match Bi m k 0 with|some (i,_)=>m.modify i (λp=>(p.1,v))|none=>m++[(k,v)]
structure Ub(P:Program)(K:TypeId)(mk : κ->Value):Prop where
 same:∃kd,P.underlying K=some kd∧∀a b,Instr.sameNow kd (mk a) (mk b)=some (decide (b=a))
 check:∀(e:Bool)(a : κ)(w:World),(Instr.checkKey e 10000 K (mk a)).run P w=.ok () w
 bits:∀a,Instr.sameBits 10000 (mk a) (mk a)=true
variable{mk : κ->Value}{P:Program}{K:TypeId}{w w':World}{b:Nat}{m:List (κ × Value)}
theorem OP{kd:TypeDesc}(g:∀a b,Instr.sameNow kd (mk a) (mk b)=some (decide (b=a)))(k : κ):∀{es:List MapEntry}{m:List (κ × Value)}(i:Nat),es.map (λe=>(e.key,e.val))=m.map (λp=>(mk p.1,p.2))->Instr.findNow kd (mk k) es i=some (Bi m k i)
 | [],[],i,_=>rfl
 | [],_::_,i,h=>by simp at h
 | _::_,[],i,h=>by simp at h
 | e::es,p::m,i,h=>by
  simp only[List.map_cons,List.cons.injEq,Prod.mk.injEq]at h;obtain⟨⟨j,l⟩,n⟩:=h;rw[Instr.findNow,j,g,Bi];by_cases f:p.1=k
  ·rw[zu1 f,if_pos f,l]
  rw[zu0 f,if_neg f];exact OP g k (i+1) n
theorem OQ:∀{m:List (κ × Value)}{k : κ}{i j:Nat}{v:Value},Bi m k i=some (j,v)->i<=j∧j<i+m.length∧m[j-i]?=some (k,v)
 | [],_,_,_,_,h=>by cases h
 | p::m,k,i,j,v,h=>by
  rw[Bi]at h;split at h
  ·rename_i a;simp only[Option.some.injEq,Prod.mk.injEq]at h;obtain⟨rfl,rfl⟩:=h;refine⟨zs2 _,by simp,?_⟩;rw[Nat.sub_self,<-a];rfl
  obtain⟨f,g,e⟩:=OQ h;refine⟨by omega,by simp;omega,?_⟩;rw[show j-i=(j-(i+1))+1 by omega];simpa using e
theorem LV:∀{m:List (κ × Value)}{k : κ}{i:Nat},Bi m k i=none->∀p∈m,p.1≠k
 | [],_,_,_,p,a=>by cases a
 | q::m,k,i,h,p,a=>by
  rw[Bi]at h;split at h
  ·cases h
  rename_i e;rcases zr3.1 a with rfl|a
  ·exact e
  exact LV h p a
theorem Bv.lookup(h:Bv mk w b m)(e:Ub P K mk)(j:P.underlying T=some (.map K E))(l:(zeroValue E).run P w=.ok z w)(k : κ)(ok:Bool) :
  (Instr.lookup T (.map (some b)) (mk k) ok).run P w=.ok (if ok=true then .tuple #[(Cz m k).getD z,.bool (Cz m k).isSome]else(Cz m k).getD z) w:=by
 obtain⟨es,clock,n,f,_⟩:=h;obtain⟨kd,g,o⟩:=e.same;have q:=OP o k 0 f;have a:∀t d,P.underlying t=some d->(underlying t).run P w=.ok d w:=λt d h=>by simp[underlying,h]
 unfold Instr.lookup Instr.findKey;simp only[Sem.run_bind,a _ _ j,Result.andThen_ok,getObj,Sem.run,n,e.check,a _ _ g,q,Sem.run_pure,Array.isEmpty]
 cases hm:Bi m k 0 with
 | none=>simp[Cz,hm,l,Result.andThen_ok]
 | some p=>obtain⟨i,v⟩:=p;simp[Cz,hm]
theorem IB(w:World)(b:Nat)(o:Obj):w.grownBy (setBlock w b o) (some b):=
 ⟨rfl,rfl,rfl,by simp[setBlock],λk f a=>by
  unfold setBlock;simp only;rw[Array.getElem?_setIfInBounds_ne (λe=>a (by rw[e]))]⟩
theorem NO{es:Array MapEntry}(a:w.heap[b]?=some (.map es clock))(o':Obj):(setObj b o').run P w=.ok () (setBlock w b o'):=by
 simp[setObj,Sem.run,a,setBlock]
theorem Gv{k : κ}(h:Bi m k 0=none):Ec m k v=m++[(k,v)]:=by rw[Ec,h]
theorem Bv.update(h:Bv mk w b m)(D:Ub P K mk)(N:P.underlying T=some (.map K E))(k : κ)(v:Value) :
  ∃w',(Instr.mapUpdate T (.map (some b)) (mk k) v).run P w=.ok () w'∧Bv mk w' b (Ec m k v)∧w.grownBy w' (some b):=by
 have O:=h.lt;obtain⟨es,clock,F,g,a,H,r⟩:=h;obtain⟨kd,I,S⟩:=D.same;have Q:=OP S k 0 g;have q:∀t d,P.underlying t=some d->(underlying t).run P w=.ok d w:=λt d h=>by simp[underlying,h]
 have s:∀o,(setBlock w b o).heap[b]?=some o:=λo=>by unfold setBlock;simp[O]
 have U:es.toList.length=m.length:=by have:=congrArg List.length g;simpa using this
 cases hm:Bi m k 0 with
 | none=>
  refine⟨setBlock w b (.map (es.push { key:=mk k,val:=v,born:=clock }) (clock+1)),?_,⟨_,_,s _,?_,?_,?_,?_⟩,IB _ _ _⟩
  ·unfold Instr.mapUpdate Instr.findKey;simp only[Sem.run_bind,q _ _ N,Result.andThen_ok,getObj,Sem.run,F,D.check,q _ _ I,Q,hm,NO F,Sem.run_pure]
  ·rw[Gv hm];simp[g]
  ·intro e f;simp only[Array.toList_push,zr1,zr9]at f;rcases f with f|rfl
   ·have:=a e f;omega
   simp
  ·simp only[Array.toList_push,zr0,List.map_cons,List.map_nil];rw[List.nodup_append];refine⟨H,by simp,λx J y z=>?_⟩;simp only[zr9]at z;subst z;obtain⟨e,f,rfl⟩:=zr2.1 J;have:=a e f;omega
  rw[Gv hm,zr0,List.nodup_append];refine⟨r,by simp,λx J y z=>?_⟩;simp only[List.map_cons,List.map_nil,zr9]at z;subst z;obtain⟨p,B,rfl⟩:=zr2.1 J;exact LV hm p B
 | some p=>
  obtain⟨i,v0⟩:=p;obtain⟨_,hi,B⟩:=OQ hm;rw[Nat.sub_zero]at B;have C:i<es.toList.length:=zO
  have L:es.toList[i].key=mk k:=by
   have:=congrArg (λl=>l[i]?) g;simp only[zr5,B,zq0 C,zt6,Option.some.injEq,Prod.mk.injEq]at this;exact this.1
  have R:((es[i]?).map (·.key)).getD (mk k)=mk k:=by
   rw[<-zt9,zq0 C,zt6,Option.getD_some];exact L
  have G:(Instr.keyThatStays (mk k) (mk k)).run P w=.ok (mk k) w:=by
   unfold Instr.keyThatStays;rw[if_pos (D.bits k)];rfl
  refine⟨setBlock w b (.map (es.modify i λe=>{ e with key:=mk k,val:=v }) clock),?_,⟨_,_,s _,?_,?_,?_,?_⟩,IB _ _ _⟩
  ·unfold Instr.mapUpdate Instr.findKey;simp only[Sem.run_bind,q _ _ N,Result.andThen_ok,getObj,Sem.run,F,D.check,q _ _ I,Q,hm,R,G,NO F,Sem.run_pure]
  ·rw[Ec,hm];simp only[Array.toList_modify];refine List.ext_getElem? λj=>?_
   have n:=congrArg (λl=>l[j]?) g;simp only[zr5]at n;simp only[zr5,List.getElem?_modify];by_cases e:i=j
   ·subst e;simp[B,zq0 C]
   cases h1:es.toList[j]? <;> cases h2:m[j]? <;> simp[h1,h2,e]at n⊢ <;> exact n
  ·intro e f;simp only[Array.toList_modify]at f;obtain⟨j,n⟩:=List.getElem?_of_mem f;rw[List.getElem?_modify]at n;simp only[Option.map_eq_map,Option.map_eq_some_iff]at n;obtain⟨e0,V,rfl⟩:=n;have:=a e0 (zq2 V);split <;> exact this
  ·have:(es.modify i λe=>{ e with key:=mk k,val:=v }).toList.map (·.born)=es.toList.map (·.born):=by
    simp only[Array.toList_modify];refine List.ext_getElem? λj=>?_
    simp only[zr5,List.getElem?_modify]
    cases es.toList[j]? with
    | none=>simp
    | some e=>by_cases M:i=j <;> simp[M]
   rw[this];exact H
  rw[Ec,hm]
  have:(m.modify i λp=>(p.1,v)).map (·.1)=m.map (·.1):=by
   refine List.ext_getElem? λj=>?_
   simp only[zr5,List.getElem?_modify]
   cases m[j]? with
   | none=>simp
   | some e=>by_cases M:i=j <;> simp[M]
  simp only[this];exact r
end
theorem G7{P:Program}(h:P.underlying K=some (.int .i64))(e:Bool)(n:Nat)(a:Int)(w:World):(Instr.checkKey e (n+1) K (zi a)).run P w=.ok () w:=by
 rw[Instr.checkKey];simp[Sem.run_bind,underlying,h,Result.andThen_ok]
theorem fD{P:Program}(h:P.underlying K=some .string)(e:Bool)(n:Nat)(a:ByteArray)(w:World):(Instr.checkKey e (n+1) K (.string a)).run P w=.ok () w:=by
 rw[Instr.checkKey];simp[Sem.run_bind,underlying,h,Result.andThen_ok]
theorem OR(n:Nat)(a:Int):Instr.sameBits n (zi a) (zi a)=true:=by
 unfold Instr.sameBits;simp
theorem oJ(n:Nat)(a:ByteArray):Instr.sameBits n (.string a) (.string a)=true:=by
 unfold Instr.sameBits;exact(MapKept.bytes_beq a a).2 rfl
theorem xY(a b:ByteArray):(a == b)=decide (b=a):=by
 rw[Bool.eq_iff_iff,MapKept.bytes_beq,decide_eq_true_iff];exact eq_comm
theorem QS{P:Program}(h:P.underlying K=some .string):Ub P K Value.string:=
 ⟨⟨_,h,λa b=>by simp[Instr.sameNow,xY]⟩,λe a w=>fD h e 9999 a w,oJ 10000⟩
end
section
open Go.RowKit Go.ChangeMaps
section
variable{κ : Type}
def Fa(mk : κ->Value)(w:World)(r b:Nat)(m:List (κ × Value))(done:List κ):Prop:=
 r≠b∧∃es clock since seen last,w.heap[r]?=some (.mapIter (some b) since seen last)∧w.heap[b]?=some (.map es clock)∧es.toList.map (λe=>(e.key,e.val))=m.map (λp=>(mk p.1,p.2))∧(∀e∈es.toList,e.born<clock)∧(es.toList.map (·.born)).Nodup∧(m.map (·.1)).Nodup∧
  (∀e∈es.toList,e.born<since)∧since<=last∧since<=clock∧∀e∈es.toList,(seen.contains e.born=true↔∃k∈done,e.key=mk k)
variable{mk : κ->Value}{P:Program}{K:TypeId}{w w':World}{r b:Nat}{m:List (κ × Value)}{done:List κ}
theorem Fa.map(h:Fa mk w r b m done):Bv mk w b m:=by
 obtain⟨_,es,clock,since,seen,last,_,e,f,g,i,j,_⟩:=h;exact⟨es,clock,e,f,g,i,j⟩
theorem Fa.kept{q:Option Nat}(h:Fa mk w r b m done)(e:w.grownBy w' q)(j:some r≠q)(k:some b≠q):Fa mk w' r b m done:=by
 obtain⟨f,es,clock,since,seen,last,g,i,l⟩:=h;exact⟨f,es,clock,since,seen,last,(e.block r (Array.getElem?_eq_some_iff.1 g).1 j).trans g,(e.block b (Array.getElem?_eq_some_iff.1 i).1 k).trans i,l⟩
theorem Bv.range(h:Bv mk w b m)(k:P.underlying T=some (.map K E)):∃w',(Instr.range T (.map (some b))).run P w=.ok (.pointer (sa w.heap.size 0)) w'∧Fa mk w' w.heap.size b m []∧Bw w w'∧w'.heap.size=w.heap.size+1:=by
 have f:=h.lt;obtain⟨es,clock,g,l,i,n,p⟩:=h;have j:(underlying T).run P w=.ok (.map K E) w:=by simp[underlying,k]
 refine⟨w.alloc (.mapIter (some b) clock #[] clock),?_,⟨by omega,es,clock,clock,#[],clock,heap_alloc_new w _,?_,l,i,n,p,i,zs2 _,zs2 _,λe _=>by simp⟩,zA _,by simp⟩
 ·unfold Instr.range;simp[Sem.run_bind,j,Result.andThen_ok,getObj,Sem.run,g,newObj]
 exact(Below.heap_alloc w _ b f).trans g
theorem oK{e:MapEntry}(h:es.map (λe=>(e.key,e.val))=m.map (λp=>(mk p.1,p.2)))(f:e∈es):∃k v,(k,v)∈m∧e.key=mk k∧e.val=v:=by
 have:(e.key,e.val)∈m.map (λp=>(mk p.1,p.2)):=by rw[<-h];exact List.mem_map_of_mem f
 obtain⟨p,g,e2⟩:=zr2.1 this;simp only[Prod.mk.injEq]at e2;exact⟨p.1,p.2,g,e2.1.symm,e2.2.symm⟩
theorem oL(g:∀a b,mk a=mk b->a=b)(h:es.map (λe=>(e.key,e.val))=m.map (λp=>(mk p.1,p.2)))(x:(m.map (·.1)).Nodup){e e':MapEntry}(y:e∈es)(k:e'∈es)(l:e.key=e'.key):e=e':=by
 have n:es.map (·.key)=(m.map (·.1)).map mk:=by
  have:=congrArg (List.map Prod.fst) h;simpa[Function.comp_def]using this
 have q:(es.map (·.key)).Nodup:=by
  rw[n,List.nodup_iff_pairwise_ne,List.pairwise_map];exact(List.nodup_iff_pairwise_ne.1 x).imp λs e=>s (g _ _ e)
 obtain⟨i,hi,rfl⟩:=List.getElem_of_mem y;obtain⟨j,t,rfl⟩:=List.getElem_of_mem k;have v:=List.pairwise_iff_getElem.1 (List.nodup_iff_pairwise_ne.1 q);rcases Nat.lt_trichotomy i j with f|f|f
 ·have:=v i j (by simpa using hi) (by simpa using t) f;simp only[List.getElem_map]at this;exact absurd l this
 ·subst f;rfl
 have:=v j i (by simpa using t) (by simpa using hi) f;simp only[List.getElem_map]at this;exact absurd l.symm this
theorem Fa.next(h:Fa mk w r b m done)(x:∀a b,mk a=mk b->a=b)(ty:TypeId) :
  ((∀p∈m,p.1∈done)∧(Instr.next (.pointer (sa r 0)) false ty).run P w=.ok (.tuple #[zF]) w)∨
  ∃k v w',(k,v)∈m∧k∉done∧(Instr.next (.pointer (sa r 0)) false ty).run P w=.ok (.tuple #[zY,mk k,v]) w'∧Fa mk w' r b m (k::done)∧w.grownBy w' (some r)∧w'.heap.size=w.heap.size∧(Instr.entry (.pointer (sa r 0))).run P w'=.ok (.tuple #[mk k,v]) w':=by
 obtain⟨D,es,clock,since,seen,last,L,M,z,W,H,N,O,X,R,I⟩:=h;have S:=(Array.getElem?_eq_some_iff.1 L).1;rcases run_next_at (P:=P) w ty r b since last seen es clock L M O X with⟨Y,g⟩|⟨e,s,w1,t,g⟩
 ·left;refine⟨λp B=>?_,g⟩;have Z:(mk p.1,p.2)∈es.toList.map (λe=>(e.key,e.val)):=by rw[z];exact List.mem_map_of_mem B
  obtain⟨e,s,e2⟩:=zr2.1 Z;simp only[Prod.mk.injEq]at e2
  have hs:seen.contains e.born=true:=by
   cases hc:seen.contains e.born
   ·have:e∈(leftOf es seen).toList:=by
     unfold leftOf;simp only[Array.toList_filter,List.mem_filter];exact⟨s,by rw[hc];rfl⟩
    rw[Array.eq_empty_of_size_eq_zero Y]at this;simp at this
   rfl
  obtain⟨k,J,ek⟩:=(I e s).1 hs;rw[e2.1]at ek;rw[x _ _ ek];exact J
 right
 have f:e∈es.toList∧seen.contains e.born=false:=by
  unfold leftOf at s;simp only[Array.toList_filter,List.mem_filter]at s;exact⟨s.1,by simpa using s.2⟩
 obtain⟨k,v,T,ek,ev⟩:=oK z f.1;rw[ek,ev]at g;have l:w1.heap=w.heap:=by rcases t with rfl|rfl <;> rfl
 have C:(setBlock w1 r (.mapIter (some b) since (seen.push e.born) clock)).heap.size=w.heap.size:=by simp[setBlock,l]
 have E:(setBlock w1 r (.mapIter (some b) since (seen.push e.born) clock)).heap[r]?=some (.mapIter (some b) since (seen.push e.born) clock):=by simp[setBlock,l,S]
 have F:(setBlock w1 r (.mapIter (some b) since (seen.push e.born) clock)).heap[b]?=some (.map es clock):=by
  unfold setBlock;simp only[l];rw[Array.getElem?_setIfInBounds_ne D];exact M
 refine⟨k,v,_,T,λJ=>?_,g,⟨D,es,clock,since,seen.push e.born,clock,E,F,z,W,H,N,O,R,R,λe' y=>?_⟩,?_,C,?_⟩
 ·have:=(I e f.1).2 ⟨k,J,ek⟩;rw[f.2]at this
  cases this
 ·rw[Array.contains_push,Bool.or_eq_true,I e' y,beq_iff_eq];constructor
  ·rintro(⟨k',n,ek'⟩|G)
   ·exact⟨k',List.mem_cons_of_mem _ n,ek'⟩
   have:e'=e:=by
    obtain⟨i,hi,rfl⟩:=List.getElem_of_mem y;obtain⟨j,U,rfl⟩:=List.getElem_of_mem f.1;have B:=List.pairwise_iff_getElem.1 (List.nodup_iff_pairwise_ne.1 H);rcases Nat.lt_trichotomy i j with q|q|q
    ·have:=B i j (by simpa using hi) (by simpa using U) q;simp only[List.getElem_map]at this;exact absurd G this
    ·subst q;rfl
    have:=B j i (by simpa using U) (by simpa using hi) q;simp only[List.getElem_map]at this;exact absurd G.symm this
   exact⟨k,by simp,by rw[this];exact ek⟩
  rintro⟨k',n,ek'⟩;rcases zr3.1 n with rfl|n
  ·right;have:e'=e:=oL x z N y f.1 (by rw[ek',ek]);rw[this]
  left;exact⟨k',n,ek'⟩
 ·refine⟨?_,?_,?_,by omega,λi hi V=>?_⟩
  ·rcases t with rfl|rfl <;> rfl
  ·rcases t with rfl|rfl <;> rfl
  ·rcases t with rfl|rfl <;> rfl
  unfold setBlock;simp only[l];rw[Array.getElem?_setIfInBounds_ne (λq=>V (by rw[q]))]
 have:=run_entry_at (P:=P) _ r b since seen es clock e E F f.1 H;rw[ek,ev]at this;exact this
end
section
variable{κ : Type}[DecidableEq κ]{mk : κ->Value}{P:Program}{K:TypeId}{w:World}{b:Nat}{m:List (κ × Value)}{ops:Array Oper}{rest:List Oper}{o:Oper}{a:Act}{Q:Exit->Act->World->Prop}
theorem Zg(i:o.guard=none)(mo x v:Operand)(T:TypeId)(f:o.op=Op.mapUpdate T mo x v)(j:Ub P K mk)(l:P.underlying T=some (.map K E))(n:a.eval mo=.map (some b))(h:Bv mk w b m)(k : κ)(p:a.eval x=mk k)(val:Value)(q:a.eval v=val)
  (s:∀w',Bv mk w' b (Ec m k val)->w.grownBy w' (some b)->wpList P ops Q rest (a.put o.dst undef) w'):wpList P ops Q (o::rest) a w:=by
 refine wpList_plain i λK' g=>?_
 obtain⟨w',e,r1,r2⟩:=h.update j l k val;unfold Oper.wp;simp[execOp,f,n,p,q,e,Result.andThen];exact g _ _ (s w' r1 r2)
theorem PJ(g:o.guard=none)(mo x:Operand)(T:TypeId)(ok:Bool)(e:o.op=Op.lookup T mo x ok)(i:Ub P K mk)(j:P.underlying T=some (.map K E))(l:(zeroValue E).run P w=.ok z w)(n:a.eval mo=.map (some b))(h:Bv mk w b m)(k : κ)(p:a.eval x=mk k)
  (q:wpList P ops Q rest (a.put o.dst (if ok=true then .tuple #[(Cz m k).getD z,.bool (Cz m k).isSome]else(Cz m k).getD z)) w):wpList P ops Q (o::rest) a w:=by
 refine wpList_plain g λK' f=>?_
 unfold Oper.wp;simp only[execOp,e,n,p,Sem.run_bind,h.lookup i j l k ok,Result.andThen];exact f _ _ q
theorem fE{κ : Type}{mk : κ->Value}{m:List (κ × Value)}(i:o.guard=none)(mo:Operand)(T:TypeId)(f:o.op=Op.range T mo)(j:P.underlying T=some (.map K E))(k:a.eval mo=.map (some b))(h:Bv mk w b m)
  (l:∀w',Fa mk w' w.heap.size b m []->Bw w w'->w'.heap.size=w.heap.size+1->wpList P ops Q rest (a.put o.dst (.pointer (sa w.heap.size 0))) w'):wpList P ops Q (o::rest) a w:=by
 refine wpList_plain i λK' g=>?_
 obtain⟨w',e,r1,r2,r3⟩:=h.range j;unfold Oper.wp;simp[execOp,f,k,e,Result.andThen];exact g _ _ (l w' r1 r2 r3)
theorem OS{κ : Type}{mk : κ->Value}{m:List (κ × Value)}{done:List κ}(l:o.guard=none)(it:Operand)(f:o.op=Op.next it false)(j:∀a b,mk a=mk b->a=b)(g:a.eval it=.pointer (sa r 0))(h:Fa mk w r b m done)
  (n:(∀p∈m,p.1∈done)->wpList P ops Q rest (a.put o.dst (.tuple #[zF])) w)
  (q:∀k v w',(k,v)∈m->k∉done->Fa mk w' r b m (k::done)->w.grownBy w' (some r)->w'.heap.size=w.heap.size->(Instr.entry (.pointer (sa r 0))).run P w'=.ok (.tuple #[mk k,v]) w'->wpList P ops Q rest (a.put o.dst (.tuple #[zY,mk k,v])) w'):wpList P ops Q (o::rest) a w:=by
 refine wpList_plain l λK' i=>?_
 unfold Oper.wp;rcases h.next (P:=P) j o.type with⟨s,e⟩|⟨k,v,w',t,x,e,y,z,B,C⟩
 ·simp[execOp,f,g,e,Result.andThen];exact i _ _ (n s)
 simp[execOp,f,g,e,Result.andThen];exact i _ _ (q k v w' t x y z B C)
end
end
section
variable{κ : Type}[DecidableEq κ]{m:List (κ × Value)}{k k' : κ}{v:Value}
theorem KR:∀(m:List (κ × Value))(k : κ)(i:Nat),Bi m k (i+1)=(Bi m k i).map λp=>(p.1+1,p.2)
 | [],_,_=>rfl
 | p::m,k,i=>by
  rw[Bi,Bi];split
  ·rfl
  exact KR m k (i+1)
theorem oM:Cz ([]:List (κ × Value)) k=none:=rfl
theorem Ks(p : κ × Value)(m:List (κ × Value))(k : κ):Cz (p::m) k=if p.1=k then some p.2 else Cz m k:=by
 unfold Cz;rw[Bi];split
 ·rfl
 rw[Nat.zero_add,KR]
 cases Bi m k 0 <;> rfl
theorem oN:Ec [] k v=[(k,v)]:=rfl
theorem fF(p : κ × Value)(m:List (κ × Value))(k : κ)(v:Value):Ec (p::m) k v=if p.1=k then(p.1,v)::m else p::Ec m k v:=by
 unfold Ec;rw[Bi];by_cases a:p.1=k
 ·simp[a]
 rw[if_neg a,if_neg a,Nat.zero_add,KR]
 cases h:Bi m k 0 with
 | none=>simp
 | some q=>obtain⟨i,u⟩:=q;simp
theorem RM:∀(m:List (κ × Value)),Cz (Ec m k v) k'=if k=k' then some v else Cz m k'
 | []=>by
  rw[oN,Ks]
 | p::m=>by
  rw[fF,Ks];by_cases h:p.1=k
  ·rw[if_pos h,Ks];by_cases a:k=k'
   ·rw[if_pos a,if_pos (by rw[h];exact a)]
   rw[if_neg a,if_neg (by rw[h];exact a),if_neg (by rw[h];exact a)]
  rw[if_neg h,Ks,RM m];by_cases a:p.1=k'
  ·rw[if_pos a,if_pos a,if_neg (λe=>h (by rw[a,e]))]
  rw[if_neg a,if_neg a]
end
section
variable{κ : Type}[DecidableEq κ]{mk : κ->Value}{w w':World}{b:Nat}{xs:List κ}{k : κ}
def Hq(m:List (κ × Value))(xs:List κ):Prop:=∀k,Cz m k=if k∈xs then some (zY)else none
def I4(mk : κ->Value)(w:World)(b:Nat)(xs:List κ):Prop:=∃m,Bv mk w b m∧Hq m xs
theorem fL:Hq ([]:List (κ × Value)) []:=λk=>by rw[oM];simp
theorem Hq.get{m:List (κ × Value)}(h:Hq m xs)(k : κ):(Cz m k).getD (zF)=.bool (decide (k∈xs)):=by
 rw[h k];by_cases a:k∈xs <;> simp[a]
theorem Hq.get_yes{m:List (κ × Value)}(h:Hq m xs)(a:k∈xs):(Cz m k).getD (zF)=zY:=by rw[h k,if_pos a];rfl
theorem Hq.get_no{m:List (κ × Value)}(h:Hq m xs)(a:k∉xs):(Cz m k).getD (zF)=zF:=by rw[h k,if_neg a];rfl
theorem Hq.add{m:List (κ × Value)}(h:Hq m xs)(k : κ):Hq (Ec m k (zY)) (xs++[k]):=λk'=>by
 rw[RM,h k'];by_cases e:k=k'
 ·subst e;simp
 have e':¬k'=k:=λq=>e q.symm
 simp[e,e']
theorem I4.made(mk : κ->Value)(w:World):I4 mk (w.alloc (.map #[] 0)) w.heap.size []:=⟨[],Bv.made mk w,fL⟩
theorem I4.below(h:I4 mk w b xs)(a:Bw w w'):I4 mk w' b xs:=by
 obtain⟨m,e,f⟩:=h;exact⟨m,e.below a,f⟩
theorem I4.lt(h:I4 mk w b xs):b<w.heap.size:=by
 obtain⟨m,a,e⟩:=h;exact a.lt
theorem I4.kept{r:Option Nat}(h:I4 mk w b xs)(e:w.grownBy w' r)(a:some b≠r):I4 mk w' b xs:=by
 obtain⟨m,f,g⟩:=h;exact⟨m,f.kept e a,g⟩
end
theorem Uk:(prog.info? 94).map (·.size)=some 2:=zk
theorem oX:liesAt prog prog.depth 94 (2/prog.cellsOf 94) 0 94 1=true:=zk
theorem fX:(prog.info? 5).map (λi=>(i.zero,i.size,i.bytes))=some (some (.int .u8 0),1,1):=zk
theorem Q1(b:Nat)(w:World)(f:zL w b 0 (.pointer (sa b 0))) :
  CP 41 #[.pointer (sa b 0)] w λe w'=>e=.returned (.tuple #[])∧w'=w:=by
 obtain⟨j,a,_⟩:=Option.map_eq_some_iff.1 Uk;go_enter func41,ntmps41;go_wp2;rw[Lib.run_neq_ptr_same w _ underlying91 a];go_wp2;go_end0;exact⟨rfl,rfl⟩
theorem PR(b:Nat)(w:World)(k:zL w b 0 (.pointer none))(a:w.shape? b=some (94,2))(i:w.frozen? (ad b 0)=false) :
  CP 41 #[.pointer (sa b 0)] w λe w'=>e=.returned (.tuple #[])∧w'=w.setCell (ad b 0) (.pointer (sa b 0)):=by
 obtain⟨j,f,g⟩:=Option.map_eq_some_iff.1 Uk;go_enter func41,ntmps41;go_wp2;rw[Lib.run_to_unsafe w ⟨b,0,none⟩ underlying91 underlying167 f (by rw[g];decide) a (Nat.zero_lt_succ 1)];simp only[Result.andThen];rw[Oper.upon_value];go_wp2;rw[run_callFunc_extern func74 zk zk zk (e:=Extern.AbiNoEscape.same) zk];rw[Lib.run_noEscape];simp only[Result.andThen];rw[Oper.upon_value];go_wp2;rw[Lib.run_from_unsafe w ⟨b,0,none⟩ underlying167 underlying91 f a oX];simp only[Result.andThen];rw[Oper.upon_value];go_wp2;go_end0;exact⟨rfl,rfl⟩
def DP(b:Nat)(w w':World):Prop:=∀(k:Nat)(t:TypeId)(cs:aV),Blk w k t cs->k≠b->t≠5->Blk w' k t cs
theorem DP.refl(b:Nat)(w:World):DP b w w:=λ_ _ _ h _ _=>h
theorem DP.trans(h:DP b w w1)(f:DP b w1 w2):DP b w w2:=λk t cs g a e=>f k t cs (h k t cs g a e) a e
theorem DP.below(h:DP b w w1)(a:Bw w1 w2):DP b w w2:=λk t cs e f g=>(h k t cs e f g).below a
theorem DP.set_(h:DP b w w1)(o:Nat)(u:Value):DP b w (w1.setCell (ad b o) u):=λk t cs e a f=>(h k t cs e a f).far a u
theorem DP.grown(h:DP b w w1)(f:w1.ownsRow B 5 1 v n xs)(l:w1.grownBy w2 v.ownBlock):DP b w w2:=λk t cs m o i=>by
 have a:=h k t cs m o i;refine(l.block k a.lt λe=>?_).trans a;rcases f.2 with⟨rfl,_⟩|⟨g,cap,cur,rfl,_,j,_⟩
 ·simp[Value.ownBlock]at e
 obtain rfl:k=g:=by simpa[Value.ownBlock]using e
 unfold Blk at a;rw[j]at a;injection a with a
 injection a with _ a _
 exact i a.symm
theorem Ta(B b:Nat)(bs:lV)(w:World)(h:Lib.IsBuilder 94 5 B b bs w) :
  CP 41 #[.pointer (sa b 0)] w λe w'=>e=.returned (.tuple #[])∧(Lib.BuilderAt 94 5 B b (.pointer (sa b 0)) bs w'∧Below B w w'∧DP b w w'):=by
 rcases h with h|h
 ·refine(PR b w h.cell0 h.shape h.frozen0).mono ?_;rintro e w' ⟨rfl,rfl⟩;exact⟨rfl,h.used _,(Below.refl B w).setCell (p:=ad b 0) h.1 _,(DP.refl b w).set_ 0 _⟩
 refine(Q1 b w h.cell0).mono ?_;rintro e w' ⟨rfl,rfl⟩;exact⟨rfl,h,Below.refl B _,DP.refl b _⟩
theorem PS(B b:Nat)(bs:lV)(s:ByteArray)(w:World)(h:Lib.IsBuilder 94 5 B b bs w)(D:bs.length+s.size<=140737488355328)(G:B<=w.heap.size) :
  CP 25 #[.pointer (sa b 0),.string s] w λe w'=>e=.returned (.tuple #[zi s.size,.nilIface])∧(Lib.BuilderAt 94 5 B b (.pointer (sa b 0)) (bs++Lib.strCells s) w'∧Below B w w'∧DP b w w'):=by
 obtain⟨i0,hi,q,r,t⟩:=info_parts fX;go_enter func25,ntmps25;go_wp2_with(go_at_call 41;refine(Ta B b bs _ h).mono ?_)
 rintro e w1 ⟨rfl,E,m,x⟩;obtain⟨y,v,i,f,z⟩:=E;have c0:w1.cell? (ad b 0)=some (.pointer (sa b 0)):=by rw[Lib.cell_of_heap i];rfl
 have c1:w1.cell? (ad b 1)=some v:=by rw[Lib.cell_of_heap i];rfl
 go_wp2_with(at_builtin;refine Lib.wpList_append_own_string _ rfl _ _ 92 9 rfl B 5 i0 underlying92 underlying9 hi q r t _ _ _ rfl f s rfl ?c3 ?c4 ?c5 ?_)
 case c3=>unfold maxLen;omega
 case c4=>omega
 case c5=>have:=m.size;omega
 intro v' w2 j a _
 have C:b<w1.heap.size:=by
  rcases Nat.lt_or_ge b w1.heap.size with n|n
  ·exact n
  simp[Array.getElem?_eq_none n]at i
 have l:w2.heap[b]?=some (.cells #[.pointer (sa b 0),v] 94 (0,0)):=by
  rw[a.block b C (λe=>z e.symm)];exact i
 have d0:w2.cell? (ad b 0)=some (.pointer (sa b 0)):=by rw[Lib.cell_of_heap l];rfl
 have d1:w2.cell? (ad b 1)=some v:=by rw[Lib.cell_of_heap l];rfl
 have f1:w2.frozen? (ad b 1)=false:=Lib.frozen_of_heap l 1
 obtain⟨ao,n',cap,rfl⟩:∃ao n' cap,v'=.slice ao n' cap:=by
  rcases j.2 with⟨o,_⟩|⟨g,cap,cur,o,_⟩
  ·exact⟨_,_,_,o⟩
  exact⟨_,_,_,o⟩
 go_wp2;go_ret2
 refine⟨rfl,?_,?_,(x.grown f a).set_ 1 _⟩
 ·exact Lib.BuilderAt.put (T:=94) (e:=5) y l (bs':=bs++Lib.strCells s) (by simpa[Lib.strCells_length]using j) zD
 exact(m.grown a (zV m.size) (λk F=>(f.lt k F).1)).setCell (p:=ad b 1) y _
end Go.Proofs.YteafekbddckemaaGreatDoor
