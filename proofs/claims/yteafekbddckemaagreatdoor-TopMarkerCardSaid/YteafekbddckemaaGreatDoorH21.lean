/- Parts of the proof. -/
import Derived.Laws.EntriesVeiled
import Derived.StillTailTactics
import Derived.Test.YteafekbddckemaaGreatDoorH20
set_option maxRecDepth 100000
set_option maxHeartbeats 40000000
namespace Go.Proofs.YteafekbddckemaaGreatDoor
open Tryz Go.RowKit
open Go.Lib hiding intOf
variable{A:oA}{B C N a b g i k m n:Nat}{E:Prop}{T:TypeId}{cs cur:aV}{l p:lP}{o:Oper}{rest:List Oper}{v v' v7:Value}{w w' w7 wr:World}{xs:lV}{z:Int}
theorem Q8{P:Program}(w:World)(dT sT ty elem:TypeId)(size g o dLen dCap:Nat)(a:Addr)(sLen sCap:Nat)(cur:aV)(t:TypeId)(cs:lV)
  (m:P.underlying dT=some (.slice elem)) (f:(P.info? elem).map (·.size)=some size)
  (n:w.heap[g]?=some (.cells cur t (0,0))) (p:cs.length=Nat.min sLen dLen*size)
  (b:∀j v,cs[j]?=some v->w.cell? (a.add j)=some v) (e:o+cs.length<=cur.size) (q:∀v∈cs,v.oneCell'=true) :
  (Builtin.copy_ #[dT,sT] ty #[.slice (sa g o) dLen dCap,.slice (some a) sLen sCap]).run P w =
   .ok (goInt (Nat.min sLen dLen)) (w.setRow g (cur.toList.take o++cs++cur.toList.drop (o+cs.length)).toArray):=by
 have k:=run_loadCells_list (P:=P) w a cs b;have l:=run_storeCells_at P g o t cs 0 cur w n (by simpa using e) q;rw[p]at k
 cases hq:P.info? elem with
 | none=>simp[hq]at f
 | some i=>
  have hi:i.size=size:=by simpa[hq]using f
  simp[Builtin.copy_,run_underlying m,Builtin.lenOf,Builtin.firstCells,sizeOf,typeInfo,hq,hi,k,l]
theorem Tc{P:Program}(w:World)(dT sT ty elem:TypeId)(size g o dLen dCap:Nat)(sp:oA)(sLen sCap:Nat)(b:P.underlying dT=some (.slice elem))(f:(P.info? elem).map (·.size)=some size)(e:Nat.min sLen dLen=0) :
  (Builtin.copy_ #[dT,sT] ty #[.slice (sa g o) dLen dCap,.slice sp sLen sCap]).run P w=.ok (goInt 0) w:=by
 cases hq:P.info? elem with
 | none=>simp[hq]at f
 | some i=>
  have k:∀a:Addr,(loadCells a 0).run P w=.ok #[] w:=λa=>run_loadCells_list (P:=P) w a [] (λj v h=>by simp at h)
  cases sp with
  | none=>simp[Builtin.copy_,run_underlying b,Builtin.lenOf,Builtin.firstCells,sizeOf,typeInfo,hq,e,storeCells]
  | some a=>simp[Builtin.copy_,run_underlying b,Builtin.lenOf,Builtin.firstCells,sizeOf,typeInfo,hq,e,k,storeCells]
theorem Uv(w:World)(g:Nat)(cs:aV):w.grownBy (w.setRow g cs) (some g):=
 ⟨rfl,rfl,rfl,by simp[World.setRow],λk _ a=>setRow_other w g k cs (λe=>a (by rw[e]))⟩
theorem ZH{o:Nat}{cs:lV}(h:w.ownsRow b T 2 (.slice (sa g 0) m N) m xs)(f:w.heap[g]?=some (.cells cur T (0,0)))(j:o+cs.length<=m*2) :
  (w.setRow g (cur.toList.take o++cs++cur.toList.drop (o+cs.length)).toArray).ownsRow b T 2 (.slice (sa g 0) m N) m (xs.take o++cs++xs.drop (o+cs.length)):=by
 have k:=h.1;rcases h.2 with⟨e,_⟩|⟨g',cap,cur',e,l,a,i,n,r,p⟩
 ·cases e
 injection e with e e2 e3
 injection e with e
 injection e with e
 subst e;subst e3;rw[f]at a;obtain rfl:cur=cur':=by injection a with a;injection a
 have q:m*2<=N*2:=Nat.mul_le_mul_right 2 i;refine⟨?_,.inr ⟨g,N,_,rfl,l,setRow_heap w g _ _ T _ f,i,n,?_,?_⟩⟩
 ·simp only[zq5,zq7,List.length_drop];omega
 ·simp only[List.size_toArray,zq5,zq7,List.length_drop,Array.length_toList];omega
 rw[<-p];simp only[List.take_append,zq7,zq5,Array.length_toList,List.take_take,List.drop_take];have e1:min (m*2) o=o:=zO;have e2:min o (m*2)=o:=zO;have e3:min o cur.size=o:=zO;rw[e1,e2,e3];congr 1;congr 1;exact zq4 zO
theorem L5(h:w.ownsRow a T 2 (.slice A m N) m xs)(b:A≠none)(p:k<=m):w.ownsRow a T 2 (.slice A k N) k (xs.take (k*2)):=by
 have f:=h.1;rcases h.2 with⟨e,_⟩|⟨g,cap,cur,e,i,j,q,l,n,o⟩
 ·injection e with e
  exact absurd e b
 injection e with e e2 e3
 subst e;subst e3;refine⟨by rw[zq7];omega,.inr ⟨g,N,cur,rfl,i,j,by omega,l,n,?_⟩⟩;rw[<-o,List.take_take,show min (k*2) (m*2)=k*2 by omega]
theorem Td{P:Program}{ops:Array Oper}{a:Act}{K:Act->World->Prop}{Q:Exit->Act->World->Prop}(x:o.guard=none)(d s:Operand)(dT sT:TypeId)
  (y:o.op=.call { callee:=.builtin .copy,args:=#[d,s],argTypes:=#[dT,sT] }) (l:Nat) (T:TypeId) (z:P.underlying dT=some (.slice T)) (q:(P.info? T).map (·.size)=some 2)
  (g m N od k:Nat) (xs cs:lV) (f:w.ownsRow l T 2 (.slice (sa g 0) m N) m xs)
  (dLen dCap sLen sCap:Nat) (sp:oA) (hd:a.eval d=.slice (sa g od) dLen dCap) (B:a.eval s=.slice sp sLen sCap) (i:Nat.min sLen dLen=k) (C:cs.length=k*2) (G:od+k*2<=m*2)
  (r:0<k->∃ad,sp=some ad∧∀j v,cs[j]?=some v->w.cell? (ad.add j)=some v) (H:∀v∈cs,v.oneCell'=true)
  (h:∀w1,w1.ownsRow l T 2 (.slice (sa g 0) m N) m (xs.take od++cs++xs.drop (od+k*2))->w.grownBy w1 (some g)->K (a.put o.dst (goInt k)) w1) :
  if Region.wanted o (yielded ops a.tmps)=true then Oper.wp P o a w K Q else E:=by
 have I:Region.wanted o (yielded ops a.tmps)=true:=by simp[Region.wanted,x]
 rw[if_pos I];by_cases D:k=0
 ·subst D;obtain rfl:cs=[]:=zt7 zO;have b:=Tc (P:=P) w dT sT o.type T 2 g od dLen dCap sp sLen sCap z q i;unfold Oper.wp;simp[execOp,y,resolve,invoke,builtin,hd,B,b,Result.andThen];exact h w (by simpa using f) (Gb w _)
 obtain⟨ad,F,n⟩:=r zO;subst F
 obtain⟨cur,p,J⟩:∃cur,w.heap[g]?=some (.cells cur T (0,0))∧m*2<=cur.size:=by
  rcases f.2 with⟨e,_⟩|⟨g',cap,cur,e,L,p,q1,q2,q3,q4⟩
  ·cases e
  injection e with e e2 e3
  injection e with e
  injection e with e
  subst e;exact⟨cur,p,by rw[q3];exact Nat.mul_le_mul_right 2 q1⟩
 have b:=Q8 (P:=P) w dT sT o.type T 2 g od dLen dCap ad sLen sCap cur T cs z q p (by rw[i];exact C) n zO H;have t:=ZH f p (o:=od) (cs:=cs) zO;rw[C]at t b;rw[i]at b;unfold Oper.wp;simp[execOp,y,resolve,invoke,builtin,hd,B,b,Result.andThen];simp only[List.append_assoc]at t h;exact h _ t (Uv w g _)
theorem J5{P:Program}{ops:Array Oper}{a:Act}{Q:Exit->Act->World->Prop}(e:o.guard=none)(d s:Operand)(dT sT:TypeId)
  (q:o.op=.call { callee:=.builtin .copy,args:=#[d,s],argTypes:=#[dT,sT] }) (b:Nat) (T:TypeId) (r:P.underlying dT=some (.slice T)) (p:(P.info? T).map (·.size)=some 2)
  (g m N od k:Nat) (xs cs:lV) (f:w.ownsRow b T 2 (.slice (sa g 0) m N) m xs)
  (dLen dCap sLen sCap:Nat) (sp:oA) (hd:a.eval d=.slice (sa g od) dLen dCap) (t:a.eval s=.slice sp sLen sCap) (i:Nat.min sLen dLen=k) (x:cs.length=k*2) (l:od+k*2<=m*2)
  (n:0<k->∃ad,sp=some ad∧∀j v,cs[j]?=some v->w.cell? (ad.add j)=some v) (y:∀v∈cs,v.oneCell'=true)
  (h:∀w1,w1.ownsRow b T 2 (.slice (sa g 0) m N) m (xs.take od++cs++xs.drop (od+k*2))->w.grownBy w1 (some g)->wpList P ops Q rest (a.put o.dst (goInt k)) w1) :
  wpList P ops Q (o::rest) a w:=by
 refine wpList_plain e λK z=>?_
 have:=Td (P:=P) (ops:=ops) (a:=a) (K:=K) (Q:=Q) (E:=True) e d s dT sT q b T r p g m N od k xs cs f dLen dCap sLen sCap sp hd t i x l n y (λw1 q1 q2=>z _ _ (h w1 q1 q2));rwa[if_pos (by simp[Region.wanted,e])]at this
theorem ZI{r:List (List Pt)}(h:l.length<=3):Cq l.length l r=.ok (r++[l]):=by
 cases hl:l.length with
 | zero=>rfl
 | succ k=>rw[Cq,if_pos zO]
theorem R9(hi:i<l.length):(l.eraseIdx i).length=l.length-1:=by rw[List.length_eraseIdx,if_pos hi]
theorem Q9{r:List (List Pt)}(h:3<l.length)(hi:(List.range l.length).find? (El l)=some i):Cq l.length l r=Cq (l.eraseIdx i).length (l.eraseIdx i) r:=by
 have a:i<l.length:=zt8.1 (List.mem_of_find?_eq_some hi);rw[R9 a]
 cases hl:l.length with
 | zero=>omega
 | succ k=>
  rw[Cq,if_neg zO,hi];rfl
theorem ZJ{r:List (List Pt)}(h:3<l.length)(b:(List.range l.length).find? (El l)=none)(hi:(List.range l.length).find? (Iz l)=some i):Cq l.length l r=Cq (l.eraseIdx i).length (l.eraseIdx i) (r++[[DB l i,vtx l i,vtx l (i+1)]]):=by
 have a:i<l.length:=zt8.1 (List.mem_of_find?_eq_some hi);rw[R9 a]
 cases hl:l.length with
 | zero=>omega
 | succ k=>
  rw[Cq,if_neg zO,b];simp only;rw[hi];rfl
theorem pM{r:List (List Pt)}(h:3<l.length)(a:(List.range l.length).find? (El l)=none)(hi:(List.range l.length).find? (Iz l)=none):Cq l.length l r=.error 11:=by
 cases hl:l.length with
 | zero=>omega
 | succ k=>
  rw[Cq,if_neg zO,a];simp only;rw[hi]
theorem Na(n:Nat)(f:Nat->Bool):(∃i,i<n∧(List.range n).find? f=some i∧FM n f=(i:Int))∨((List.range n).find? f=none∧FM n f = -1):=by
 cases h:(List.range n).find? f with
 | none=>exact .inr ⟨rfl,by unfold FM;rw[h]⟩
 | some i=>exact .inl ⟨i,zt8.1 (List.mem_of_find?_eq_some h),rfl,by unfold FM;rw[h]⟩
theorem Nb(l:lP)(k:Nat):(l.take k).flatMap spC=(l.flatMap spC).take (k*2):=by
 induction l generalizing k with
 | nil=>simp
 | cons p l ih=>
  cases k with
  | zero=>simp
  | succ k=>
   rw[List.take_succ_cons,List.flatMap_cons,ih,List.flatMap_cons,List.take_append];have e1:(spC p).take ((k+1)*2)=spC p:=zq4 (by rw[Bu];omega);rw[e1,Bu,show(k+1)*2-2=k*2 by omega]
theorem gN(l:lP)(k:Nat):(l.drop k).flatMap spC=(l.flatMap spC).drop (k*2):=by
 induction l generalizing k with
 | nil=>simp
 | cons p l ih=>
  cases k with
  | zero=>simp
  | succ k=>
   rw[List.drop_succ_cons,ih,List.flatMap_cons,List.drop_append];have e1:(spC p).drop ((k+1)*2)=[]:=zr6 (by rw[Bu];omega);rw[e1,Bu,show(k+1)*2-2=k*2 by omega,List.nil_append]
theorem Uw(a:l.length=m)(hi:i<m):((l.flatMap spC).take (i*2)++(l.drop (i+1)).flatMap spC++(l.flatMap spC).drop (i*2+(m-i-1)*2)).take ((m-1)*2)=(l.eraseIdx i).flatMap spC:=by
 rw[List.eraseIdx_eq_take_drop_succ,zr7,Nb];refine List.take_append_of_le_length (by simp[DG Bu,List.length_drop,a];omega) |>.trans ?_
 exact zq4 (by simp[DG Bu,List.length_drop,a];omega)
theorem ZK(h:w.ownsRow a T 2 (.slice (sa g 0) m N) m ((l.flatMap spC).take (i*2)++(l.drop (i+1)).flatMap spC++(l.flatMap spC).drop (i*2+(m-i-1)*2)))(b:l.length=m)(hi:i<m) :
  w.ownsRow a T 2 (.slice (sa g 0) (m-1) N) (m-1) ((l.eraseIdx i).flatMap spC):=by
 have:=L5 h zP (show m-1<=m by omega);rwa[Uw b hi]at this
theorem Ux(h:w.ownsRow a T 2 (.slice (sa g 0) m N) m (l.flatMap spC)):∀(j:Nat)(u:Value),((l.drop i).flatMap spC)[j]?=some u->w.cell? ((⟨g,i*2,none⟩:Addr).add j)=some u:=λj u b=>by
 rw[gN,List.getElem?_drop]at b;have:=h.cells (g:=g) rfl _ _ b;rw[Go.WideShapes.add_plain]at this⊢
 rw[Nat.zero_add]at this;exact this
theorem Hb(l:lP):∀u∈l.flatMap spC,u.oneCell'=true:=λu a=>by
 obtain⟨p,_,b⟩:=List.mem_flatMap.1 a;exact DH p u b
abbrev TH:=Nat×Pt×Pt×Pt
def thC(t:TH):List Value:=[.slice (sa t.1 0) 3 3]
def thT(t:TH):List Pt:=[t.2.1,t.2.2.1,t.2.2.2]
theorem uU(t:TH):∀u∈thC t,u.oneCell'=true:=λu a=>by
 simp only[thC,zr3,List.not_mem_nil,or_false]at a;subst a;rfl
def plG(w:World)(l:lP)(vs:lV):Prop:=∃A n c,vs=[.slice A n c]∧Ab 2 Ad w A n l∧n<=c
theorem JC:GC plG:=λ_ _ _ _ a ⟨A,n,c,b,e,f⟩=>⟨A,n,c,b,e.on Aa a,f⟩
def plS(w:World)(l:lP)(vs:lV):Prop:=∃b a n c,vs=[.slice (sa b a) n c]∧Ab 2 Ad w (sa b a) n l∧n<=c
theorem Lm:GC plS:=λ_ _ _ _ e ⟨b,a,n,c,f,g,i⟩=>⟨b,a,n,c,f,g.on Aa e,i⟩
theorem JD:(prog.info? 64).map (λi=>(i.zero,i.size,i.bytes))=some (some (zn),1,24):=zk
def thB(w:World)(t:TH):Prop:=Blk w t.1 56 #[zi t.2.1.1,zi t.2.1.2,zi t.2.2.1.1,zi t.2.2.1.2,zi t.2.2.2.1,zi t.2.2.2.2]
def Gd(w:World)(a:Nat)(v:Value)(g B:Nat)(ts:List TH):Prop:=w.ownsRow a 64 1 v ts.length (ts.flatMap thC)∧∀t∈ts,thB w t∧t.1≠g∧t.1≠B∧some t.1≠v.ownBlock
theorem Gd.start(w:World)(a g B:Nat):Gd w a (zn) g B []:=⟨World.ownsRow_nil _ _ _ _,λt h=>by cases h⟩
theorem Gd.below{ts:List TH}(h:Gd w a v g B ts)(b:Bw w w'):Gd w' a v g B ts:=
 ⟨Ah h.1 b,λt e=>⟨(h.2 t e).1.below b,(h.2 t e).2⟩⟩
theorem Gd.kept{r:Nat}{ts:List TH}(h:Gd w a v g B ts)(f:w.grownBy w' (some r))(i:r=g∨r=B)(j:v.ownBlock≠some r):Gd w' a v g B ts:=by
 refine⟨h.1.kept f (.inr j),λt b=>⟨(h.2 t b).1.grown f (λe=>?_),(h.2 t b).2⟩⟩;injection e with e
 rcases i with rfl|rfl
 ·exact(h.2 t b).2.1 e
 exact(h.2 t b).2.2.1 e
theorem Gd.more{ts:List TH}{t:TH}(h:Gd w b v g B ts)(i:thB w t)(k:t.1≠g)(l:t.1≠B)(j:some t.1≠v.ownBlock)(m:w'.ownsRow b 64 1 v' (ts.length+1) (ts.flatMap thC++thC t))(n:w.grownBy w' v.ownBlock)(o:v'.ownBlock=v.ownBlock∨v'.ownBlock=some w.heap.size):Gd w' b v' g B (ts++[t]):=by
 have key:∀x:TH,thB w x->some x.1≠v.ownBlock->thB w' x∧some x.1≠v'.ownBlock:=λx a f=>by
  refine⟨a.grown n f,λe=>?_⟩;rcases o with h|h
  ·exact f (e.trans h)
  rw[h]at e;injection e with e
  have:=a.lt;omega
 refine⟨by simpa[zr7]using m,λx a=>?_⟩;rcases zr1.1 a with a|a
 ·obtain⟨q1,q2,q3,q4⟩:=h.2 x a;exact⟨(key x q1 q4).1,q2,q3,(key x q1 q4).2⟩
 obtain rfl:x=t:=by simpa using a
 exact⟨(key x i j).1,k,l,(key x i j).2⟩
theorem uV{t:TH}(h:thB w t):Ab 2 Ad w (sa t.1 0) 3 (thT t):=ZA h
def NS(x:Except Int (List (List Pt)))(w:World)(e:Ending)(w':World):Prop:=Bw w w'∧match x with
 | .ok l=>∃A c,e=.returned (.tuple #[.slice A l.length c,zi 0])∧Ab 1 plS w' A l.length l∧l.length<=c
 | .error z=>e=.returned (.tuple #[zn,zi z])
theorem P3{f:lP}(h:D2 p=.ok f):An p=0∧(∀s∈f,inG s)∧f.length<=40:=by
 by_cases b:An p=0
 ·obtain⟨k1,k2,k3,k4⟩:=DN b;have k:∀s∈p,inG s:=λs a=>DZ.1 (by rw[List.any_eq_false]at k3;simpa using k3 s a)
  have e:=PZ (p:=p) zO k p.length;have o:=Oh p p.length;rw[R7 b]at h;injection h with h
  have j:∀s∈Cd p,inG s:=λs a=>by
   unfold Cd at a;rw[KV]at a;split at a
   ·exact e s (List.mem_reverse.1 a)
   exact e s a
  have n:(Cd p).length<=40:=by
   unfold Cd;rw[KV];split
   ·rw[List.length_reverse];omega
   omega
  subst h;refine⟨b,λs a=>?_,?_⟩
  ·rcases zr1.1 a with a|a
   ·exact j s (List.mem_of_mem_drop a)
   exact j s (List.mem_of_mem_take a)
  simp only[zq5,List.length_drop,zq7];omega
 unfold D2 at h;rw[if_pos b]at h
 cases h
theorem ZL(h:D2 p=.error z):z≠0:=by
 unfold D2 at h;split at h
 ·rename_i a;injection h with h
  rw[<-h];exact a
 cases h
structure SpR(w wr:World)(b0 base g B C N m:Nat)(v:Value)(l:lP)(ts:List TH):Prop where
 row:wr.ownsRow b0 56 2 (.slice (sa g 0) m N) m (l.flatMap spC)
 len:l.length=m
 grid:∀p∈l,inG p
 box:Blk wr B 64 #[.slice (sa g 0) m N]
 cor:Jn wr C B
 tri:Gd wr base v g B ts
 low:Bw w wr
 cap:m<=N
section
variable{w wr w':World}{b0 base g B C N m:Nat}{v:Value}{l:lP}{ts:List TH}
theorem SpR.recs(h:SpR w wr b0 base g B C N m v l ts):Ab 2 Ad wr (sa g 0) m l:=by
 obtain⟨A,c,a,b,e⟩:=CJ (G:=Ad) (g:=λx:Pt=>x) Bu h.row h.len (λt _=>rfl);rw[List.map_id']at b;injection a with a _ _
 rw[a];exact b
theorem SpR.left(h:SpR w wr b0 base g B C N m v l ts):L3 wr B (sa g 0) m N l:=⟨h.box.c rfl,h.box.lt,h.recs,h.grid⟩
theorem SpR.below(h:SpR w wr b0 base g B C N m v l ts)(a:Bw wr w'):SpR w w' b0 base g B C N m v l ts:=
 ⟨Ah h.row a,h.len,h.grid,h.box.below a,h.cor.on a,h.tri.below a,h.low.trans (a.mono h.low.size),h.cap⟩
end
theorem pN(T:TypeId)(a:cs.size=m*2)(b:m<=maxLen):(w.alloc (.cells cs T)).ownsRow w.heap.size T 2 (.slice (sa w.heap.size 0) m m) m cs.toList:=
 ⟨by simpa using a,.inr ⟨w.heap.size,m,cs,rfl,zs2 _,Blk.new w T cs,zs2 _,b,a,zq4 (by simpa using Nat.le_of_eq a)⟩⟩
theorem pO(h:Ab 2 Ad w A n l)(a:0<n):∃da,A=some da∧∀j v,(l.flatMap spC)[j]?=some v->w.cell? (da.add j)=some v:=by
 obtain⟨b,k,rfl,_,e⟩:=MZ h a;exact⟨_,rfl,λj v f=>by rw[Go.WideShapes.add_plain];exact e j v f⟩
theorem Sb(m:Nat):(madeCells #[zi 0,zi 0] (m*2)).size=m*2:=by simp[madeCells]
theorem Sc{p:Pt}(h:p∈l.eraseIdx i):p∈l:=List.mem_of_mem_eraseIdx h
theorem Bf(w:World)(p:Addr)(u:Value):w.grownBy (w.setCell p u) (some p.block):=
 ⟨rfl,rfl,rfl,by rw[World.size_setCell];exact zs2 _,λk _ a=>Below.heap_setCell w p u k (λe=>a (by rw[e]))⟩
theorem Jn.grown{r:Option Nat}(h:Jn w C B)(b:w.grownBy w' r)(e:some C≠r):Jn w' C B:=
 ⟨(World.cell?_of_block (a:=⟨C,0,none⟩) (b.block C h.2 e)).trans h.1,zs1 h.2 b.size⟩
section
variable{w wr w1 w':World}{b0 base g B C N m i:Nat}{v v':Value}{l:lP}{ts:List TH}{t:TH}
theorem SpR.struck(h:SpR w wr b0 base g B C N m v l ts)(hi:i<m)(j:g<base)(n:B<base)(f:B≠g)(o:C≠g)(q:C≠B)(D:w.heap.size<=g)(r:w.heap.size<=B)
  (y:w1.ownsRow b0 56 2 (.slice (sa g 0) m N) m ((l.flatMap spC).take (i*2)++(l.drop (i+1)).flatMap spC++(l.flatMap spC).drop (i*2+(m-i-1)*2))) (b:wr.grownBy w1 (some g)) :
  SpR w (w1.setCell (ad B 0) (.slice (sa g 0) (m-1) N)) b0 base g B C N (m-1) v (l.eraseIdx i) ts:=by
 have a:=Bf w1 ⟨B,0,none⟩ (.slice (sa g 0) (m-1) N);have s:Blk w1 B 64 #[.slice (sa g 0) m N]:=h.box.grown b (λe=>f (by injection e))
 have x:∀k,k<base->v.ownBlock≠some k:=λk E e=>by
  have:=(h.tri.1.lt _ e).1;omega
 refine⟨?_,?_,λp z=>h.grid p (Sc z),?_,?_,?_,?_,?_⟩
 ·refine(ZK y h.len hi).kept a (.inr ?_);intro e;injection e with e
  exact f e.symm
 ·rw[List.length_eraseIdx,if_pos (by rw[h.len];exact hi),h.len]
 ·have:=s.set_ 0 (.slice (sa g 0) (m-1) N);simpa using this
 ·exact(h.cor.grown b (λe=>o (by injection e))).grown a (λe=>q (by injection e))
 ·exact(h.tri.kept b (.inl rfl) (x g j)).kept a (.inr rfl) (x B n)
 ·exact(Ax h.low b h.low.size (λk e=>by injection e with e;omega)).setCell r _
 have:=h.cap;omega
theorem SpR.tri1(h:SpR w wr b0 base g B C N m v l ts)(f:g<base)(j:B<base)(n:C<base)(y:w.heap.size<=base)(o:thB wr t)(p:t.1≠g)(q:t.1≠B)(r:some t.1≠v.ownBlock)(s:w'.ownsRow base 64 1 v' (ts.length+1) (ts.flatMap thC++thC t))(a:wr.grownBy w' v.ownBlock)(x:v'.ownBlock=v.ownBlock∨v'.ownBlock=some wr.heap.size):SpR w w' b0 base g B C N m v' l (ts++[t]):=by
 have b:∀k,k<base->some k≠v.ownBlock:=λk z e=>by
  have:=(h.tri.1.lt _ e.symm).1;omega
 exact⟨h.row.kept a (by
   cases hvb:v.ownBlock with
   | none=>exact .inr (by simp[Value.ownBlock])
   | some k=>exact .inr (λe=>b g f (by rw[hvb];simpa[Value.ownBlock]using e))),h.len,h.grid,h.box.grown a (b B j),h.cor.grown a (b C n),h.tri.more o p q r s a x,Ax h.low a h.low.size (λk e=>by have:=(h.tri.1.lt _ e).1;omega),h.cap⟩
end
theorem SpR.done{b0 base:Nat}{ts:List TH}{o:Obj}(h:SpR w wr b0 base g B C N m v l ts)(H:g<base)(E:w7.ownsRow base 64 1 v7 (ts.length+1) (ts.flatMap thC++[.slice (sa g 0) m N]))(p:(wr.alloc o).grownBy w7 v.ownBlock)(I:w.heap.size<=base) :
  NS (.ok (ts.map thT++[l])) w (.returned (.tuple #[v7,zi 0])) w7:=by
 have a:=h.below (zA o)
 have s:some g≠v.ownBlock:=λe=>by
  have:=(a.tri.1.lt _ e.symm).1;omega
 have q:w7.ownsRow b0 56 2 (.slice (sa g 0) m N) m (l.flatMap spC):=a.row.kept p (by
  cases hvb:v.ownBlock with
  | none=>exact .inr (by simp[Value.ownBlock])
  | some k=>exact .inr (λe=>s (by rw[hvb];simpa[Value.ownBlock]using e)))
 obtain⟨A,c,r,y,J⟩:=CJ (G:=Ad) (g:=λx:Pt=>x) Bu q h.len (λt _=>rfl);rw[List.map_id']at y
 obtain⟨A7,c7,z,j,D⟩:=CJ (G:=plS) (β:=Value×List Pt) (f:=λx=>[x.1]) (g:=λx=>x.2) (ts:=ts.map (λt=>(.slice (sa t.1 0) 3 3,thT t))++[(.slice (sa g 0) m N,l)]) (n:=ts.length+1) (λx=>rfl) (by
   rw[zr7,List.flatMap_map];exact E) zP (λx b=>by
   rcases zr1.1 b with b|b
   ·obtain⟨t,F,rfl⟩:=zr2.1 b;obtain⟨q1,q2,q3,q4⟩:=a.tri.2 t F;exact⟨t.1,0,3,3,rfl,uV (q1.grown p q4),zs2 _⟩
   obtain rfl:=zr9.1 b;injection r with r _ _
   exact⟨g,0,_,_,rfl,by rw[r];exact y,h.cap⟩)
 refine⟨Ax a.low p a.low.size (λk e=>by have:=(a.tri.1.lt _ e).1;omega),A7,c7,?_,?_,?_⟩
 ·rw[z];simp
 ·have e:(ts.map (λt:TH=>((Value.slice (sa t.1 0) 3 3,thT t):Value×List Pt))++[(Value.slice (sa g 0) m N,l)]).map (λx:Value×List Pt=>x.2)=ts.map thT++[l]:=by simp[List.map_map,Function.comp_def]
  rw[e]at j;simpa using j
 simpa using D
abbrev ZM(w:World)(a b c:Pt):World:=(((((w.alloc (.cells #[zi a.1,zi a.2] 56)).alloc (.cells #[zi b.1,zi b.2] 56)).alloc (.cells #[zi c.1,zi c.2] 56)).alloc (.cells #[zi a.1,zi a.2,zi b.1,zi b.2,zi c.1,zi c.2] 56)).alloc (.cells #[.slice (sa (w.heap.size+1+1+1) 0) 3 3] 64))
theorem L6(w:World)(a b c:Pt):Bw w (ZM w a b c):=Below.alo (Below.alo (Below.alo (Below.alo (zA _) _) _) _) _
theorem uW(w:World)(a b c:Pt):thB (ZM w a b c) (w.heap.size+1+1+1,a,b,c):=(Blk.new' _ _ _ zP).alloc _
theorem gO(w:World)(a b c:Pt):∀(j:Nat)(u:Value),(thC (w.heap.size+1+1+1,a,b,c))[j]?=some u->(ZM w a b c).cell? ((⟨w.heap.size+1+1+1+1,0,none⟩:Addr).add j)=some u:=λj u e=>by
 have f:Blk (ZM w a b c) (w.heap.size+1+1+1+1) 64 #[.slice (sa (w.heap.size+1+1+1) 0) 3 3]:=Blk.new' _ _ _ zP
 cases j with
 | zero=>
  rw[Go.WideShapes.add_plain];exact f.c e
 | succ j=>simp[thC]at e
theorem pP(w:World)(v:Value)(T:TypeId):∀(j:Nat)(u:Value),([v]:lV)[j]?=some u->(zw w #[v] T).cell? ((⟨w.heap.size,0,none⟩:Addr).add j)=some u:=λj u a=>by
 cases j with
 | zero=>
  rw[Go.WideShapes.add_plain];exact(Blk.new w T #[v]).c a
 | succ j=>simp at a
theorem pQ(A:oA)(n c:Nat):∀u∈([.slice A n c]:lV),u.oneCell'=true:=λu a=>by
 obtain rfl:=zr9.1 a;rfl
theorem Ra:(prog.info? 56).map (·.size)=some 2:=zk
theorem Kx(A:oA)(n c:Nat)(l:lP)(w:World)(ha:Ab 2 Ad w A n l)(hc:n<=c)(hn:n<=1000000) :
  CP 58 #[.slice A n c] w (NS (BN l) w):=by
 have y:=Zz A n c l w ha hc hn
 cases hf:D2 l with
 | error z=>
  rw[hf]at y;have hz:=ZL hf;have b4:(z != 0)=true:=by simpa using hz
  have HN:=zH y;obtain⟨Q,hQ⟩:=zG (NS (BN l) w)
  have HQ:Hid (Q=λe w'=>Bw w w'∧e=.returned (.tuple #[zn,zi z])):=by
   rw[Hid,<-hQ];funext e w';unfold NS BN;rw[hf]
  rw[hQ];clear y hz hQ hf ha;go_enter func58,ntmps58;go_wp2_with(go_at_call 89;refine HN.o.mono ?_;rintro e w1 ⟨M,he⟩;replace he:e=.returned (.tuple #[zn,zi z]):=he;subst he;have a1:=zH M;clear M)
  (try go_ret2)
  rw[HQ.o];exact⟨a1.o,rfl⟩
 | ok f=>
  rw[hf]at y;obtain⟨_,hg,al⟩:=P3 hf;have HG:=zH hg;have HN:=zH y;obtain⟨R,hR⟩:=zG (Cq f.length f []);have HR:=zH hR;obtain⟨Q,hQ⟩:=zG (NS (BN l) w)
  have HQ:Hid (Q=NS R w):=by
   rw[Hid,<-hQ];unfold BN;rw[hf,<-hR]
  rw[hQ];clear y hQ hf ha hg hR;go_enter func58,ntmps58
  go_wp2_with(first
   | (go_at_call 89;refine HN.o.mono ?_;rintro e w1 ⟨M,he⟩;obtain⟨A1,m,C1,he,a2,b5⟩:=he;subst he;have a1:=zH M;have ap:=zH a2;have ae:=zH a2.len;have af:m<=40:=zs0 (Nat.le_of_eq a2.len.symm) al;have aq:=λW=>E7 m (zs0 af zD) W;have ag:=zH (pN (w:=w1) 56 (Sb m) (zs0 af zD));clear M a2)
   | (refine J5 (by rfl) _ _ _ _ (by rfl) w1.heap.size 56 underlying64 Ra w1.heap.size m m 0 m _ (f.flatMap spC) (Ah ag.o (by exact zA _)) m m m C1 A1 (by rfl) (by rfl) (Nat.min_self m) (by rw[DG Bu,ae.o]) zO (λL=>pO (ap.o.on Aa (by exact Below.alo (zA _) _)) L) (Hb f) ?_;intro w2 ah ai;have aj:=zH ah;have O:=zH ai;clear ah ai))
  have b3:=O;have b6:w1.heap.size+1<w2.heap.size:=by have:=O.o.size;simp at this;omega
  have a5:w.heap.size<=w1.heap.size:=a1.o.size;have ar:Hid (Bw w w2):=Ax (Below.alo (Below.alo a1.o _) _) O.o zQ (λk e=>by injection e with e;omega)
  have am:Hid (Blk w2 (w1.heap.size+1) 64 #[.slice (sa w1.heap.size 0) m m]):=Blk.grown (Blk.new' _ _ _ zP) O.o (λe=>by injection e with e;omega)
  have au:Hid (SpR w (zw w2 #[.func (.func 90) #[] #[.pointer (sa (w1.heap.size+1) 0)]] 184) w1.heap.size (w2.heap.size+1) w1.heap.size (w1.heap.size+1) w2.heap.size m m (zn) f []):=by
   refine⟨Ah ?_ (zA _),ae.o,HG.o,am.o.alloc _,⟨(Blk.new w2 _ _).c rfl,by simp⟩,Gd.start _ _ _ _,Below.alo ar.o _,zs2 _⟩;have:=aj.o;rw[List.take_zero,List.nil_append,zr6 (by rw[Array.length_toList,Sb];omega),zt3]at this;exact this
  clear aq aj ag O
  go_loopg [10,11,12,13,14,32,33,35,36,37,38,39,40,41,42,43,44,45,46,47,48,49,50,51,52,53,54,55,56,57,58,59,60,61,62,63,64,65,66,67,68,69,70,71,72,73] m (λgm v _ _ _ _ _ _ _ _ _ _ _ _ _ _ _ _ _ _ _ _ _ _ _ _ _ _ _ _ _ _ _ _ _ _ _ _ _ _ _ _ _ _ _ _ _ wr=>∃(l':lP)(ts:List TH),gm+ts.length<=m∧Hid (SpR w wr w1.heap.size (w2.heap.size+1) w1.heap.size (w1.heap.size+1) w2.heap.size m gm v l' ts)∧Hid (Cq l'.length l' (ts.map thT)=R))
  case atStart=>exact⟨f,[],zs2 _,au.o,HR.o⟩
  case round=>
   obtain⟨l',ts,b7,D,a3⟩:=hrel;have b8:=zH D.o.left;have ac:=D.o.left.cell;have S:=D.o.box.lt;have j:=D.o.len;have av:=enters_of func91 zk rfl;have an:=enters_of func93 zk rfl;by_cases h3:3<gk
   ·have E:=zH (R8 91 #[.pointer (sa w2.heap.size 0)] gk (El l') wr ⟨λi W hi hb=>Uu (w1.heap.size+1) w2.heap.size gk m i _ l' W (D.o.left.on hb) (D.o.cor.on hb) hi zO,av⟩ zO);rcases Na gk (El l')with⟨i,hi,F,hv⟩|⟨F,hv⟩
    ·rw[hv]at E;have p:Hid (Cq (l'.eraseIdx i).length (l'.eraseIdx i) (ts.map thT)=R):=(Q9 (by rw[j];exact h3) (by rw[j];exact F)).symm.trans a3.o;have ii0:¬((i:Int)<0):=zO;clear F hv
     go_upto_region 18 with(go_at_call 95;refine E.o.mono ?_;rintro e w3 ⟨rfl,r⟩;have a:=zH (D.o.below r);clear r)
     clear ac S;have a6:=a.o.left.cell;have S:=a.o.box.lt;have ao:=a.o.cap;have G:Hid (∀w9,w3.grownBy w9 (some w1.heap.size)->Blk w9 (w1.heap.size+1) 64 #[.slice (sa w1.heap.size 0) gk m]):=zH (λw9 hg=>a.o.box.grown hg (λe=>by injection e with e;omega))
     have i1:(0:Int)<=(i:Int):=zO;have i2:(i:Int)<=(gk:Int):=zO;have i3:(i:Int)<=(m:Int):=zO;have i4:IntKind.i64.wrap ((i:Int)+1)=(i:Int)+1:=zs5 _ zO;have i5:(i:Int)+1<=(gk:Int):=zO;have i6:(i:Int)+1<=(m:Int):=zO;have i7:(0:Int)<=(i:Int)+1:=zO;have i9:IntKind.i64.wrap ((gk:Int)-1)=(gk:Int)-1:=zs5 _ zO;have a7:Hid (Nat.min (gk-(i+1)) (gk-i)=gk-i-1):=zH (show min _ _=_ by omega);have a8:Hid (((l'.drop (i+1)).flatMap spC).length=(gk-i-1)*2):=zH (by rw[DG Bu,List.length_drop,a.o.len,Nat.sub_sub]);have a9:Hid (i*2+(gk-i-1)*2<=gk*2):=zH zO
     obtain⟨da,H⟩:∃da:Addr,(if m=i+1 then some (⟨w1.heap.size,0,none⟩:Addr)else some ⟨w1.heap.size,(i+1)*2,none⟩)=some da∧(0<gk-i-1->da=⟨w1.heap.size,(i+1)*2,none⟩):=by
      by_cases y:m=i+1
      ·exact⟨_,if_pos y,λL=>absurd L zO⟩
      exact⟨_,if_neg y,λ_=>rfl⟩
     have T:=zH H;clear S H;go_still_tail 7,zk
     simp only[T.o.1];refine J5 (by rfl) _ _ _ _ (by rfl) w1.heap.size 56 underlying64 Ra w1.heap.size gk m (i*2) (gk-i-1) (l'.flatMap spC) ((l'.drop (i+1)).flatMap spC) (by exact a.o.row.drew) (gk-i) (m-i) (gk-(i+1)) (m-(i+1)) (some da) (by go_simp;omega) (by rfl) a7.o a8.o a9.o (λL=>⟨_,rfl,by rw[T.o.2 L];exact Ux (by exact a.o.row.drew)⟩) (Hb _) ?_;intro w9 U b;have aa:=zH U;have q:Hid (w3.grownBy w9 (some w1.heap.size)):=zH (by exact⟨b.os,b.tape,b.output,b.size,b.block⟩);clear U b a6;have aw:w9.cell? (ad (w1.heap.size+1) 0)=some (.slice (sa w1.heap.size 0) gk m):=(G.o w9 q.o).c rfl;have ax:=(G.o w9 q.o).lt;have ay:=(G.o w9 q.o).frozen 0;go_wp2;have ab:=zH (SpR.struck a.o hi zO zO zO zO zO a5 zO aa.o q.o);go_roundg (gk-1)
     case measure=>omega
     case rel=>exact⟨l'.eraseIdx i,ts,by(try rw[zq5,zq9]);omega,ab,p⟩
    rw[hv]at E;have V:=zH (λW (h:SpR w W w1.heap.size (w2.heap.size+1) w1.heap.size (w1.heap.size+1) w2.heap.size m gk u10 l' ts)=>R8 93 #[.pointer (sa w2.heap.size 0),.pointer (sa (w1.heap.size+1) 0)] gk (Iz l') W ⟨λi W2 hi hb=>pL (w1.heap.size+1) w2.heap.size gk m i _ l' W2 (h.left.on hb) (h.cor.on hb) hi zO,an⟩ zO);rcases Na gk (Iz l')with⟨i,hi,I,X⟩|⟨I,X⟩
    ·simp only[X]at V
     have p:∀x:Nat,Hid (Cq (l'.eraseIdx i).length (l'.eraseIdx i) ((ts++[(x,DB l' i,vtx l' i,vtx l' (i+1))]).map thT)=R):=λx=>by
      rw[zr0];exact(ZJ (by rw[j];exact h3) (by rw[j];exact F) (by rw[j];exact I)).symm.trans a3.o
     have az:=zH (λW (h:SpR w W w1.heap.size (w2.heap.size+1) w1.heap.size (w1.heap.size+1) w2.heap.size m gk u10 l' ts)=>L4 (w1.heap.size+1) gk m i _ l' W h.left hi zO);have b9:=enters_of func90 zk rfl;have ii0:¬((i:Int)<0):=zO;clear F hv I X
     go_upto_region 18 with(first
      | (go_at_call 95;first
       | (refine E.o.mono ?_;rintro e w3 ⟨rfl,r⟩;have a:=zH (D.o.below r);have b1:=a.o.left.cell;have b2:=a.o.box.lt;clear r E)
       | (refine(V.o _ a.o).mono ?_;rintro e w4 ⟨rfl,Y⟩;have J:=zH (a.o.below Y);have ba:=J.o.cor.1;have bb:=J.o.cor.2;clear Y V))
      | (go_at_call 90;refine(az.o _ J.o).mono ?_;rintro e w5 ⟨rfl,ak⟩;have K:=zH (J.o.below ak);clear ak)
      | (at_builtin;refine Bt (P:=prog) (by rfl) _ _ 51 (by rfl) (w2.heap.size+1) 64 (zn) 1 24 underlying51 JD rfl zD u10 ts.length (ts.flatMap thC) (by rfl) (K.o.below (L6 _ _ _ _)).tri.1 ⟨w5.heap.size+1+1+1+1,0,none⟩ 1 1 (thC (w5.heap.size+1+1+1,DB l' i,vtx l' i,vtx l' (i+1))) (by rfl) (by rfl) (gO _ _ _ _) (uU _) zU zO (zs0 K.o.cor.2 (L6 _ _ _ _).size) ?_;intro v7 w7 Z a0 a4;have s:=zH ((K.o.below (L6 _ (DB l' i) (vtx l' i) (vtx l' (i+1)))).tri1 zO zO zO zO (uW _ _ _ _) (by have:=K.o.cor.2;show w5.heap.size+1+1+1≠_;omega) (by have:=K.o.cor.2;show w5.heap.size+1+1+1≠_;omega) (λe=>by have:=(K.o.tri.1.lt _ e.symm).2;omega) Z a0 a4);clear Z a0 a4))
     have a6:=s.o.left.cell;have S:=s.o.box.lt;have ao:=s.o.cap;have G:Hid (∀w9,w7.grownBy w9 (some w1.heap.size)->Blk w9 (w1.heap.size+1) 64 #[.slice (sa w1.heap.size 0) gk m]):=zH (λw9 hg=>s.o.box.grown hg (λe=>by injection e with e;omega))
     have i1:(0:Int)<=(i:Int):=zO;have i2:(i:Int)<=(gk:Int):=zO;have i3:(i:Int)<=(m:Int):=zO;have i4:IntKind.i64.wrap ((i:Int)+1)=(i:Int)+1:=zs5 _ zO;have i5:(i:Int)+1<=(gk:Int):=zO;have i6:(i:Int)+1<=(m:Int):=zO;have i7:(0:Int)<=(i:Int)+1:=zO;have i9:IntKind.i64.wrap ((gk:Int)-1)=(gk:Int)-1:=zs5 _ zO;have a7:Hid (Nat.min (gk-(i+1)) (gk-i)=gk-i-1):=zH (show min _ _=_ by omega);have a8:Hid (((l'.drop (i+1)).flatMap spC).length=(gk-i-1)*2):=zH (by rw[DG Bu,List.length_drop,s.o.len,Nat.sub_sub]);have a9:Hid (i*2+(gk-i-1)*2<=gk*2):=zH zO
     obtain⟨da,H⟩:∃da:Addr,(if m=i+1 then some (⟨w1.heap.size,0,none⟩:Addr)else some ⟨w1.heap.size,(i+1)*2,none⟩)=some da∧(0<gk-i-1->da=⟨w1.heap.size,(i+1)*2,none⟩):=by
      by_cases y:m=i+1
      ·exact⟨_,if_pos y,λL=>absurd L zO⟩
      exact⟨_,if_neg y,λ_=>rfl⟩
     have T:=zH H;clear S H;go_still_tail 7,zk
     simp only[T.o.1];refine J5 (by rfl) _ _ _ _ (by rfl) w1.heap.size 56 underlying64 Ra w1.heap.size gk m (i*2) (gk-i-1) (l'.flatMap spC) ((l'.drop (i+1)).flatMap spC) (by exact s.o.row.drew) (gk-i) (m-i) (gk-(i+1)) (m-(i+1)) (some da) (by go_simp;omega) (by rfl) a7.o a8.o a9.o (λL=>⟨_,rfl,by rw[T.o.2 L];exact Ux (by exact s.o.row.drew)⟩) (Hb _) ?_;intro w9 U b;have aa:=zH U;have q:Hid (w7.grownBy w9 (some w1.heap.size)):=zH (by exact⟨b.os,b.tape,b.output,b.size,b.block⟩);clear U b a6;have aw:w9.cell? (ad (w1.heap.size+1) 0)=some (.slice (sa w1.heap.size 0) gk m):=(G.o w9 q.o).c rfl;have ax:=(G.o w9 q.o).lt;have ay:=(G.o w9 q.o).frozen 0;go_wp2;have ab:=zH (SpR.struck s.o hi zO zO zO zO zO a5 zO aa.o q.o);go_roundg (gk-1)
     case measure=>omega
     case rel=>exact⟨l'.eraseIdx i,(ts++[(w5.heap.size+1+1+1,DB l' i,vtx l' i,vtx l' (i+1))]),by(try rw[zq5,zq9]);omega,ab,p _⟩
    simp only[X]at V;have p:Hid (R=.error 11):=a3.o.symm.trans (pM (by rw[j];exact h3) (by rw[j];exact F) (by rw[j];exact I));clear F hv I X
    go_wp2_with(go_at_call 95;first
     | (refine E.o.mono ?_;rintro e w3 ⟨rfl,r⟩;have a:=zH (D.o.below r);have b1:=a.o.left.cell;have b2:=a.o.box.lt;clear r E)
     | (refine(V.o _ a.o).mono ?_;rintro e w4 ⟨rfl,Y⟩;have J:=zH (a.o.below Y);clear Y))
    rw[HQ.o,p.o];exact⟨J.o.low,rfl⟩
   have p:Hid (R=.ok (ts.map thT++[l'])):=a3.o.symm.trans (ZI (by rw[j];omega));go_wp2_with(at_builtin;refine Bt (P:=prog) (by rfl) _ _ 51 (by rfl) (w2.heap.size+1) 64 (zn) 1 24 underlying51 JD rfl zD u10 ts.length (ts.flatMap thC) (by rfl) (D.o.below (zA _)).tri.1 ⟨wr.heap.size,0,none⟩ 1 1 [.slice (sa w1.heap.size 0) gk m] (by rfl) (by rfl) (pP _ _ _) (pQ _ _ _) zU zO (zs0 D.o.cor.2 (Below.alo (Below.refl wr.heap.size wr) _).size) ?_;intro v7 w7 Z a0 a4;have HD:=zH (D.o.done zO Z a0 zO);clear Z a0 a4)
   rw[HQ.o,p.o];exact HD.o
def P4(a b:lP)(i:Nat):Int:=b.foldl (λm v=>max m (Bb (Ao (vtx a i) (vtx a (i+1)) v))) (-1)
def Ln(a b:lP)(k:Nat):Int:=((List.range k).map (P4 a b)).foldl min 1
theorem WI(a b:lP):JU a b=Ln a b a.length:=rfl
theorem ZN(a b:lP)(k:Nat):Ln a b (k+1)=min (Ln a b k) (P4 a b k):=by
 unfold Ln;rw[List.range_succ,zr0,List.foldl_append];rfl
theorem Sd{α β : Type}{f : β->α->β}{x : β}{l:List α}{p : α}(h:l[k]?=some p):(l.take (k+1)).foldl f x=f ((l.take k).foldl f x) p:=by
 rw[List.take_add_one,List.foldl_append,h];rfl
theorem uX(x:Int):Lib.compareInt x 0=Bb x:=by
 unfold Lib.compareInt Bb;rfl
theorem Se(A1 A2:oA)(n1 c1 n2 c2:Nat)(a b:lP)(w:World)(C:Ab 2 Ad w A1 n1 a)(Q:Ab 2 Ad w A2 n2 b)(D:∀p∈a,inG p)(E:∀p∈b,inG p)(a2:n1<=1000000)(a3:n2<=1000000) :
  CP 96 #[.slice A1 n1 c1,.slice A2 n2 c2] w (zR (zi (JU a b)) w):=by
 have U:=zH C;have HB:=zH Q;have F:=zH D;have V:=zH E;have HC:=zH (λ(x:Int) W=>(Tryz.cmp_Compare_int x 0 W).mono λ_ _ h=>(⟨h.1.trans (by rw[uX]),h.2.symm⟩:_=Ending.returned (zi (Bb x))∧W=_));have HL:Hid (JU a b=Ln a b n1):=zH (by rw[WI,C.len]);have G:=C.len;have a4:=Q.len;clear C Q D E;go_enter func96,ntmps96
 go_wp2_with fail
 go_loopw[5,6,7,8,9,11,12,15,16,17,18,19,20,21,22,23,24,25,26,27,28,29,30,31,32,33,34,35,36,37,38,39,40,41,42,43,44,45,46,47,48,49,50,51,52,53,54,55,56,57,58,59,60,61,62,63,64,65] (λle _ _ _ _ _ _ i _ _ _ _ _ _ _ _ _ _ _ _ _ _ _ _ _ _ _ _ _ _ _ _ _ _ _ _ _ _ _ _ _ _ _ _ _ _ _ _ _ _ _ _ _ _ _ _ _ _ wr=>∃k:Nat,k<=n1∧i=zi (k:Int)∧le=zi (Ln a b k)∧Hid (Bw w wr)) (λ_ _ _ _ _ _ _ i _ _ _ _ _ _ _ _ _ _ _ _ _ _ _ _ _ _ _ _ _ _ _ _ _ _ _ _ _ _ _ _ _ _ _ _ _ _ _ _ _ _ _ _ _ _ _ _ _ _ _=>n1-(intOf i).toNat)
 case atStart=>exact⟨0,zs3 _,rfl,rfl,zJ⟩
 case round=>
  obtain⟨k,hk,rfl,rfl,f⟩:=hrel;by_cases H:k<n1
  ·obtain⟨m2,s⟩:=zG ((k+1)%n1);have l2:m2<n1:=by rw[<-s];exact Nat.mod_lt _ zO
   obtain⟨b1,a5,p,rfl,X,n,d0,d1⟩:=Ap (U.o.on Aa f.o) H;obtain⟨b2,a0,q,t,_,r,d2,d3⟩:=Ap (U.o.on Aa f.o) l2;injection t with t
   injection t with e1 e2
   subst e1;subst e2;have e2:vtx a k=p:=Dl G (Nat.mod_eq_of_lt H) n;have e3:vtx a (k+1)=q:=Dl G s r;have I:=F.o p (zq2 n);have J:=F.o q (zq2 r);have K:=zH I;have L:=zH J;have HS:Hid (P4 a b k=b.foldl (λm v=>max m (Bb (Ao p q v))) (-1)):=zH (by unfold P4;rw[e2,e3]);obtain⟨i1,i2⟩:=zI (k:=k) (n:=n1) (by omega);have i5:IntKind.i64.wrap ((k:Int)+1)=((k+1:Nat):Int):=by rw[zs5 _ zO];omega
   have i7:(((k+1:Nat):Int)).tmod (n1:Int)=(m2:Int):=by rw[<-s];rfl
   have i8:¬(n1:Int)=0:=zO;have i8b:¬n1=0:=zO;obtain⟨i11,i12⟩:=zI (k:=m2) (n:=n1) (by omega);have R:b1<wr.heap.size+1:=zO;clear s n r e2 e3 I J;obtain⟨z,S⟩:=zG (k+1);have HZ:=zH S;rw[S]at i5 i7;clear S
   go_wp2_with fail
   have M:Hid (Bw wr ((wr.alloc (.cells #[zi p.1,zi p.2] 56)).alloc (.cells #[zi q.1,zi q.2] 56))):=zH (Below.alo (zA _) _);have N:=zH ((Blk.new wr 56 #[zi p.1,zi p.2]).alloc (.cells #[zi q.1,zi q.2] 56));have O:=zH (Blk.new' (wr.alloc (.cells #[zi p.1,zi p.2] 56)) 56 #[zi q.1,zi q.2] (g:=wr.heap.size+1) zP);obtain⟨W0,P⟩:=zG ((wr.alloc (.cells #[zi p.1,zi p.2] 56)).alloc (.cells #[zi q.1,zi q.2] 56));rw[P]at M N O⊢
   have y:=zH (zT f.o M.o);clear P d0 d1 d2 d3 X R i5 i7
   go_loopw[9,11,12,30,31,32,33,34,35,36,37,38,39,40,41,42,43,44,45,46,47,48,49,50,51,52,53,54,55,56,57,58,59,60,61] (λmo _ _ j' _ _ _ _ _ _ _ _ _ _ _ _ _ _ _ _ _ _ _ _ _ _ _ _ _ _ _ _ _ _ _ wq=>∃j:Nat,j<=n2∧j'=zi (j:Int)∧mo=zi ((b.take j).foldl (λm v=>max m (Bb (Ao p q v))) (-1))∧Hid (Bw W0 wq)) (λ_ _ _ j _ _ _ _ _ _ _ _ _ _ _ _ _ _ _ _ _ _ _ _ _ _ _ _ _ _ _ _ _ _ _ _=>n2-(intOf j).toNat)
   case atStart=>exact⟨0,zs3 _,rfl,rfl,zJ⟩
   case round=>
    obtain⟨j,hj,rfl,rfl,l⟩:=hrel;by_cases Y:j<n2
    ·obtain⟨b3,a1,v,rfl,a6,T,f0,f1⟩:=Ap ((HB.o.on Aa y.o).on Aa l.o) Y;have HF:Hid ((b.take (j+1)).foldl (λm v=>max m (Bb (Ao p q v))) (-1)=max ((b.take j).foldl (λm v=>max m (Bb (Ao p q v))) (-1)) (Bb (Ao p q v))):=zH (Sd T);have B:=V.o v (zq2 T);have n:=N.o.below l.o;have r:=O.o.below l.o;obtain⟨x0,x1⟩:=AR n;obtain⟨x2,x3⟩:=AR r;have xl:=n.lt;have xl1:=r.lt;have hx:=OJ K.o L.o B;have HE:Hid (Ao p q v=(q.1-p.1)*(v.2-p.2)-(q.2-p.2)*(v.1-p.1)):=rfl;have Z:=zH B;obtain⟨i1,i2⟩:=zI (k:=j) (n:=n2) (by omega);clear n r T B;generalize(b.take j).foldl (λm v=>max m (Bb (Ao p q v))) (-1)=mo at *
     obtain⟨y1,y2,y3,y4⟩:=K.o;obtain⟨y5,y6,y7,y8⟩:=L.o;obtain⟨y9,y10,y11,y12⟩:=Z.o;obtain⟨⟨z1,z2⟩,z3,z4⟩:=hx;go_wp2_with(go_at_call 107;refine(HC.o _ _).mono ?_;rintro e w9 ⟨rfl,rfl⟩)
     go_roundw
     case rel=>
      exact⟨j+1,by omega,by go_num,by rw[HF.o,HE.o],zH (Below.alo l.o _)⟩
     case measure=>exact zM
    obtain rfl:j=n2:=zO;have HT:Hid ((b.take j).foldl (λm v=>max m (Bb (Ao p q v))) (-1)=P4 a b k):=zH (by rw[HS.o,zq4 zO])
    go_wp2_with fail
    go_roundw
    case rel=>
     exact⟨k+1,by omega,by go_num,by rw[HT.o,ZN],zH (zT y.o l.o)⟩
    case measure=>exact zM
  obtain rfl:k=n1:=zO
  go_wp2_with fail
  go_ret;exact⟨by rw[HL.o];rfl,f.o⟩
theorem WJ(A1 A2:oA)(n1 c1 n2 c2:Nat)(a b:lP)(w:World)(m:Ab 2 Ad w A1 n1 a)(n:Ab 2 Ad w A2 n2 b)(i:∀p∈a,inG p)(j:∀p∈b,inG p)(k:n1<=1000000)(l:n2<=1000000) :
  CP 59 #[.slice A1 n1 c1,.slice A2 n2 c2] w (zR (zi (EX a b)) w):=by
 have q:=zH (Se A1 A2 n1 c1 n2 c2 a b w m n i j k l);have r:=zH (λW (h:Bw w W)=>Se A2 A1 n2 c2 n1 c1 b a W (n.on Aa h) (m.on Aa h) j i l k);have t:Hid (EX a b=min (JU a b) (JU b a)):=rfl;go_enter func59,ntmps59
 go_wp2_with(go_at_call 96;first
  | (refine q.o.mono ?_;rintro e w1 ⟨rfl,f⟩;have g:=zH f;clear f q)
  | (refine(r.o _ g.o).mono ?_;rintro e w2 ⟨rfl,f⟩;have s:=zH (zT g.o f);clear f r))
 go_ret;exact⟨by rw[t.o];rfl,s.o⟩
end Go.Proofs.YteafekbddckemaaGreatDoor
