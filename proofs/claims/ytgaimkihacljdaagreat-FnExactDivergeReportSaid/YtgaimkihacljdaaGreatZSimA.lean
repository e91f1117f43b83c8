/- Lemmas: SimA SimB SimC SimD SimE SimF. -/
import Derived.Conc.Events
import GoSem.Dispatch
/- A lone run over a stand-in and a run of the given program, operation by operation: the worlds part in the dead blocks and in the tape alone. (Round C) -/
namespace Go.Proofs.YtgaimkihacljdaaGreat
def Qdo(K:Code→Prop)(V:FuncId→Prop)(l:Loop):Prop:=K l.assign∧K l.body∧(∀c,l.pending=some c→K c)∧V l.fn
def XY(K:Code→Prop)(V:FuncId→Prop)(o:Obj):Prop:=(∀a u,o≠Obj.view a u)∧(∀l,o=Obj.loop l→Qdo K V l)∧(∀c,o=Obj.deferred (some c)→c= [])∧∀c e,o≠Obj.pending c e
def Odd(o:Obj):Prop:=(∃a u,o= .view a u)∨(∃l,o= .loop l)∨(∃c,o= .deferred c)∨∃c e,o= .pending c e
structure Ctx where
 n:Nat
 tp:Nat→Question→Nat
 a:Nat
 b:Nat
structure Rel(N:Ctx)(H:Nat→Option Obj)(K:Code→Prop)(V:FuncId→Prop)(W:Nat→Prop)(w w':World):Prop where
 os:w'.os=w.os
 output:w'.output=w.output
 tape: ∀i,w'.drawn+i<N.n→w'.tape (w'.drawn+i)=w.tape (w.drawn+i)
 sync:w.tape=N.tp∧w.drawn+N.a=w'.drawn+N.b
 size:w'.heap.size=w.heap.size
 dead: ∀r:Nat,W r→∃c e,w.heap[r]? =some (Obj.cells c e)∧w'.heap[r]? =some (Obj.cells #[] e)
 live: ∀r:Nat,¬W r→w'.heap[r]? =w.heap[r]?∨∃o u,(Odd o∧H r=some o)∧w.heap[r]? =some o∧w'.heap[r]? =some (Obj.view ⟨r,0,none⟩ u)
 view: ∀(r:Nat) a u,w'.heap[r]? =some (Obj.view a u)→a=⟨r,0,none⟩
 loop: ∀(r:Nat) (l:Loop),w'.heap[r]? =some (Obj.loop l)→Qdo K V l
 defer: ∀(r:Nat) c,w'.heap[r]? =some (Obj.deferred (some c))→c= []
 pend: ∀(r:Nat) c e,w'.heap[r]? ≠some (Obj.pending c e)
 rview: ∀(r:Nat) a u,w.heap[r]? =some (Obj.view a u)→H r=none∨H r=some (Obj.view a u)
def EvOK(W:Nat→Prop)(B:Nat)(e:Event):Prop:=
 match e.loc with
 | .cell a=>¬W a.block∧a.block<B
 | .obj r=>¬W r∧r<B
 | .mark .noRoom| .mark (.extern _)=>True
 |_=>False
theorem EvOK.mono{W:Nat→Prop}{B B':Nat}(h:B≤B'){e:Event}(he:EvOK W B e):EvOK W B' e:=by
 unfold EvOK at he⊢
 split at he<;>first|exact⟨he.1,Nat.lt_of_lt_of_le he.2 h⟩|exact he|trivial
abbrev JU:Halt→Prop
 | .panic _| .stuck _=>True
 | .unsupported (.initOrder _)=>False
 | .unsupported _=>True
 |_=>False
def QcK(w:World):Prop:=∀(r:Nat) c,w.heap[r]? =some (Obj.deferred (some c))→c= []
def Sim(P Q:Program)(K:Code→Prop)(V:FuncId→Prop)(W:Nat→Prop){α:Type}(R:α→Prop)(s:Sem α):Prop:=
 ∀N H w w' es,Rel N H K V W w w'→(∀a w1' es1,s.runT Q w' es=(.ok a w1',es1)→w1'.drawn≤N.n→
  R a∧∃w1,s.runT P w es=(.ok a w1,es1)∧Rel N H K V W w1 w1'∧w'.heap.size≤w1'.heap.size∧((∀e∈es,EvOK W w'.heap.size e)→∀e∈es1,EvOK W w1'.heap.size e))∧
  ∀h w1' es1,s.runT Q w' es=(.halt h w1',es1)→w1'.drawn≤N.n→JU h∧QcK w1'
def Result.drawn{α:Type}:Result α→Nat
 | .ok _ w| .halt _ w=>w.drawn
theorem Qfs{γ:Type}: ∀(x:Ask γ) (w:World),w.drawn≤(w.ask x).2.drawn
 | .done _,_=>Nat.le_refl _
 | .ask a b k,w=>by
   unfold World.ask
   dsimp only
   split
   ·exact Qfs _ _
   ·exact Nat.le_trans (Nat.le_succ _) (Qfs _ { w with drawn:=w.drawn+1})
theorem QvU(w:World)(c:Sys):w.drawn≤(w.sys c).2.drawn:=by
 unfold World.sys
 have:=Qfs (Kernel.perform c w.os) w
 split
 ·exact Nat.le_refl _
 ·rename_i h
  rw[h] at this
  exact this
theorem Qpf{p:Program}{w w1:World}{a:Addr}{v:Value}{b:Bool}{l:List Addr}(h:w.farStore p a v b= .ok (w1,l)):w1.drawn=w.drawn:=by
 unfold World.farStore at h
 split at h
 ·split at h
  ·rename_i r hr
   injection h with h
   subst h
   unfold World.viewStore at hr
   simp only[bind,Except.bind,throwThe,MonadExceptOf.throw,MonadExcept.throw] at hr
   repeat' (split at hr)
   all_goals first
    |(cases hr;done)
    |(injection hr with hr;injection hr with hr;subst hr;rfl)
  ·cases h
 ·cases h
theorem Qkr{α:Type}(p:Program)(s:Sem α): ∀(w:World) (es:Array Event),w.drawn≤Result.drawn (s.runT p w es).1:=by
 induction s with
 |pure a=>intro w es;exact Nat.le_refl _
 |load m a k ih=>
  intro w es
  simp only[Sem.runT]
  split
  ·exact ih _ _ _
  ·split
   ·exact ih _ _ _
   ·exact Nat.le_refl _
 |store m a v k ih=>
  intro w es
  have key:w.drawn≤Result.drawn ((match w.cell? a with
   |some _=>if w.frozen? a then(.halt (.unsupported (.unsafePointer "a write to bytes that a string shares")) w,es) else k.runT p (w.setCell a v) (es.push ⟨.cell a,true,m == .atomic⟩)
   |none=>match w.farStore p a v (m == .atomic) with
    | .ok (w,touched)=>k.runT p w (es++touched.toArray.map (⟨.cell ·,true,m == .atomic⟩))
    | .error h=>(.halt h w,es):Result _×Array Event)).1:=by
   split
   ·split
    ·exact Nat.le_refl _
    ·exact ih (w.setCell a v) _
   ·split
    ·rename_i h
     rw[←Qpf h]
     exact ih _ _
    ·exact Nat.le_refl _
  cases v<;>first|exact key|exact Nat.le_refl _
 |new o k ih=>intro w es;exact ih _ { w with heap:=w.heap.push o} _
 |shape r k ih=>intro w es;exact ih _ _ _
 |freeze a n k ih=>
  intro w es
  have:(w.freeze a n).drawn=w.drawn:=by unfold World.freeze;split<;>rfl
  simp only[Sem.runT]
  rw[←this]
  exact ih _ _
 |frozen a k ih=>intro w es;exact ih _ _ _
 |getObj r k ih=>
  intro w es
  simp only[Sem.runT]
  split
  ·exact Nat.le_refl _
  ·exact ih _ _ _
  ·exact Nat.le_refl _
 |setObj r o k ih=>
  intro w es
  simp only[Sem.runT]
  split
  ·exact Nat.le_refl _
  ·exact ih { w with heap:=w.heap.setIfInBounds r o} _
  ·exact Nat.le_refl _
 |choose q k ih=>
  intro w es
  simp only[Sem.runT]
  split
  ·exact ih _ _ _
  ·exact Nat.le_trans (Nat.le_succ _) (ih _ { w with drawn:=w.drawn+1} _)
 |sys c k ih=>intro w es;exact Nat.le_trans (QvU w c) (ih _ _ _)
 |program k ih=>intro w es;exact ih _ _ _
 |mark m k ih=>intro w es;exact ih _ _
 |halt h=>intro w es;exact Nat.le_refl _
theorem Qkt{α:Type}{p:Program}{s:Sem α}{w w1:World}{es es1:Array Event}{a:α}(h:s.runT p w es=(.ok a w1,es1)):w.drawn≤w1.drawn:=by
 have:=Qkr p s w es
 rw[h] at this
 exact this
theorem Qks{α:Type}{p:Program}{s:Sem α}{w w1:World}{es es1:Array Event}{a:Halt}(h:s.runT p w es=(.halt a w1,es1)):w.drawn≤w1.drawn:=by
 have:=Qkr p s w es
 rw[h] at this
 exact this
section
variable {P Q : Program} {N : Ctx} {H : Nat → Option Obj} {K : Code → Prop} {V : FuncId → Prop} {W : Nat → Prop} {α β : Type} {R : α → Prop} {R' : β → Prop}
theorem XO{a b:Halt}{w w1:World}{es es1:Array Event}(h:((Result.halt a w,es):Result α×Array Event)=(.halt b w1,es1)):a=b∧w=w1∧es=es1:=by
 injection h with h1 h2
 injection h1 with h1 h3
 exact⟨h1,h3,h2⟩
theorem Sim.bind{s:Sem α}{f:α→Sem β}(h:Sim P Q K V W R s)(hf: ∀a,R a→Sim P Q K V W R' (f a)):Sim P Q K V W R' (s>>= f):=by
 intro N H w w' es hr
 constructor
 ·intro b w2' es2 h2 hN
  change(s.bind f).runT Q w' es=_ at h2
  rw[Sem.runT_bind'] at h2
  match h1:s.runT Q w' es,h2 with
  |(.ok a w1',es1),h2=>
   obtain⟨ra,w1,e1,r1,g1,v1⟩:=(h _ _ _ _ _ hr).1 _ _ _ h1 (Nat.le_trans (Qkt h2) hN)
   obtain⟨rb,w2,e2,r2,g2,v2⟩:=(hf a ra _ _ _ _ _ r1).1 _ _ _ h2 hN
   refine⟨rb,w2,?_,r2,Nat.le_trans g1 g2,fun h=>v2 (v1 h)⟩
   change(s.bind f).runT P w es=_
   rw[Sem.runT_bind',e1]
   exact e2
  |(.halt _ _,_),h2=>cases h2
 ·intro e w2' es2 h2 hN
  change(s.bind f).runT Q w' es=_ at h2
  rw[Sem.runT_bind'] at h2
  match h1:s.runT Q w' es,h2 with
  |(.ok a w1',es1),h2=>
   obtain⟨ra,w1,e1,r1,g1,v1⟩:=(h _ _ _ _ _ hr).1 _ _ _ h1 (Nat.le_trans (Qks h2) hN)
   exact(hf a ra _ _ _ _ _ r1).2 _ _ _ h2 hN
  |(.halt _ _,_),h2=>
   obtain⟨rfl,rfl,rfl⟩:=XO h2
   exact(h _ _ _ _ _ hr).2 _ _ _ h1 hN
theorem Sim.mono{R₁:α→Prop}{s:Sem α}(h:Sim P Q K V W R s)(hr: ∀a,R a→R₁ a):Sim P Q K V W R₁ s:=
 fun N H w w' es r=>⟨fun a w1 es1 e hN=>let⟨x,y⟩:=(h N H w w' es r).1 a w1 es1 e hN;⟨hr _ x,y⟩,(h N H w w' es r).2⟩
theorem Sim.pure{a:α}(h:R a):Sim P Q K V W R (Pure.pure a:Sem α):=by
 intro N H w w' es hr
 refine⟨fun b w1 es1 h1 _=>?_,fun e w1 es1 h1=>by cases h1⟩
 injection h1 with h1 h2
 injection h1 with h1 h3
 subst h1 h2 h3
 exact⟨h,w,rfl,hr,Nat.le_refl _,fun x=>x⟩
theorem Sim.halt{h:Halt}(hh:JU h):Sim P Q K V W R (.halt h:Sem α):=by
 intro N H w w' es hr
 refine⟨fun b w1 es1 h1=>(by cases h1),fun e w1 es1 h1 _=>?_⟩
 obtain⟨rfl,rfl,rfl⟩:=XO h1
 exact⟨hh,hr.defer⟩
theorem Sim.stuck{why:String}:Sim P Q K V W R (Go.stuck why:Sem α):=Sim.halt trivial
theorem Sim.goPanic{v:Value}:Sim P Q K V W R (Go.goPanic v:Sem α):=Sim.halt trivial
theorem Sim.never{s:Sem α}(h:Sim P Q K V W (fun _=>False) s):Sim P Q K V W R s:=h.mono fun _ x=>x.elim
theorem Sim.never_bind{s:Sem α}{f:α→Sem β}(h:Sim P Q K V W (fun _=>False) s):Sim P Q K V W R' (s>>= f):=Sim.bind h fun _ x=>x.elim
theorem Xu{a b:α}{w w1:World}{es es1:Array Event}(h:((Result.ok a w,es):Result α×Array Event)=(.ok b w1,es1)):a=b∧w=w1∧es=es1:=by
 injection h with h1 h2
 injection h1 with h1 h3
 exact⟨h1,h3,h2⟩
theorem Rel.not_dead{w w':World}(h:Rel N H K V W w w'){a:Addr}{v:Value}(hc:w'.cell? a=some v): ¬W a.block:=by
 intro hW
 obtain⟨c,e,_,h'⟩:=h.dead _ hW
 simp[World.cell?,h'] at hc
theorem Rel.cells{w w':World}(h:Rel N H K V W w w'){r:Nat}(hW: ¬W r){c:Array Value}{e:TypeId}{z:Nat×Nat}(hc:w'.heap[r]? =some (.cells c e z)):w.heap[r]? =some (.cells c e z):=by
 rcases h.live r hW with h1|⟨o,u,_,h1,h2⟩
 ·rw[←h1];exact hc
 ·rw[h2] at hc;cases hc
theorem Qfz{w:World}{a:Addr}{v:Value}(h:w.cell? a=some v): ∃c e z,w.heap[a.block]? =some (.cells c e z):=by
 unfold World.cell? at h
 split at h
 ·exact⟨_,_,_,‹_›⟩
 ·cases h
theorem Rel.cell{w w':World}(h:Rel N H K V W w w'){a:Addr}{v:Value}(hc:w'.cell? a=some v):w.cell? a=some v:=by
 have hW:=h.not_dead hc
 obtain⟨c,e,z,h1⟩:=Qfz hc
 have h2:=h.cells hW h1
 unfold World.cell? at hc⊢
 rw[h1] at hc
 rw[h2]
 exact hc
theorem Rel.frozen{w w':World}(h:Rel N H K V W w w')(a:Addr):w'.frozen? a=w.frozen? a:=by
 by_cases hW:W a.block
 ·obtain⟨c,e,h1,h2⟩:=h.dead _ hW
  simp[World.frozen?,h1,h2]
 ·rcases h.live _ hW with h1|⟨b,u,hb,h1,h2⟩
  ·simp[World.frozen?,h1]
  ·rcases hb.1 with⟨_,_,rfl⟩|⟨_,rfl⟩|⟨_,rfl⟩|⟨_,_,rfl⟩<;>simp[World.frozen?,h1,h2]
theorem Rel.lt{w w':World}(h:Rel N H K V W w w'){r:Nat}(hW:W r):r<w.heap.size:=by
 obtain⟨c,e,h1,_⟩:=h.dead _ hW
 exact(Array.getElem?_eq_some_iff.1 h1).1
theorem Rel.drew{w w':World}(h:Rel N H K V W w w'):Rel N H K V W { w with drawn:=w.drawn+1} { w' with drawn:=w'.drawn+1}:=
 ⟨h.os,h.output,fun i hi=>by have:=h.tape (1+i) (by simp only at hi;omega);simpa [Nat.add_assoc] using this,⟨h.sync.1,by have:=h.sync.2;simp only;omega⟩,h.size,h.dead,h.live,h.view,h.loop,h.defer,h.pend,h.rview⟩
theorem Rel.push{w w':World}(h:Rel N H K V W w w')(o:Obj)(ho:XY K V o):Rel N H K V W { w with heap:=w.heap.push o} { w' with heap:=w'.heap.push o}:=by
 have hs:=h.size
 refine⟨h.os,h.output,h.tape,h.sync,by simp[hs],fun r hr=>?_,fun r hr=>?_,fun r a u hv=>?_,fun r l hv=>?_,fun r l hv=>?_,fun r c e hv=>?_,fun r a u hv=>?_⟩
 ·have hlt:=h.lt hr
  obtain⟨c,e,h1,h2⟩:=h.dead r hr
  exact⟨c,e,by show(w.heap.push o)[r]? =_;rw[Array.getElem?_push,if_neg (by omega)];exact h1,by show(w'.heap.push o)[r]? =_;rw[Array.getElem?_push,if_neg (by omega)];exact h2⟩
 ·show(w'.heap.push o)[r]? =(w.heap.push o)[r]?∨∃z u,(Odd z∧H r=some z)∧(w.heap.push o)[r]? =some z∧(w'.heap.push o)[r]? =some (Obj.view ⟨r,0,none⟩ u)
  rw[Array.getElem?_push,Array.getElem?_push,hs]
  by_cases e:r=w.heap.size
  ·simp[e]
  ·rw[if_neg e,if_neg e];exact h.live r hr
 ·change(w'.heap.push o)[r]? =_ at hv
  rw[Array.getElem?_push] at hv
  split at hv
  ·injection hv with hv;exact absurd hv (ho.1 a u)
  ·exact h.view r a u hv
 ·change(w'.heap.push o)[r]? =_ at hv
  rw[Array.getElem?_push] at hv
  split at hv
  ·injection hv with hv;exact ho.2.1 l hv
  ·exact h.loop r l hv
 ·change(w'.heap.push o)[r]? =_ at hv
  rw[Array.getElem?_push] at hv
  split at hv
  ·injection hv with hv;exact ho.2.2.1 l hv
  ·exact h.defer r l hv
 ·change(w'.heap.push o)[r]? =_ at hv
  rw[Array.getElem?_push] at hv
  split at hv
  ·injection hv with hv;exact ho.2.2.2 c e hv
  ·exact h.pend r c e hv
 ·change(w.heap.push o)[r]? =_ at hv
  rw[Array.getElem?_push] at hv
  split at hv
  ·injection hv with hv;exact absurd hv (ho.1 a u)
  ·exact h.rview r a u hv
theorem Rel.setObj{w w':World}(h:Rel N H K V W w w')(r:Nat)(hr: ¬W r)(o:Obj)(ho:XY K V o):Rel N H K V W { w with heap:=w.heap.setIfInBounds r o} { w' with heap:=w'.heap.setIfInBounds r o}:=by
 have hs:=h.size
 refine⟨h.os,h.output,h.tape,h.sync,by simp[hs],fun q hq=>?_,fun q hq=>?_,fun q a u hv=>?_,fun q l hv=>?_,fun q l hv=>?_,fun q c e hv=>?_,fun q a u hv=>?_⟩
 ·have hne:r≠q:=fun e=>hr (e ▸ hq)
  obtain⟨c,e,h1,h2⟩:=h.dead q hq
  exact⟨c,e,by show(w.heap.setIfInBounds r o)[q]? =_;rw[Array.getElem?_setIfInBounds_ne hne];exact h1,by show(w'.heap.setIfInBounds r o)[q]? =_;rw[Array.getElem?_setIfInBounds_ne hne];exact h2⟩
 ·show(w'.heap.setIfInBounds r o)[q]? =(w.heap.setIfInBounds r o)[q]?∨∃z u,(Odd z∧H q=some z)∧(w.heap.setIfInBounds r o)[q]? =some z∧(w'.heap.setIfInBounds r o)[q]? =some (Obj.view ⟨q,0,none⟩ u)
  by_cases e:r=q
  ·subst e;simp[Array.getElem?_setIfInBounds,hs]
  ·rw[Array.getElem?_setIfInBounds_ne e,Array.getElem?_setIfInBounds_ne e];exact h.live q hq
 ·change(w'.heap.setIfInBounds r o)[q]? =_ at hv
  rw[Array.getElem?_setIfInBounds] at hv
  split at hv
  ·split at hv
   ·injection hv with hv;exact absurd hv (ho.1 a u)
   ·cases hv
  ·exact h.view q a u hv
 ·change(w'.heap.setIfInBounds r o)[q]? =_ at hv
  rw[Array.getElem?_setIfInBounds] at hv
  split at hv
  ·split at hv
   ·injection hv with hv;exact ho.2.1 l hv
   ·cases hv
  ·exact h.loop q l hv
 ·change(w'.heap.setIfInBounds r o)[q]? =_ at hv
  rw[Array.getElem?_setIfInBounds] at hv
  split at hv
  ·split at hv
   ·injection hv with hv;exact ho.2.2.1 l hv
   ·cases hv
  ·exact h.defer q l hv
 ·change(w'.heap.setIfInBounds r o)[q]? =_ at hv
  rw[Array.getElem?_setIfInBounds] at hv
  split at hv
  ·split at hv
   ·injection hv with hv;exact ho.2.2.2 c e hv
   ·cases hv
  ·exact h.pend q c e hv
 ·change(w.heap.setIfInBounds r o)[q]? =_ at hv
  rw[Array.getElem?_setIfInBounds] at hv
  split at hv
  ·split at hv
   ·injection hv with hv;exact absurd hv (ho.1 a u)
   ·cases hv
  ·exact h.rview q a u hv
theorem Qg0{w:World}{a:Addr}{c:Array Value}{e:TypeId}{z:Nat×Nat}(h:w.heap[a.block]? =some (.cells c e z))(v:Value):
 w.setCell a v={ w with heap:=w.heap.setIfInBounds a.block (.cells (if a.spot.isSome then c else c.setIfInBounds a.off v) e z)}:=by
 obtain⟨hlt,hx⟩:=Array.getElem?_eq_some_iff.1 h
 unfold World.setCell
 congr 1
 apply Array.ext
 ·simp
 ·intro i h1 h2
  by_cases e:a.block=i
  ·subst e;simp[Array.getElem_modify,hx]
  ·rw[Array.getElem_modify,if_neg e]
   exact(Array.getElem_setIfInBounds_ne (by simpa using h1) e).symm
theorem Rel.setCell{w w':World}(h:Rel N H K V W w w'){a:Addr}{v0:Value}(hc:w'.cell? a=some v0)(v:Value):Rel N H K V W (w.setCell a v) (w'.setCell a v):=by
 have hW:=h.not_dead hc
 obtain⟨c,e,z,h1⟩:=Qfz hc
 rw[Qg0 h1,Qg0 (h.cells hW h1)]
 exact h.setObj a.block hW _ ⟨fun _ _ x=>(by cases x),fun _ x=>(by cases x),fun _ x=>(by cases x),fun _ _ x=>(by cases x)⟩
theorem Qlg(w:World)(a:Addr)(v:Value):(w.setCell a v).heap.size=w.heap.size:=by simp[World.setCell]
theorem Qa0{B B':Nat}(hB:B≤B'){es:Array Event}{e:Event}(he:EvOK W B' e)(h: ∀x∈es,EvOK W B x): ∀x∈es.push e,EvOK W B' x:=by
 intro x hx
 rcases Array.mem_push.1 hx with hx|hx
 ·exact(h x hx).mono hB
 ·subst hx;exact he
theorem QhF{w:World}{a:Addr}{v:Value}(h:w.cell? a=some v):a.block<w.heap.size:=by
 obtain⟨c,e,z,h1⟩:=Qfz h
 exact(Array.getElem?_eq_some_iff.1 h1).1
theorem Qk8(p:Program){w:World}{at_:Addr}{u:TypeId}{k:Addr}{b:Bool}(h: ∀c e z,w.heap[at_.block]? ≠some (Obj.cells c e z)): ∀y,w.seen p at_ u k b≠ .ok y:=by
 intro y hy
 unfold World.seen at hy
 simp only[bind,Except.bind,throwThe,MonadExceptOf.throw,MonadExcept.throw] at hy
 repeat' (split at hy)
 all_goals first
  |cases hy;done
  |exact absurd ‹_› (h _ _ _)
  |(rename_i h1;repeat' (split at h1);all_goals first|cases h1;done|skip)
 all_goals trace_state
theorem QjP{w w':World}(h:Rel N H K V W w w')(a:Addr)(s:String):JU (w'.noCell a s):=by
 unfold World.noCell
 split
 ·exact absurd ‹_› (h.pend _ _ _)
 ·trivial
 ·trivial
theorem Qpg(p:Program){w w':World}(h:Rel N H K V W w w'){a:Addr}{b:Bool}: ∀x,w'.farLoad p a b= .error x→JU x:=by
 intro x hx
 unfold World.farLoad at hx
 split at hx
 ·split at hx
  ·cases hx
  ·injection hx with hx;subst hx;trivial
 ·injection hx with hx;subst hx;exact QjP h _ _
theorem Qph(p:Program){w w':World}(h:Rel N H K V W w w'){a:Addr}{v:Value}{b:Bool}: ∀x,w'.farStore p a v b= .error x→JU x:=by
 intro x hx
 unfold World.farStore at hx
 split at hx
 ·split at hx
  ·cases hx
  ·injection hx with hx;subst hx;trivial
 ·injection hx with hx;subst hx;exact QjP h _ _
theorem QfT(p:Program){w w':World}(h:Rel N H K V W w w'){a:Addr}{b:Bool}: ∀x,w'.farLoad p a b≠ .ok x:=by
 intro x hx
 unfold World.farLoad at hx
 split at hx
 ·rename_i at_ u hv
  have:=h.view _ _ _ hv
  subst this
  have hno:=Qk8 p (w:=w') (at_:=⟨a.block,0,none⟩) (u:=u) (k:=a) (b:=b) (fun c e z h1=>by rw[hv] at h1;cases h1)
  have hl: ∀y,w'.viewLoad p ⟨a.block,0,none⟩ u a b≠ .ok y:=by
   intro y hy
   unfold World.viewLoad at hy
   simp only[bind,Except.bind] at hy
   split at hy
   ·cases hy
   ·exact hno _ ‹_›
  split at hx
  ·exact hl _ ‹_›
  ·cases hx
 ·cases hx
end
end Go.Proofs.YtgaimkihacljdaaGreat
/- The simulation of the primitives and of the type tables. (Round C) -/
namespace Go.Proofs.YtgaimkihacljdaaGreat
section
variable {P Q : Program} {N : Ctx} {H : Nat → Option Obj} {K : Code → Prop} {V : FuncId → Prop} {W : Nat → Prop} {α β : Type} {R : α → Prop} {R' : β → Prop}
theorem Qvl(a:Addr)(m:Mode):Sim P Q K V W (fun _=>True) (load a m):=by
 intro N H w w' es hr
 constructor
 rotate_left
 ·intro e w1 es1 h hN
  simp only[load,Sem.runT] at h
  cases hc:w'.cell? a with
  |some x=>rw[hc] at h;cases h
  |none=>
   rw[hc] at h
   cases hf:w'.farLoad Q a (m == .atomic) with
   |ok x=>exact absurd hf (QfT Q hr x)
   |error x=>
    simp only[hf] at h
    obtain⟨rfl,rfl,rfl⟩:=XO h
    exact⟨Qpg Q hr _ hf,hr.defer⟩
 intro v w1 es1 h hN
 simp only[load,Sem.runT] at h
 cases hc:w'.cell? a with
 |some x=>
  rw[hc] at h
  obtain⟨rfl,rfl,rfl⟩:=Xu h
  refine⟨trivial,w,?_,hr,Nat.le_refl _,fun hes=>Qa0 (Nat.le_refl _) ⟨hr.not_dead hc,QhF hc⟩ hes⟩
  simp only[load,Sem.runT,hr.cell hc]
 |none=>
  rw[hc] at h
  cases hf:w'.farLoad Q a (m == .atomic) with
  |ok x=>exact absurd hf (QfT Q hr x)
  |error x=>simp only[hf] at h;cases h
theorem Qid(p:Program){w w':World}(h:Rel N H K V W w w'){a:Addr}{v:Value}{b:Bool}: ∀x,w'.farStore p a v b≠ .ok x:=by
 intro x hx
 unfold World.farStore at hx
 split at hx
 ·rename_i at_ u hv
  have:=h.view _ _ _ hv
  subst this
  have hno:=Qk8 p (w:=w') (at_:=⟨a.block,0,none⟩) (u:=u) (k:=a) (b:=b) (fun c e z h1=>by rw[hv] at h1;cases h1)
  have hl: ∀y,w'.viewStore p ⟨a.block,0,none⟩ u a v b≠ .ok y:=by
   intro y hy
   unfold World.viewStore at hy
   simp only[bind,Except.bind,throwThe,MonadExceptOf.throw,MonadExcept.throw] at hy
   repeat' (split at hy)
   all_goals first
    |cases hy;done
    |exact absurd ‹_› (hno _)
    |(rename_i h1;repeat' (split at h1);all_goals first|cases h1;done|exact absurd ‹_› (hno _))
    |skip
  split at hx
  ·exact hl _ ‹_›
  ·cases hx
 ·cases hx
theorem Qvn(a:Addr)(v:Value)(m:Mode):Sim P Q K V W (fun _=>True) (store a v m):=by
 intro N H w w' es hr
 by_cases hag:(∃vs,v= .agg vs)∨∃vs,v= .tuple vs
 ·rcases hag with⟨vs,rfl⟩|⟨vs,rfl⟩<;>exact⟨fun x w1 es1 h=>(by cases h),fun e w1 es1 h _=>(by obtain⟨rfl,rfl,rfl⟩:=XO h;exact⟨trivial,hr.defer⟩)⟩
 have key: ∀(p:Program) (z:World),(store a v m).runT p z es=match z.cell? a with
  |some _=>if z.frozen? a then(.halt (.unsupported (.unsafePointer "a write to bytes that a string shares")) z,es) else(.ok () (z.setCell a v),es.push ⟨.cell a,true,m == .atomic⟩)
  |none=>match z.farStore p a v (m == .atomic) with
   | .ok (z1,touched)=>(.ok () z1,es++touched.toArray.map (⟨.cell ·,true,m == .atomic⟩))
   | .error h=>(.halt h z,es):=by
  intro p z
  cases v<;>first
   |exact absurd (.inl ⟨_,rfl⟩) hag
   |exact absurd (.inr ⟨_,rfl⟩) hag
   |rfl
 constructor
 rotate_left
 ·intro e w1 es1 h hN
  rw[key] at h
  cases hc:w'.cell? a with
  |some y=>
   rw[hc] at h
   dsimp only at h
   split at h
   ·obtain⟨rfl,rfl,rfl⟩:=XO h
    exact⟨trivial,hr.defer⟩
   ·cases h
  |none=>
   rw[hc] at h
   dsimp only at h
   cases hf:w'.farStore Q a v (m == .atomic) with
   |ok x=>exact absurd hf (Qid Q hr x)
   |error x=>
    rw[hf] at h
    obtain⟨rfl,rfl,rfl⟩:=XO h
    exact⟨Qph Q hr _ hf,hr.defer⟩
 intro x w1 es1 h hN
 rw[key] at h⊢
 cases hc:w'.cell? a with
 |some y=>
  rw[hc] at h
  rw[hr.cell hc,←hr.frozen]
  dsimp only at h⊢
  split at h
  ·cases h
  ·obtain⟨rfl,rfl,rfl⟩:=Xu h
   rw[if_neg ‹_›]
   refine⟨trivial,_,rfl,hr.setCell hc v,by rw[Qlg];exact Nat.le_refl _,fun hes=>?_⟩
   rw[Qlg]
   exact Qa0 (Nat.le_refl _) ⟨hr.not_dead hc,QhF hc⟩ hes
 |none=>
  rw[hc] at h
  dsimp only at h
  cases hf:w'.farStore Q a v (m == .atomic) with
  |ok x=>exact absurd hf (Qid Q hr x)
  |error x=>rw[hf] at h;cases h
theorem Qg1(o:Obj)(ho:XY K V o):Sim P Q K V W (fun _=>True) (newObj o):=by
 intro N H w w' es hr
 refine⟨fun v w1 es1 h hN=>?_,fun e w1 es1 h=>by cases h⟩
 obtain⟨rfl,rfl,rfl⟩:=Xu (show(Result.ok w'.heap.size { w' with heap:=w'.heap.push o},es)=_ from h)
 refine⟨trivial,{ w with heap:=w.heap.push o},?_,hr.push o ho,by simp,fun hes e he=>(hes e he).mono (by simp)⟩
 rw[hr.size];rfl
theorem Qvj(q:Question):Sim P Q K V W (fun _=>True) (choose q):=by
 intro N H w w' es hr
 refine⟨fun v w1 es1 h hN=>?_,fun e w1 es1 h=>(by simp only[choose,Sem.runT] at h;split at h<;>cases h)⟩
 simp only[choose,Sem.runT] at h⊢
 by_cases hq:q.forced=true
 ·rw[if_pos hq] at h⊢
  obtain⟨rfl,rfl,rfl⟩:=Xu h
  exact⟨trivial,w,rfl,hr,Nat.le_refl _,fun hes=>hes⟩
 ·rw[if_neg hq] at h⊢
  obtain⟨rfl,rfl,rfl⟩:=Xu h
  have ht:w'.tape w'.drawn=w.tape w.drawn:=hr.tape 0 hN
  exact⟨trivial,{ w with drawn:=w.drawn+1},by rw[ht],hr.drew,Nat.le_refl _,fun hes=>hes⟩
theorem Qvk(a:Addr):Sim P Q K V W (fun _=>True) (frozen a):=by
 intro N H w w' es hr
 refine⟨fun v w1 es1 h hN=>?_,fun e w1 es1 h=>by cases h⟩
 obtain⟨rfl,rfl,rfl⟩:=Xu (show(Result.ok (w'.frozen? a) w',es)=_ from h)
 exact⟨trivial,w,by rw[hr.frozen];rfl,hr,Nat.le_refl _,fun hes=>hes⟩
theorem Qlf:Sim P Q K V W (fun _=>True) (mark .noRoom):=by
 intro N H w w' es hr
 refine⟨fun v w1 es1 h hN=>?_,fun e w1 es1 h=>by cases h⟩
 obtain⟨rfl,rfl,rfl⟩:=Xu (show(Result.ok () w',es.push ⟨.mark .noRoom,false,true⟩)=_ from h)
 exact⟨trivial,w,rfl,hr,Nat.le_refl _,fun hes=>Qa0 (Nat.le_refl _) trivial hes⟩
theorem QdY(r:Nat)(o:Obj)(ho:XY K V o):Sim P Q K V W (fun _=>True) (setObj r o):=by
 intro N H w w' es hr
 constructor
 rotate_left
 ·intro e w1 es1 h hN
  simp only[setObj,Sem.runT] at h
  split at h<;>first
   |(obtain⟨rfl,rfl,rfl⟩:=XO h;exact⟨trivial,hr.defer⟩)
   |cases h
 intro x w1 es1 h hN
 simp only[setObj,Sem.runT] at h⊢
 by_cases hW:W r
 ·obtain⟨c,e,h1,h2⟩:=hr.dead r hW
  rw[h2] at h
  cases h
 cases hc:w'.heap[r]? with
 |none=>rw[hc] at h;cases h
 |some y=>
  have hlt:r<w'.heap.size:=(Array.getElem?_eq_some_iff.1 hc).1
  have hy: ∃z,w.heap[r]? =some z∧((∀c e f,y≠ .cells c e f)→∀c e f,z≠Obj.cells c e f):=by
   rcases hr.live r hW with h1|⟨b,u,hb,h1,h2⟩
   ·exact⟨y,by rw[←h1];exact hc,fun x=>x⟩
   ·exact⟨_,h1,fun _ _ _ _ x=>by subst x;rcases hb.1 with⟨_,_,h⟩|⟨_,h⟩|⟨_,h⟩|⟨_,_,h⟩<;>cases h⟩
  obtain⟨z,hz,hcz⟩:=hy
  rw[hc] at h
  have hnc: ∀c e f,y≠ .cells c e f:=by
   rintro c e f rfl
   cases h
  have e1:(match(some y:Option Obj) with
   |some (.cells ..)=>((.halt (.stuck "setObj: a row of cells") w',es):Result Unit×Array Event)
   |some _=>(.ok () { w' with heap:=w'.heap.setIfInBounds r o},es.push ⟨.obj r,true,o.isChan⟩)
   |none=>(.halt (.stuck "setObj: no such block") w',es))=(.ok () { w' with heap:=w'.heap.setIfInBounds r o},es.push ⟨.obj r,true,o.isChan⟩):=by
   cases y<;>first|rfl|exact absurd rfl (hnc _ _ _)
  have e2:(match(some z:Option Obj) with
   |some (.cells ..)=>((.halt (.stuck "setObj: a row of cells") w,es):Result Unit×Array Event)
   |some _=>(.ok () { w with heap:=w.heap.setIfInBounds r o},es.push ⟨.obj r,true,o.isChan⟩)
   |none=>(.halt (.stuck "setObj: no such block") w,es))=(.ok () { w with heap:=w.heap.setIfInBounds r o},es.push ⟨.obj r,true,o.isChan⟩):=by
   have:=hcz hnc
   cases z<;>first|rfl|exact absurd rfl (this _ _ _)
  have h:=e1.symm.trans h
  obtain⟨rfl,rfl,rfl⟩:=Xu h
  rw[hz]
  refine⟨trivial,_,e2,hr.setObj r hW o ho,by simp,fun hes=>?_⟩
  simp only[Array.size_setIfInBounds]
  exact Qa0 (Nat.le_refl _) ⟨hW,hlt⟩ hes
theorem QbL(r:Nat){f:Obj→Sem β}(hf: ∀o,XY K V o→Sim P Q K V W R' (f o))(hv: ∀a u,Sim P Q K V W (fun _=>False) (f (.view a u))):Sim P Q K V W R' (getObj r>>= f):=by
 intro N H w w' es hr
 constructor
 rotate_left
 ·intro x w1 es1 h hN
  change(Sem.bind (.getObj r .pure) f).runT Q w' es=_ at h
  simp only[Sem.bind,Sem.runT] at h
  by_cases hW:W r
  ·obtain⟨c,e,h1,h2⟩:=hr.dead r hW
   rw[h2] at h
   obtain⟨rfl,rfl,rfl⟩:=XO h
   exact⟨trivial,hr.defer⟩
  cases hc:w'.heap[r]? with
  |none=>
   rw[hc] at h
   obtain⟨rfl,rfl,rfl⟩:=XO h
   exact⟨trivial,hr.defer⟩
  |some y=>
   rw[hc] at h
   by_cases hcell: ∃c e f,y= .cells c e f
   ·obtain⟨c,e,z,rfl⟩:=hcell
    obtain⟨rfl,rfl,rfl⟩:=XO h
    exact⟨trivial,hr.defer⟩
   ·have h':(f y).runT Q w' (es.push ⟨.obj r,false,y.isChan⟩)=(.halt x w1,es1):=by
     cases y<;>first|exact h|exact absurd ⟨_,_,_,rfl⟩ hcell
    by_cases hview: ∃a u,y= .view a u
    ·obtain⟨a,u,rfl⟩:=hview
     exact(hv a u N H w w' _ hr).2 _ _ _ h' hN
    ·exact(hf y ⟨fun a u e=>hview ⟨a,u,e⟩,fun l e=>hr.loop r l (by rw[hc,e]),fun c e=>hr.defer r c (by rw[hc,e]),fun c e e'=>hr.pend r c e (by rw[hc,e'])⟩ N H w w' _ hr).2 _ _ _ h' hN
 intro x w1 es1 h hN
 change(Sem.bind (.getObj r .pure) f).runT Q w' es=_ at h
 show _∧∃w1,(Sem.bind (.getObj r .pure) f).runT P w es=_∧_
 simp only[Sem.bind,Sem.runT] at h⊢
 by_cases hW:W r
 ·obtain⟨c,e,h1,h2⟩:=hr.dead r hW
  rw[h2] at h
  cases h
 cases hc:w'.heap[r]? with
 |none=>rw[hc] at h;cases h
 |some y=>
  have hlt:r<w'.heap.size:=(Array.getElem?_eq_some_iff.1 hc).1
  rw[hc] at h
  have hnc: ∀c e f,y≠ .cells c e f:=by
   rintro c e f rfl
   cases h
  have h':(f y).runT Q w' (es.push ⟨.obj r,false,y.isChan⟩)=(.ok x w1,es1):=by
   cases y<;>first|exact h|exact absurd rfl (hnc _ _ _)
  rcases hr.live r hW with h1|⟨b,u,_,h1,h2⟩
  ·have hy:XY K V y∨∃a u,y= .view a u:=by
    by_cases hview: ∃a u,y= .view a u
    ·exact .inr hview
    ·refine .inl ⟨fun a u e=>hview ⟨a,u,e⟩,fun l e=>hr.loop r l (by rw[hc,e]),fun c e=>hr.defer r c (by rw[hc,e]),fun c e e'=>hr.pend r c e (by rw[hc,e'])⟩
   rcases hy with hy|⟨a,u,rfl⟩
   ·obtain⟨ra,w2,e1,r1,g1,v1⟩:=(hf y hy N H w w' _ hr).1 x w1 es1 h' hN
    refine⟨ra,w2,?_,r1,g1,fun hes=>v1 (Qa0 (Nat.le_refl _) ⟨hW,hlt⟩ hes)⟩
    rw[←h1,hc]
    cases y<;>first|exact e1|exact absurd rfl (hnc _ _ _)
   ·exact((hv _ _ N H w w' _ hr).1 _ _ _ h' hN).1.elim
  ·rw[hc] at h2
   obtain rfl:=Option.some.inj h2
   exact((hv _ _ N H w w' _ hr).1 _ _ _ h' hN).1.elim
theorem QjR(p:Program)(z:World)(a:Addr)(es:Array Event):(noView a).runT p z es=match z.heap[a.block]? with
 |some (.cells ..)=>(.ok () z,es)
 |some (.view ..)=>(.halt (.unsupported (.unsafePointer "memory seen as another type")) z,es.push ⟨.obj a.block,false,false⟩)
 |some o=>(.ok () z,es.push ⟨.obj a.block,false,o.isChan⟩)
 |none=>(.halt (.stuck "getObj: no such block") z,es):=by
 have e0:(noView a).runT p z es=((Sem.bind (Sem.bind (.shape a.block .pure) fun s=>if s.isSome then Sem.pure none else Sem.bind (.getObj a.block .pure) fun o=>match o with| .view a t=>Sem.pure (some (a,t))|_=>Sem.pure none) fun v=>if v.isSome then .halt (.unsupported (.unsafePointer "memory seen as another type")) else Sem.pure ())).runT p z es:=rfl
 rw[e0]
 simp only[Sem.bind,Sem.runT]
 cases hc:z.heap[a.block]? with
 |none=>simp only[World.shape?,hc,Option.isSome,Bool.false_eq_true,if_false,Sem.bind,Sem.runT]
 |some y=>cases y<;>simp only[World.shape?,hc,Option.isSome,Bool.false_eq_true,if_false,if_true,Sem.bind,Sem.runT]<;>rfl
theorem Qvm(a:Addr):Sim P Q K V W (fun _=>True) (noView a):=by
 intro N H w w' es hr
 constructor
 rotate_left
 ·intro e w1 es1 h hN
  rw[QjR] at h
  split at h<;>first
   |(obtain⟨rfl,rfl,rfl⟩:=XO h;exact⟨trivial,hr.defer⟩)
   |cases h
 intro x w1 es1 h hN
 rw[QjR] at h⊢
 by_cases hW:W a.block
 ·obtain⟨c,e,h1,h2⟩:=hr.dead _ hW
  rw[h2] at h
  rw[h1]
  obtain⟨rfl,rfl,rfl⟩:=Xu h
  exact⟨trivial,w,rfl,hr,Nat.le_refl _,fun hes=>hes⟩
 rcases hr.live _ hW with h1|⟨b,u,_,h1,h2⟩
 ·rw[←h1]
  cases hc:w'.heap[a.block]? with
  |none=>rw[hc] at h;cases h
  |some y=>
   have hlt:a.block<w'.heap.size:=(Array.getElem?_eq_some_iff.1 hc).1
   rw[hc] at h
   cases y<;>first
    |(cases h;done)
    |(obtain⟨rfl,rfl,rfl⟩:=Xu h
      first
      |exact⟨trivial,_,rfl,hr,Nat.le_refl _,fun hes=>hes⟩
      |exact⟨trivial,_,rfl,hr,Nat.le_refl _,fun hes=>Qa0 (Nat.le_refl _) ⟨hW,hlt⟩ hes⟩)
 ·rw[h2] at h;cases h
theorem Qe6(r:Nat){f:Option (TypeId×Nat)→Sem β}(hn:Sim P Q K V W R' (f none))(hs: ∀e n,Sim P Q K V W R' (f (some (e,n))))(hf: ∀e n,(∀z es,(f (some (e,n))).runT P z es=(f (some (e,0))).runT P z es)∨Sim P Q K V W (fun _=>False) (f (some (e,0)))):Sim P Q K V W R' (shape r>>= f):=by
 intro N H w w' es hr
 constructor
 rotate_left
 ·intro x w1 es1 h hN
  change(f (w'.shape? r)).runT Q w' es=_ at h
  cases hsh:w'.shape? r with
  |none=>rw[hsh] at h;exact(hn N H w w' es hr).2 _ _ _ h hN
  |some y=>rw[hsh] at h;exact(hs y.1 y.2 N H w w' es hr).2 _ _ _ h hN
 intro x w1 es1 h hN
 change(f (w'.shape? r)).runT Q w' es=_ at h
 show _∧∃w1,(f (w.shape? r)).runT P w es=_∧_
 by_cases hW:W r
 ·obtain⟨c,e,h1,h2⟩:=hr.dead _ hW
  have e1:w'.shape? r=some (e,0):=by simp[World.shape?,h2]
  have e2:w.shape? r=some (e,c.size):=by simp[World.shape?,h1]
  rw[e1] at h
  rw[e2]
  rcases hf e c.size with h3|h3
  ·rw[h3]
   exact(hs e 0 N H w w' es hr).1 x w1 es1 h hN
  ·exact((h3 N H w w' es hr).1 _ _ _ h hN).1.elim
 ·have e1:w'.shape? r=w.shape? r:=by
   rcases hr.live _ hW with h1|⟨b,u,hb,h1,h2⟩
   ·simp only[World.shape?,h1]
   ·rcases hb.1 with⟨_,_,rfl⟩|⟨_,rfl⟩|⟨_,rfl⟩|⟨_,_,rfl⟩<;>simp[World.shape?,h1,h2]
  rw[e1] at h
  cases hsh:w.shape? r with
  |none=>rw[hsh] at h;exact(hn N H w w' es hr).1 x w1 es1 h hN
  |some y=>rw[hsh] at h;exact(hs y.1 y.2 N H w w' es hr).1 x w1 es1 h hN
theorem Sim.program{f:Program→Sem β}(hfg:f Q=f P)(h:Sim P Q K V W R' (f P)):Sim P Q K V W R' (program>>= f):=by
 intro N H w w' es hr
 refine⟨fun x w1 es1 h1 hN=>?_,fun x w1 es1 h1 hN=>?_⟩
 ·change(f Q).runT Q w' es=_ at h1
  rw[hfg] at h1
  exact(h N H w w' es hr).1 x w1 es1 h1 hN
 ·change(f Q).runT Q w' es=_ at h1
  rw[hfg] at h1
  exact(h N H w w' es hr).2 x w1 es1 h1 hN
theorem Sim.map{s:Sem α}{f:α→β}(h:Sim P Q K V W (fun _=>True) s):Sim P Q K V W (fun _=>True) (f<$>s):=
 Sim.bind (f:=fun a=>Pure.pure (f a)) h fun _ _=>Sim.pure trivial
theorem Sim.ite{c:Prop} [Decidable c]{s t:Sem α}(h1:Sim P Q K V W R s)(h2:Sim P Q K V W R t):Sim P Q K V W R (if c then s else t):=by
 split
 ·exact h1
 ·exact h2
end
/-! ### the tables: one for both programs -/
section
variable {T : Tables} {F G : Array Func} {N : Ctx} {H : Nat → Option Obj} {K : Code → Prop} {V : FuncId → Prop} {W : Nat → Prop} {α β : Type}
def S0(T:Tables)(F G:Array Func)(K:Code→Prop)(V:FuncId→Prop)(W:Nat→Prop){α:Type}(s:Sem α):Prop:=Sim ⟨T,F⟩ ⟨T,G⟩ K V W (fun _=>True) s
theorem S0.bind{s:Sem α}{f:α→Sem β}(h:S0 T F G K V W s)(hf: ∀a,S0 T F G K V W (f a)):S0 T F G K V W (s>>= f):=Sim.bind h fun a _=>hf a
theorem S0.pure{a:α}:S0 T F G K V W (Pure.pure a:Sem α):=Sim.pure trivial
def SX(T:Tables)(F G:Array Func)(K:Code→Prop)(V:FuncId→Prop)(W:Nat→Prop){α:Type}(s:Sem α):Prop:=Sim ⟨T,F⟩ ⟨T,G⟩ K V W (fun _=>False) s
theorem S0.of_halts{s:Sem α}(h:SX T F G K V W s):S0 T F G K V W s:=Sim.never h
theorem SX.bind_left{s:Sem α}{f:α→Sem β}(h:SX T F G K V W s):SX T F G K V W (s>>= f):=Sim.never_bind h
theorem SX.bind{s:Sem α}{f:α→Sem β}(h:S0 T F G K V W s)(hf: ∀a,SX T F G K V W (f a)):SX T F G K V W (s>>= f):=Sim.bind h fun a _=>hf a
theorem SX.program{f:Program→Sem β}(h:SX T F G K V W (f ⟨T,G⟩)):SX T F G K V W (program>>= f):=fun N H w w' es hr=>⟨fun a w1 es1 e hN=>((h N H w w' es hr).1 a w1 es1 e hN).1.elim,(h N H w w' es hr).2⟩
theorem SX.stuck{why:String}:SX T F G K V W (Go.stuck why:Sem α):=Sim.halt trivial
theorem SX.unsupported{u:Unsupported}(hu:JU (.unsupported u)):SX T F G K V W (Go.unsupported u:Sem α):=Sim.halt hu
theorem SX.goPanic{v:Value}:SX T F G K V W (Go.goPanic v:Sem α):=Sim.halt trivial
theorem S0.stuck{why:String}:S0 T F G K V W (Go.stuck why:Sem α):=Sim.halt trivial
theorem S0.unsupported{u:Unsupported}(hu:JU (.unsupported u):=by trivial):S0 T F G K V W (Go.unsupported u:Sem α):=Sim.halt hu
theorem S0.goPanic{v:Value}:S0 T F G K V W (Go.goPanic v:Sem α):=Sim.halt trivial
theorem S0.map{s:Sem α}{f:α→β}(h:S0 T F G K V W s):S0 T F G K V W (f<$>s):=Sim.map h
theorem S0.program{f:Program→Sem β}(hfg:f ⟨T,G⟩=f ⟨T,F⟩)(h:S0 T F G K V W (f ⟨T,F⟩)):S0 T F G K V W (program>>= f):=Sim.program hfg h
theorem Zj(t:TypeId):S0 T F G K V W (typeInfo t):=by
 unfold typeInfo
 refine S0.program rfl ?_
 split
 ·exact S0.pure
 ·exact S0.stuck
theorem QP(t:TypeId):S0 T F G K V W (underlying t):=by
 unfold underlying
 refine S0.program rfl ?_
 split
 ·exact S0.pure
 ·exact S0.stuck
theorem ZC(t:TypeId):S0 T F G K V W (zeroValue t):=by
 unfold zeroValue
 refine S0.bind (Zj t) fun i=>?_
 split
 ·exact S0.pure
 ·exact S0.unsupported
theorem Zl(t:TypeId):S0 T F G K V W (sizeOf t):=S0.bind (Zj t) fun _=>S0.pure
theorem Xa(t:TypeId):S0 T F G K V W (isAgg t):=by
 unfold isAgg
 refine S0.bind (QP t) fun i=>?_
 split<;>exact S0.pure
theorem QkO(a:Addr)(m:Mode:= .plain):S0 T F G K V W (load a m):=Qvl a m
theorem Qu0(a:Addr)(v:Value)(m:Mode:= .plain):S0 T F G K V W (store a v m):=Qvn a v m
theorem Zq(q:Question):S0 T F G K V W (choose q):=Qvj q
theorem Qcy(o:Obj)(ho:XY K V o):S0 T F G K V W (newObj o):=Qg1 o ho
theorem QgV(a:Addr):S0 T F G K V W (noView a):=Qvm a
theorem QkJ(a:Addr):S0 T F G K V W (frozen a):=Qvk a
theorem QkQ(a:Addr): ∀(n i:Nat) (acc:Array Value),S0 T F G K V W (loadCellsFrom a i n acc)
 |0,_,_=>S0.pure
 |n+1,i,_=>S0.bind (QkO _) fun _=>QkQ a n (i+1) _
theorem QkP(a:Addr)(n:Nat):S0 T F G K V W (loadCells a n):=QkQ a n 0 _
theorem QeZ(a:Addr): ∀(vs:List Value) (i:Nat),S0 T F G K V W (storeCells a vs i)
 |[],_=>S0.pure
 |_ :: vs,i=>S0.bind (Qu0 _ _) fun _=>QeZ a vs (i+1)
theorem ZG(t:TypeId)(a:Addr):S0 T F G K V W (loadVar t a):=by
 unfold loadVar
 refine S0.bind (Xa t) fun b=>?_
 split
 ·exact S0.bind (Zl t) fun _=>S0.bind (QkP _ _) fun _=>S0.pure
 ·exact QkO a
theorem Xm(t:TypeId)(a:Addr)(v:Value):S0 T F G K V W (storeVar t a v):=by
 unfold storeVar
 refine S0.bind (Zl t) fun n=>?_
 split
 ·exact S0.stuck
 ·exact QeZ _ _ _
theorem Qnf(c:Array Value)(e:TypeId)(z:Nat×Nat):XY K V (.cells c e z):=⟨fun _ _ x=>(by cases x),fun _ x=>(by cases x),fun _ x=>(by cases x),fun _ _ x=>(by cases x)⟩
theorem ZM(e:TypeId)(c:Array Value):S0 T F G K V W (newRow e c):=S0.bind (Qcy _ (Qnf _ _ _)) fun _=>S0.pure
theorem Xb(t:TypeId)(v:Value):S0 T F G K V W (newVar t v):=ZM _ _
theorem Zw(t:TypeId)(cs:Array Value)(off:Nat):S0 T F G K V W (part t cs off):=by
 unfold part
 refine S0.bind (Xa t) fun b=>?_
 split
 ·exact S0.bind (Zl t) fun _=>S0.pure
 ·split
  ·exact S0.pure
  ·exact S0.stuck
theorem Qup(t:TypeId):S0 T F G K V W (elemOf t):=by
 unfold elemOf
 refine S0.bind (QP t) fun d=>?_
 split
 ·exact S0.pure
 ·exact S0.stuck
theorem ZT(e:RuntimeError):SX T F G K V W (runtimePanic e:Sem α):=by
 unfold runtimePanic
 refine Sim.program rfl ?_
 cases e<;>first
  |exact SX.goPanic
  |exact SX.bind (Qup _) fun _=>SX.bind (Xb _ _) fun _=>SX.goPanic
theorem ZB(e:RuntimeError):S0 T F G K V W (runtimePanic e:Sem α):=S0.of_halts (ZT e)
theorem QpP(k:IntKind)(x y:Int)(c:BoundsCode):SX T F G K V W (boundsPanic k x y c:Sem α):=by
 unfold boundsPanic
 split
 ·exact SX.bind (S0.map (Zq _)) fun _=>ZT _
 ·exact SX.bind S0.pure fun _=>ZT _
theorem Xx(k:IntKind)(x y:Int)(c:BoundsCode):S0 T F G K V W (boundsPanic k x y c:Sem α):=S0.of_halts (QpP k x y c)
theorem Z0(n:Nat):S0 T F G K V W (askRoom n):=by
 unfold askRoom
 split
 ·exact Qlf
 ·exact S0.pure
theorem Xl(v:Value):S0 T F G K V W (asIntOf v):=by
 unfold asIntOf
 split<;>first|exact S0.pure|exact S0.unsupported|exact S0.stuck
theorem ZA(v:Value):S0 T F G K V W (asInt v):=S0.bind (Xl v) fun _=>S0.pure
theorem ZL(v:Value):S0 T F G K V W (asBool v):=by
 unfold asBool
 split<;>first|exact S0.pure|exact S0.stuck
theorem Xw(v:Value):S0 T F G K V W (asAgg v):=by
 unfold asAgg
 split<;>first|exact S0.pure|exact S0.stuck
theorem ZF(v:Value):S0 T F G K V W (asAddr v):=by
 unfold asAddr
 split<;>first|exact S0.pure|exact S0.stuck|exact ZB _
theorem ZN(v:Value):S0 T F G K V W (Instr.sureAddr v):=by
 unfold Instr.sureAddr
 split<;>first|exact S0.pure|exact S0.stuck
end
end Go.Proofs.YtgaimkihacljdaaGreat
/- The simulation of the operations. (Round C) -/
namespace Go.Proofs.YtgaimkihacljdaaGreat
section
variable {T : Tables} {F G : Array Func} {N : Ctx} {H : Nat → Option Obj} {K : Code → Prop} {V : FuncId → Prop} {W : Nat → Prop} {α β : Type}
theorem Qfy: ∀(d:Nat) (e:TypeId) (r:Nat),byteOfCell ⟨T,G⟩ d e r=byteOfCell ⟨T,F⟩ d e r
 |0,_,_=>rfl
 |d+1,e,r=>by
  simp only[byteOfCell,Qfy d]
  rfl
theorem Qcx(a:Addr):S0 T F G K V W (byteOf a):=by
 unfold byteOf
 split
 ·exact S0.pure
 ·refine S0.program ?_ ?_
  ·simp only[Qfy (T:=T) (F:=F) (G:=G),show(Program.mk T G).depth=(Program.mk T F).depth from rfl,show(Program.mk T G).cellsOf=(Program.mk T F).cellsOf from rfl,show(Program.mk T G).bytesOf=(Program.mk T F).bytesOf from rfl]
  refine S0.bind (QgV a) fun _=>?_
  refine Qe6 _ S0.stuck (fun e n=>?_) (fun e n=> .inl fun z es=>rfl)
  dsimp only
  change S0 T F G K V W _
  repeat' (first|(with_reducible first|exact S0.pure|exact S0.stuck|exact S0.unsupported|exact ZB _|exact Xx _ _ _ _|assumption|exact QP _|exact Zj _|exact Zl _|exact ZC _|exact Xl _|exact ZA _|exact ZL _|exact Xw _|exact ZF _|exact ZN _|exact Xa _|exact Zw _ _ _|exact Zq _|exact ZM _ _|exact Xb _ _|exact ZG _ _|exact Xm _ _ _|exact Z0 _|refine S0.bind ?_ fun _=>?_|refine S0.map ?_)|dsimp only|split)
theorem QuR(a:Addr)(c b:Nat):S0 T F G K V W (partAt a c b):=S0.bind (Qcx a) fun _=>S0.bind (Qcx _) fun _=>S0.pure
theorem QeY(a:Addr)(f:Field):S0 T F G K V W (fieldPlace a f):=by
 unfold fieldPlace
 refine S0.bind (Zl _) fun _=>?_
 split
 ·exact QuR _ _ _
 ·exact S0.pure
theorem QuF(t:TypeId)(v:Value):S0 T F G K V W (Instr.loadAt t v):=S0.bind (ZN v) fun _=>ZG _ _
theorem Qu1(t:TypeId)(a v:Value):S0 T F G K V W (Instr.storeAt t a v):=S0.bind (ZN a) fun _=>Xm _ _ _
theorem Qt8(t:TypeId):S0 T F G K V W (Instr.alloc t true (.tuple #[])):=by
 unfold Instr.alloc
 repeat' (first|(with_reducible first|exact S0.pure|exact S0.stuck|exact S0.unsupported|exact ZB _|exact Xx _ _ _ _|assumption|exact QP _|exact Zj _|exact Zl _|exact ZC _|exact Xl _|exact ZA _|exact ZL _|exact Xw _|exact ZF _|exact ZN _|exact Xa _|exact Zw _ _ _|exact Zq _|exact ZM _ _|exact Xb _ _|exact ZG _ _|exact Xm _ _ _|exact Z0 _|refine S0.bind ?_ fun _=>?_|refine S0.map ?_)|dsimp only|split)
theorem Que(t:TypeId)(v:Value):S0 T F G K V W (Instr.box t v):=S0.bind (Xb _ _) fun _=>S0.pure
theorem Qux(t:TypeId)(v:Value)(f:Nat):S0 T F G K V W (Instr.fieldAt t v f):=by
 have:= @QeY T F G K V W
 unfold Instr.fieldAt
 refine S0.bind (QP _) fun _=>?_
 split
 ·split
  ·exact S0.bind (ZN v) fun _=>S0.bind (QeY _ _) fun _=>S0.pure
  ·exact S0.stuck
 ·exact S0.stuck
theorem QuA(t:TypeId)(x i:Value):S0 T F G K V W (Instr.indexAt t x i):=by
 unfold Instr.indexAt
 repeat' (first|(with_reducible first|exact S0.pure|exact S0.stuck|exact S0.unsupported|exact ZB _|exact Xx _ _ _ _|assumption|exact QP _|exact Zj _|exact Zl _|exact ZC _|exact Xl _|exact ZA _|exact ZL _|exact Xw _|exact ZF _|exact ZN _|exact Xa _|exact Zw _ _ _|exact Zq _|exact ZM _ _|exact Xb _ _|exact ZG _ _|exact Xm _ _ _|exact Z0 _|refine S0.bind ?_ fun _=>?_|refine S0.map ?_)|dsimp only|split)
theorem QuZ(x:Value)(y:Nat)(c:BoundsCode):S0 T F G K V W (Instr.sliceBound x y c):=by
 unfold Instr.sliceBound
 repeat' (first|(with_reducible first|exact S0.pure|exact S0.stuck|exact S0.unsupported|exact ZB _|exact Xx _ _ _ _|assumption|exact QP _|exact Zj _|exact Zl _|exact ZC _|exact Xl _|exact ZA _|exact ZL _|exact Xw _|exact ZF _|exact ZN _|exact Xa _|exact Zw _ _ _|exact Zq _|exact ZM _ _|exact Xb _ _|exact ZG _ _|exact Xm _ _ _|exact Z0 _|refine S0.bind ?_ fun _=>?_|refine S0.map ?_)|dsimp only|split)
theorem Qk2(b:Bool)(n c:Nat)(l h m:Option Value):S0 T F G K V W (Instr.sliceBounds b n c l h m):=by
 have hb:= @QuZ T F G K V W
 unfold Instr.sliceBounds
 repeat' (first|exact S0.pure|exact S0.stuck|exact hb _ _ _|(with_reducible refine S0.bind ?_ fun _=>?_)|split)
theorem QuX(t:TypeId)(x:Value)(l h m:Option Value):S0 T F G K V W (Instr.slice t x l h m):=by
 have hb:= @Qk2 T F G K V W
 unfold Instr.slice
 repeat' (first|exact S0.pure|exact S0.stuck|exact hb _ _ _ _ _ _|exact QP _|exact Zl _|exact ZF _|(with_reducible refine S0.bind ?_ fun _=>?_)|split)
theorem QuY(t:TypeId)(x:Value)(l h m:Option Value):S0 T F G K V W (Instr.sliceAt t x l h m):=by
 have hb:= @Qk2 T F G K V W
 unfold Instr.sliceAt
 repeat' (first|exact S0.pure|exact S0.stuck|exact hb _ _ _ _ _ _|exact QuX _ _ _ _ _|exact QP _|exact Zl _|exact ZN _|(with_reducible refine S0.bind ?_ fun _=>?_)|split)
theorem QkR{γ δ:Type}{f:γ→Sem δ}(h: ∀x,S0 T F G K V W (f x)): ∀(l:List γ),S0 T F G K V W (l.mapM f)
 |[]=>S0.pure
 |x :: l=>by
  rw[List.mapM_cons]
  exact S0.bind (h x) fun _=>S0.bind (QkR h l) fun _=>S0.pure
theorem QkS{γ δ:Type}{f:γ→Sem δ}(h: ∀x,S0 T F G K V W (f x))(l:Array γ):S0 T F G K V W (l.mapM f):=by
 rw[Array.mapM_eq_mapM_toList]
 exact S0.map (QkR h _)
theorem Quf(t:TypeId)(ps:Array (Nat×Value)):S0 T F G K V W (Instr.build t ps):=by
 unfold Instr.build
 refine S0.bind (ZC _) fun _=>S0.bind (QP _) fun _=>?_
 split
 ·refine S0.bind (QkS (fun f=>S0.bind (Zl _) fun _=>S0.pure) _) fun _=>?_
  repeat' (first|(with_reducible first|exact S0.pure|exact S0.stuck|exact S0.unsupported|exact ZB _|exact Xx _ _ _ _|assumption|exact QP _|exact Zj _|exact Zl _|exact ZC _|exact Xl _|exact ZA _|exact ZL _|exact Xw _|exact ZF _|exact ZN _|exact Xa _|exact Zw _ _ _|exact Zq _|exact ZM _ _|exact Xb _ _|exact ZG _ _|exact Xm _ _ _|exact Z0 _|refine S0.bind ?_ fun _=>?_|refine S0.map ?_)|dsimp only|split)
 ·repeat' (first|(with_reducible first|exact S0.pure|exact S0.stuck|exact S0.unsupported|exact ZB _|exact Xx _ _ _ _|assumption|exact QP _|exact Zj _|exact Zl _|exact ZC _|exact Xl _|exact ZA _|exact ZL _|exact Xw _|exact ZF _|exact ZN _|exact Xa _|exact Zw _ _ _|exact Zq _|exact ZM _ _|exact Xb _ _|exact ZG _ _|exact Xm _ _ _|exact Z0 _|refine S0.bind ?_ fun _=>?_|refine S0.map ?_)|dsimp only|split)
 ·exact S0.stuck
theorem Qug(t:TypeId)(n:Nat)(ps:Array (Nat×Value)):S0 T F G K V W (Instr.buildSlice t n ps):=by
 unfold Instr.buildSlice
 repeat' (first|(with_reducible first|exact S0.pure|exact S0.stuck|exact S0.unsupported|exact ZB _|exact Xx _ _ _ _|assumption|exact QP _|exact Zj _|exact Zl _|exact ZC _|exact Xl _|exact ZA _|exact ZL _|exact Xw _|exact ZF _|exact ZN _|exact Xa _|exact Zw _ _ _|exact Zq _|exact ZM _ _|exact Xb _ _|exact ZG _ _|exact Xm _ _ _|exact Z0 _|refine S0.bind ?_ fun _=>?_|refine S0.map ?_)|dsimp only|split)
theorem Quw(t:TypeId)(x:Value)(f:Nat):S0 T F G K V W (Instr.field t x f):=by
 unfold Instr.field
 repeat' (first|(with_reducible first|exact S0.pure|exact S0.stuck|exact S0.unsupported|exact ZB _|exact Xx _ _ _ _|assumption|exact QP _|exact Zj _|exact Zl _|exact ZC _|exact Xl _|exact ZA _|exact ZL _|exact Xw _|exact ZF _|exact ZN _|exact Xa _|exact Zw _ _ _|exact Zq _|exact ZM _ _|exact Xb _ _|exact ZG _ _|exact Xm _ _ _|exact Z0 _|refine S0.bind ?_ fun _=>?_|refine S0.map ?_)|dsimp only|split)
theorem Quz(t:TypeId)(x i:Value):S0 T F G K V W (Instr.index t x i):=by
 unfold Instr.index
 repeat' (first|(with_reducible first|exact S0.pure|exact S0.stuck|exact S0.unsupported|exact ZB _|exact Xx _ _ _ _|assumption|exact QP _|exact Zj _|exact Zl _|exact ZC _|exact Xl _|exact ZA _|exact ZL _|exact Xw _|exact ZF _|exact ZN _|exact Xa _|exact Zw _ _ _|exact Zq _|exact ZM _ _|exact Xb _ _|exact ZG _ _|exact Xm _ _ _|exact Z0 _|refine S0.bind ?_ fun _=>?_|refine S0.map ?_)|dsimp only|split)
theorem QuK(t:TypeId)(l c:Value):S0 T F G K V W (Instr.makeSlice t l c):=by
 unfold Instr.makeSlice
 refine S0.bind (QP _) fun d=>?_
 split
 ·refine S0.bind (ZA _) fun l=>S0.bind (ZA _) fun c=>S0.bind (Zj _) fun i=>?_
  dsimp only
  refine Sim.ite ?_ ?_
  ·refine Sim.ite (S0.of_halts (SX.bind_left (ZT _))) (Sim.ite (S0.of_halts (SX.bind_left (ZT _))) ?_)
   exact S0.of_halts (SX.bind (Zq _) fun _=>SX.bind_left (ZT _))
  ·refine S0.bind (Z0 _) fun _=>S0.bind (Zl _) fun n=>?_
   refine Sim.ite ?_ ?_
   ·exact S0.bind S0.pure fun _=>S0.bind (ZM _ _) fun _=>S0.pure
   ·exact S0.bind (ZC _) fun _=>S0.bind S0.pure fun _=>S0.bind (ZM _ _) fun _=>S0.pure
 ·exact S0.stuck
theorem QuI(t:TypeId)(x:Value):S0 T F G K V W (Instr.makeInterface t x):=by
 unfold Instr.makeInterface
 repeat' (first|(with_reducible first|exact S0.pure|exact S0.stuck|exact S0.unsupported|exact ZB _|exact Xx _ _ _ _|assumption|exact QP _|exact Zj _|exact Zl _|exact ZC _|exact Xl _|exact ZA _|exact ZL _|exact Xw _|exact ZF _|exact ZN _|exact Xa _|exact Zw _ _ _|exact Zq _|exact ZM _ _|exact Xb _ _|exact ZG _ _|exact Xm _ _ _|exact Z0 _|refine S0.bind ?_ fun _=>?_|refine S0.map ?_)|dsimp only|split)
theorem Quu(t:Value)(i:Nat):S0 T F G K V W (Instr.extract t i):=by
 unfold Instr.extract
 repeat' (first|(with_reducible first|exact S0.pure|exact S0.stuck|exact S0.unsupported|exact ZB _|exact Xx _ _ _ _|assumption|exact QP _|exact Zj _|exact Zl _|exact ZC _|exact Xl _|exact ZA _|exact ZL _|exact Xw _|exact ZF _|exact ZN _|exact Xa _|exact Zw _ _ _|exact Zq _|exact ZM _ _|exact Xb _ _|exact ZG _ _|exact Xm _ _ _|exact Z0 _|refine S0.bind ?_ fun _=>?_|refine S0.map ?_)|dsimp only|split)
theorem Qu3(x:Value)(t u:TypeId)(b:Bool):S0 T F G K V W (Instr.typeAssert x t u b):=by
 unfold Instr.typeAssert
 repeat' (first|(with_reducible first|exact S0.pure|exact S0.stuck|exact S0.unsupported|exact ZB _|exact Xx _ _ _ _|assumption|exact QP _|exact Zj _|exact Zl _|exact ZC _|exact Xl _|exact ZA _|exact ZL _|exact Xw _|exact ZF _|exact ZN _|exact Xa _|exact Zw _ _ _|exact Zq _|exact ZM _ _|exact Xb _ _|exact ZG _ _|exact Xm _ _ _|exact Z0 _|refine S0.bind ?_ fun _=>?_|refine S0.map ?_)|dsimp only|split)
theorem QkK(op:BinOp)(k:IntKind)(x y:Int):S0 T F G K V W (Op.intArith op k x y):=by
 unfold Op.intArith
 repeat' (first|(with_reducible first|exact S0.pure|exact S0.stuck|exact S0.unsupported|exact ZB _|exact Xx _ _ _ _|assumption|exact QP _|exact Zj _|exact Zl _|exact ZC _|exact Xl _|exact ZA _|exact ZL _|exact Xw _|exact ZF _|exact ZN _|exact Xa _|exact Zw _ _ _|exact Zq _|exact ZM _ _|exact Xb _ _|exact ZG _ _|exact Xm _ _ _|exact Z0 _|refine S0.bind ?_ fun _=>?_|refine S0.map ?_)|dsimp only|split)
theorem QuC(op:BinOp)(k:IntKind)(x y:Int):S0 T F G K V W (Op.intDiv op k x y):=by
 unfold Op.intDiv
 repeat' (first|(with_reducible first|exact S0.pure|exact S0.stuck|exact S0.unsupported|exact ZB _|exact Xx _ _ _ _|assumption|exact QP _|exact Zj _|exact Zl _|exact ZC _|exact Xl _|exact ZA _|exact ZL _|exact Xw _|exact ZF _|exact ZN _|exact Xa _|exact Zw _ _ _|exact Zq _|exact ZM _ _|exact Xb _ _|exact ZG _ _|exact Xm _ _ _|exact Z0 _|refine S0.bind ?_ fun _=>?_|refine S0.map ?_)|dsimp only|split)
theorem QkL(op:BinOp)(k:IntKind)(x y:Int):S0 T F G K V W (Op.intBits op k x y):=by
 unfold Op.intBits
 repeat' (first|(with_reducible first|exact S0.pure|exact S0.stuck|exact S0.unsupported|exact ZB _|exact Xx _ _ _ _|assumption|exact QP _|exact Zj _|exact Zl _|exact ZC _|exact Xl _|exact ZA _|exact ZL _|exact Xw _|exact ZF _|exact ZN _|exact Xa _|exact Zw _ _ _|exact Zq _|exact ZM _ _|exact Xb _ _|exact ZG _ _|exact Xm _ _ _|exact Z0 _|refine S0.bind ?_ fun _=>?_|refine S0.map ?_)|dsimp only|split)
theorem QuB(op:BinOp)(x y:Int):S0 T F G K V W (Op.intCmp op x y):=by
 unfold Op.intCmp
 repeat' (first|(with_reducible first|exact S0.pure|exact S0.stuck|exact S0.unsupported|exact ZB _|exact Xx _ _ _ _|assumption|exact QP _|exact Zj _|exact Zl _|exact ZC _|exact Xl _|exact ZA _|exact ZL _|exact Xw _|exact ZF _|exact ZN _|exact Xa _|exact Zw _ _ _|exact Zq _|exact ZM _ _|exact Xb _ _|exact ZG _ _|exact Xm _ _ _|exact Z0 _|refine S0.bind ?_ fun _=>?_|refine S0.map ?_)|dsimp only|split)
theorem QuW(op:BinOp)(k:IntKind)(x:Int)(j:IntKind)(y:Int):S0 T F G K V W (Op.shift op k x j y):=by
 unfold Op.shift
 repeat' (first|(with_reducible first|exact S0.pure|exact S0.stuck|exact S0.unsupported|exact ZB _|exact Xx _ _ _ _|assumption|exact QP _|exact Zj _|exact Zl _|exact ZC _|exact Xl _|exact ZA _|exact ZL _|exact Xw _|exact ZF _|exact ZN _|exact Xa _|exact Zw _ _ _|exact Zq _|exact ZM _ _|exact Xb _ _|exact ZG _ _|exact Xm _ _ _|exact Z0 _|refine S0.bind ?_ fun _=>?_|refine S0.map ?_)|dsimp only|split)
theorem Qe0(op:BinOp)(x y:ByteArray):S0 T F G K V W (Op.stringOp op x y):=by
 unfold Op.stringOp
 repeat' (first|(with_reducible first|exact S0.pure|exact S0.stuck|exact S0.unsupported|exact ZB _|exact Xx _ _ _ _|assumption|exact QP _|exact Zj _|exact Zl _|exact ZC _|exact Xl _|exact ZA _|exact ZL _|exact Xw _|exact ZF _|exact ZN _|exact Xa _|exact Zw _ _ _|exact Zq _|exact ZM _ _|exact Xb _ _|exact ZG _ _|exact Xm _ _ _|exact Z0 _|refine S0.bind ?_ fun _=>?_|refine S0.map ?_)|dsimp only|split)
theorem Qu4(op:UnOp)(x:Value):S0 T F G K V W (Op.unary op x):=by
 unfold Op.unary
 split<;>first|exact S0.pure|exact S0.stuck|exact S0.unsupported|exact QkK _ _ _ _|exact QkL _ _ _ _
end
end Go.Proofs.YtgaimkihacljdaaGreat
/- The simulation of the built-ins, of comparisons, of maps and loops over functions. (Round C) -/
namespace Go.Proofs.YtgaimkihacljdaaGreat
section
variable {T : Tables} {F G : Array Func} {N : Ctx} {H : Nat → Option Obj} {K : Code → Prop} {V : FuncId → Prop} {W : Nat → Prop} {α β : Type}
theorem S0.ite{c:Prop} [Decidable c]{s t:Sem α}(h1:S0 T F G K V W s)(h2:S0 T F G K V W t):S0 T F G K V W (if c then s else t):=Sim.ite h1 h2
theorem QgS{γ σ:Type}{f:γ→σ→Sem (ForInStep σ)}(h: ∀x s,S0 T F G K V W (f x s)): ∀(l:List γ) (s:σ),S0 T F G K V W (forIn l s f)
 |[],_=>by rw[List.forIn_nil];exact S0.pure
 |x :: l,s=>by
  rw[List.forIn_cons]
  refine S0.bind (h x s) fun r=>?_
  split
  ·exact S0.pure
  ·exact QgS h l _
theorem QgT{γ σ:Type}{f:γ→σ→Sem (ForInStep σ)}(h: ∀x s,S0 T F G K V W (f x s))(l:Array γ)(s:σ):S0 T F G K V W (forIn l s f):=by
 rw[←Array.forIn_toList]
 exact QgS h _ _
theorem QgU{σ:Type}{f:Nat→σ→Sem (ForInStep σ)}(h: ∀x s,S0 T F G K V W (f x s))(n:Nat)(s:σ):S0 T F G K V W (forIn [0:n] s f):=by
 simp only[Std.Legacy.Range.forIn_eq_forIn_range']
 exact QgS h _ _
theorem QgQ{γ σ:Type}{f:σ→γ→Sem σ}(h: ∀s x,S0 T F G K V W (f s x)): ∀(l:List γ) (s:σ),S0 T F G K V W (l.foldlM f s)
 |[],_=>S0.pure
 |x :: l,s=>by
  rw[List.foldlM_cons]
  exact S0.bind (h s x) fun _=>QgQ h l _
theorem Qhs: ∀(n:Nat) (t u:TypeId),(Program.mk T G).alikeButTags n t u=(Program.mk T F).alikeButTags n t u
 |0,_,_=>rfl
 |n+1,t,u=>by
  simp only[Program.alikeButTags,Qhs n]
  try rfl
theorem QvO(t:TypeId):(Program.mk T G).stoodInHeld t=(Program.mk T F).stoodInHeld t:=by
 unfold Program.stoodInHeld Program.stoodInAs
 simp only[Qhs (T:=T) (F:=F) (G:=G)]
 try rfl
theorem Qh6: ∀(d:Nat) (t:TypeId),(Program.mk T G).eqGuardType d t=(Program.mk T F).eqGuardType d t
 |0,_=>rfl
 |d+1,t=>by
  simp only[Program.eqGuardType,Qh6 d]
  try rfl
theorem QhG: ∀(d:Nat) (e:TypeId) (r:Nat),cellOfByte ⟨T,G⟩ d e r=cellOfByte ⟨T,F⟩ d e r
 |0,_,_=>rfl
 |d+1,e,r=>by
  simp only[cellOfByte,QhG d]
  try rfl
theorem Qna(d:Nat)(e:TypeId)(n off:Nat)(b:Int):cellAtBytes ⟨T,G⟩ d e n off b=cellAtBytes ⟨T,F⟩ d e n off b:=by
 simp only[cellAtBytes,QhG (T:=T) (F:=F) (G:=G),Qfy (T:=T) (F:=F) (G:=G)]
 rfl
theorem QkY(r:Nat):S0 T F G K V W (numberAt r):=by
 unfold numberAt
 refine Qe6 _ ?_ (fun e n=>S0.pure) (fun e n=> .inl fun z es=>rfl)
 intro N H w w' es hr
 have key: ∀(p:Program) (z:World),(Sem.getObj r fun o=>match o with| .number a lost=>Sem.pure (some (a,lost))|_=>Sem.pure (none:Option (Addr×Bool))).runT p z es=match z.heap[r]? with
  |some (.cells ..)=>(.halt (.stuck "getObj: a row of cells") z,es)
  |some (.number a lost)=>(.ok (some (a,lost)) z,es.push ⟨.obj r,false,false⟩)
  |some o=>(.ok none z,es.push ⟨.obj r,false,o.isChan⟩)
  |none=>(.halt (.stuck "getObj: no such block") z,es):=by
  intro p z
  simp only[Sem.runT]
  cases z.heap[r]? with
  |none=>rfl
  |some y=>cases y<;>rfl
 constructor
 rotate_left
 ·intro x w1 es1 h hN
  replace h:(Sem.getObj r fun o=>match o with| .number a lost=>Sem.pure (some (a,lost))|_=>Sem.pure (none:Option (Addr×Bool))).runT ⟨T,G⟩ w' es=_:=h
  rw[key] at h
  split at h<;>first
   |(obtain⟨rfl,rfl,rfl⟩:=XO h;exact⟨trivial,hr.defer⟩)
   |cases h
 intro x w1 es1 h hN
 by_cases hW:W r
 ·obtain⟨c,e,h1,h2⟩:=hr.dead r hW
  simp only[Option.isSome,getObj,bind,Sem.bind,Sem.runT,Bool.false_eq_true,if_false,h2] at h
  cases h
 replace h:(Sem.getObj r fun o=>match o with| .number a lost=>Sem.pure (some (a,lost))|_=>Sem.pure (none:Option (Addr×Bool))).runT ⟨T,G⟩ w' es=_:=h
 show True∧∃w2,(Sem.getObj r fun o=>match o with| .number a lost=>Sem.pure (some (a,lost))|_=>Sem.pure (none:Option (Addr×Bool))).runT ⟨T,F⟩ w es=_∧_
 rw[key] at h⊢
 rcases hr.live r hW with h1|⟨b,u,hb,h1,h2⟩
 ·rw[←h1]
  cases hc:w'.heap[r]? with
  |none=>rw[hc] at h;cases h
  |some y=>
   have hlt:r<w'.heap.size:=(Array.getElem?_eq_some_iff.1 hc).1
   rw[hc] at h
   cases y<;>first
    |(cases h;done)
    |(obtain⟨rfl,rfl,rfl⟩:=Xu h
      exact⟨trivial,_,rfl,hr,Nat.le_refl _,fun hes=>Qa0 (Nat.le_refl _) ⟨hW,hlt⟩ hes⟩)
 ·have hlt:r<w'.heap.size:=(Array.getElem?_eq_some_iff.1 h2).1
  rw[h2] at h
  rw[h1]
  obtain⟨rfl,rfl,rfl⟩:=Xu h
  rcases hb.1 with⟨_,_,rfl⟩|⟨_,rfl⟩|⟨_,rfl⟩|⟨_,_,rfl⟩<;>exact⟨trivial,_,rfl,hr,Nat.le_refl _,fun hes=>Qa0 (Nat.le_refl _) ⟨hW,hlt⟩ hes⟩
theorem QdU(a:Addr):S0 T F G K V W (behindNumber a):=S0.bind (QkY _) fun _=>S0.pure
theorem QcX{w w':World}(h:Rel N H K V W w w'){r:Nat}(hW:W r)(a:Addr)(ha:a.block=r):w.frozen? a=false∧w'.frozen? a=false:=by
 subst ha
 obtain⟨c,e,h1,h2⟩:=h.dead _ hW
 simp[World.frozen?,h1,h2]
def strB(w:World)(a:Addr):Bool:=w.frozen? a || match w.shape? a.block with|some (_,n)=>w.frozen? { block:=a.block,off:=n}|none=>false
theorem Qlu(p:Program)(z:World)(a:Addr)(es:Array Event):(stringish a).runT p z es=(.ok (strB z a) z,es):=by
 have e0:(stringish a).runT p z es=((if z.frozen? a then Sem.pure true else Sem.shape a.block fun s=>match s with|some (_,n)=>Sem.frozen { block:=a.block,off:=n} Sem.pure|none=>Sem.pure false):Sem Bool).runT p z es:=by
  cases hz:z.frozen? a<;>(simp only[stringish,frozen,shape,bind,Sem.bind,Sem.runT,hz,pure,if_true,Bool.false_eq_true,if_false])<;>rfl
 rw[e0]
 unfold strB
 cases z.frozen? a with
 |true=>rfl
 |false=>
  simp only[Bool.false_eq_true,if_false,Sem.runT,Bool.false_or]
  cases z.shape? a.block<;>rfl
theorem Qha{w w':World}(h:Rel N H K V W w w')(a:Addr):strB w' a=strB w a:=by
 unfold strB
 by_cases hW:W a.block
 ·obtain⟨c,e,h1,h2⟩:=h.dead _ hW
  rw[(QcX h hW a rfl).1,(QcX h hW a rfl).2]
  simp only[World.shape?,h1,h2,Bool.false_or]
  rw[(QcX h hW ⟨a.block,c.size,none⟩ rfl).1]
  exact(QcX h hW ⟨a.block,0,none⟩ rfl).2
 ·have e1:w'.shape? a.block=w.shape? a.block:=by
   rcases h.live _ hW with h1|⟨b,u,hb,h1,h2⟩
   ·simp only[World.shape?,h1]
   ·rcases hb.1 with⟨_,_,rfl⟩|⟨_,rfl⟩|⟨_,rfl⟩|⟨_,_,rfl⟩<;>simp[World.shape?,h1,h2]
  rw[e1,h.frozen]
  cases w.shape? a.block with
  |none=>rfl
  |some y=>simp only[h.frozen]
theorem QvP{w w':World}(h:Rel N H K V W w w'){a:Addr}(hW:W a.block):strB w a=false:=by
 unfold strB
 obtain⟨c,e,h1,h2⟩:=h.dead _ hW
 rw[(QcX h hW a rfl).1]
 simp only[World.shape?,h1,Bool.false_or]
 exact(QcX h hW ⟨a.block,c.size,none⟩ rfl).1
def mayB(w:World)(a b:Addr):Bool:=
 let e (x:Addr):Bool:=match w.shape? x.block with|some (_,0)=>true|_=>false
 (strB w a && strB w b) || (strB w a && e a) || (strB w b && e b)
theorem QjF(p:Program)(z:World)(a b:Addr)(es:Array Event):(mayBeOne a b).runT p z es=(.ok (mayB z a b) z,es):=by
 unfold mayBeOne
 change(Sem.bind (stringish a) fun sa=>Sem.bind (stringish b) fun sb=>_).runT p z es=_
 rw[Sem.runT_bind',Qlu]
 dsimp only
 rw[Sem.runT_bind',Qlu]
 rfl
theorem QkU(a b:Addr):S0 T F G K V W (mayBeOne a b):=by
 intro N H w w' es hr
 refine⟨fun x w1 es1 h hN=>?_,fun x w1 es1 h=>by rw[QjF] at h;cases h⟩
 rw[QjF] at h⊢
 obtain⟨rfl,rfl,rfl⟩:=Xu h
 have e:mayB w a b=mayB w' a b:=by
  have hs: ∀c:Addr,(strB w' c && (match w'.shape? c.block with|some (_,0)=>true|_=>false))=(strB w c && (match w.shape? c.block with|some (_,0)=>true|_=>false)):=by
   intro c
   rw[Qha hr]
   by_cases hW:W c.block
   ·rw[QvP hr hW];simp
   ·have e1:w'.shape? c.block=w.shape? c.block:=by
     rcases hr.live _ hW with h1|⟨b,u,hb,h1,h2⟩
     ·simp only[World.shape?,h1]
     ·rcases hb.1 with⟨_,_,rfl⟩|⟨_,rfl⟩|⟨_,rfl⟩|⟨_,_,rfl⟩<;>simp[World.shape?,h1,h2]
    rw[e1]
  show _=_
  unfold mayB
  dsimp only
  rw[hs a,hs b,Qha hr a,Qha hr b]
 rw[e]
 exact⟨trivial,w,rfl,hr,Nat.le_refl _,fun hes=>hes⟩
theorem Qk1(a b:Addr):S0 T F G K V W (sameAddr a b):=by
 have:= @QkU T F G K V W
 have:= @QgV T F G K V W
 have:= @QkJ T F G K V W
 unfold sameAddr
 repeat' (first|exact S0.pure|exact S0.unsupported|exact QkU _ _|exact QgV _|exact QkJ _|exact Zq _|(with_reducible refine S0.bind ?_ fun _=>?_)|dsimp only|split)
theorem QuV(a b:Option Addr):S0 T F G K V W (samePointer a b):=by
 unfold samePointer
 split
 ·exact Qk1 _ _
 ·exact S0.pure
theorem Qk4(t:TypeId):S0 T F G K V W (typeStr t):=by
 unfold typeStr
 refine S0.bind (Zj _) fun i=>?_
 dsimp only
 exact S0.ite S0.unsupported S0.pure
theorem QkB: ∀(d:Nat) (t:TypeId) (x y:Value),S0 T F G K V W (Op.equalIn d t x y)
 |0,_,_,_=>S0.unsupported
 |d+1,t,x,y=>by
  have ih:=QkB d
  unfold Op.equalIn
  refine S0.bind (QP t) fun ty=>?_
  split
  all_goals first
   |(with_reducible exact S0.pure)
   |(with_reducible exact S0.stuck)
   |(with_reducible exact S0.unsupported)
   |(with_reducible exact QuV _ _)
   |(with_reducible exact S0.ite S0.pure S0.stuck)
   |skip
  ·
   refine S0.bind (QdU _) fun a=>S0.bind (QdU _) fun b=>?_
   dsimp only
   refine S0.program rfl ?_
   have h2:S0 T F G K V W (do
    let .named "sync.copyChecker" _:=(←typeInfo t).desc|Go.unsupported .addressObserved
    if a.1 == b.1 then pure true else Go.unsupported .addressObserved:Sem Bool):=by
    refine S0.bind (Zj _) fun _=>?_
    split
    ·exact S0.ite S0.pure S0.unsupported
    ·exact S0.unsupported
   refine S0.ite ?_ h2
   exact S0.bind (Qcx _) fun _=>S0.bind (Qcx _) fun _=>S0.pure
  ·
   refine S0.bind (Zl _) fun n=>S0.ite (Qk1 _ _) (S0.ite S0.pure (S0.bind (Zq _) fun _=>S0.pure))
  ·
   refine S0.ite S0.pure (S0.bind (Zj _) fun i=>?_)
   dsimp only
   refine S0.ite (S0.of_halts ?_) (ih _ _ _)
   refine SX.program (SX.program ?_)
   split
   ·exact SX.bind_left (SX.unsupported trivial)
   ·exact SX.bind (Qk4 _) fun _=>ZT _
  ·
   refine S0.program ?_ ?_
   ·simp only[QvO (T:=T) (F:=F) (G:=G)]
   refine S0.ite (S0.of_halts (SX.bind_left (SX.unsupported trivial))) ?_
   refine S0.bind (QgT (fun f s=>?_) _ _) fun r=>?_
   ·repeat' (first|exact S0.pure|exact ih _ _ _|exact Zw _ _ _|(with_reducible refine S0.bind ?_ fun _=>?_)|dsimp only|split)
   ·repeat' (first|exact S0.pure|dsimp only|split)
  ·
   refine S0.bind (Zl _) fun n=>?_
   dsimp only
   refine S0.bind (QgU (fun f s=>?_) _ _) fun r=>?_
   ·repeat' (first|exact S0.pure|exact ih _ _ _|exact Zw _ _ _|(with_reducible refine S0.bind ?_ fun _=>?_)|dsimp only|split)
   ·repeat' (first|exact S0.pure|dsimp only|split)
theorem QgP(t:TypeId)(x y:Value):S0 T F G K V W (Op.equal t x y):=QkB _ _ _ _
theorem QgO: ∀(d:Nat) (t:TypeId) (x y:Value),S0 T F G K V W (Op.eqGuardIn d t x y)
 |0,_,_,_=>S0.unsupported
 |d+1,t,x,y=>by
  have ih:=QgO d
  unfold Op.eqGuardIn
  refine S0.bind (QP t) fun ty=>?_
  split
  ·exact S0.pure
  ·refine S0.bind (QgT (fun f s=>?_) _ _) fun r=>?_
   ·repeat' (first|exact S0.pure|exact ih _ _ _|exact Zw _ _ _|(with_reducible refine S0.bind ?_ fun _=>?_)|dsimp only|split)
   ·repeat' (first|exact S0.pure|dsimp only|split)
  ·refine S0.bind (Zl _) fun n=>?_
   dsimp only
   refine S0.bind (QgU (fun f s=>?_) _ _) fun r=>?_
   ·repeat' (first|exact S0.pure|exact ih _ _ _|exact Zw _ _ _|(with_reducible refine S0.bind ?_ fun _=>?_)|dsimp only|split)
   ·repeat' (first|exact S0.pure|dsimp only|split)
  ·exact S0.pure
theorem Qut(op:BinOp)(t:TypeId)(x y:Operand)(a b:Value):S0 T F G K V W (eqGuard op t x y a b):=by
 unfold eqGuard
 refine S0.ite S0.pure ?_
 split
 ·refine S0.ite S0.pure ?_
  exact S0.bind (QgO _ _ _ _) fun _=>S0.ite S0.unsupported S0.pure
 ·refine S0.program ?_ ?_
  ·simp only[Qh6 (T:=T) (F:=F) (G:=G)]
  refine S0.ite S0.pure ?_
  exact S0.bind (QgO _ _ _ _) fun _=>S0.ite S0.unsupported S0.pure
 ·exact S0.pure
theorem Qhg(p:Program)(z:World)(r:Nat)(es:Array Event):(viewAt r).runT p z es=match z.heap[r]? with
 |some (.cells ..)=>(.ok none z,es)
 |some (.view a u)=>(.ok (some (a,u)) z,es.push ⟨.obj r,false,false⟩)
 |some o=>(.ok none z,es.push ⟨.obj r,false,o.isChan⟩)
 |none=>(.halt (.stuck "getObj: no such block") z,es):=by
 have e0:(viewAt r).runT p z es=((Sem.bind (.shape r .pure) fun s=>if s.isSome then Sem.pure none else Sem.bind (.getObj r .pure) fun o=>match o with| .view a t=>Sem.pure (some (a,t))|_=>Sem.pure none)).runT p z es:=rfl
 rw[e0]
 simp only[Sem.bind,Sem.runT]
 cases hc:z.heap[r]? with
 |none=>simp only[World.shape?,hc,Option.isSome,Bool.false_eq_true,if_false,Sem.runT]
 |some y=>cases y<;>simp only[World.shape?,hc,Option.isSome,Bool.false_eq_true,if_false,if_true,Sem.runT]<;>rfl
theorem Qu5(r:Nat){s t:Sem β}(hs:SX T F G K V W s)(ht:S0 T F G K V W t):S0 T F G K V W (viewAt r>>= fun v=>if v.isSome then s else t):=by
 intro N H w w' es hr
 constructor
 rotate_left
 ·intro x w1 es1 h hN
  change(Sem.bind (viewAt r) _).runT _ w' es=_ at h
  rw[Sem.runT_bind',Qhg] at h
  split at h
  ·rename_i hh
   split at hh<;>first
    |(obtain⟨rfl,rfl,rfl⟩:=Xu hh
      first
      |exact(ht N H w w' _ hr).2 _ _ _ h hN
      |exact(hs N H w w' _ hr).2 _ _ _ h hN)
    |cases hh
  ·rename_i hh
   obtain⟨rfl,rfl,rfl⟩:=XO h
   split at hh<;>first
    |(obtain⟨rfl,rfl,rfl⟩:=XO hh;exact⟨trivial,hr.defer⟩)
    |cases hh
 intro x w1 es1 h hN
 change(Sem.bind (viewAt r) _).runT _ w' es=_ at h
 show True∧∃w2,(Sem.bind (viewAt r) _).runT _ w es=_∧_
 rw[Sem.runT_bind',Qhg] at h
 rw[Sem.runT_bind',Qhg]
 by_cases hW:W r
 ·obtain⟨c,e,h1,h2⟩:=hr.dead _ hW
  rw[h2] at h
  rw[h1]
  exact(ht N H w w' es hr).1 x w1 es1 h hN
 rcases hr.live _ hW with h1|⟨b,u,_,h1,h2⟩
 ·rw[←h1]
  cases hc:w'.heap[r]? with
  |none=>rw[hc] at h;cases h
  |some y=>
   have hlt:r<w'.heap.size:=(Array.getElem?_eq_some_iff.1 hc).1
   rw[hc] at h
   have fin: ∀b,t.runT ⟨T,G⟩ w' (es.push ⟨.obj r,false,b⟩)=(.ok x w1,es1)→True∧∃w2,t.runT ⟨T,F⟩ w (es.push ⟨.obj r,false,b⟩)=(.ok x w2,es1)∧Rel N H K V W w2 w1∧w'.heap.size≤w1.heap.size∧((∀e∈es,EvOK W w'.heap.size e)→∀e∈es1,EvOK W w1.heap.size e):=by
    intro b hb
    obtain⟨ra,w2,e1,r1,g1,v1⟩:=(ht N H w w' _ hr).1 x w1 es1 hb hN
    exact⟨ra,w2,e1,r1,g1,fun hes=>v1 (Qa0 (Nat.le_refl _) ⟨hW,hlt⟩ hes)⟩
   cases y with
   |cells c e f=>exact(ht N H w w' es hr).1 x w1 es1 h hN
   |view a u=>exact((hs N H w w' _ hr).1 _ _ _ h hN).1.elim
   |_=>exact fin _ h
 ·rw[h2] at h;exact((hs N H w w' _ hr).1 _ _ _ h hN).1.elim
theorem Qe1(t:TypeId)(x y:Value):S0 T F G K V W (Builtin.unsafeAdd_ #[] t #[x,y]):=by
 cases x<;>first
  |(refine(S0.stuck:_);done)
  |skip
 rename_i ptr
 refine S0.bind (ZA y) fun n=>?_
 dsimp only
 refine S0.ite ?_ ?_
 ·split
  ·refine Qu5 _ (SX.bind_left (SX.unsupported trivial)) ?_
   exact S0.pure
  ·exact S0.of_halts (SX.bind_left (SX.unsupported trivial))
 ·refine S0.ite (S0.of_halts (SX.bind_left (SX.unsupported trivial))) ?_
  split
  ·refine Qe6 _ S0.unsupported (fun e n=>?_) (fun e n=> .inr ?_)
   ·dsimp only
    refine S0.program ?_ ?_
    ·simp only[Qna (T:=T) (F:=F) (G:=G)]
     rfl
    split
    ·exact S0.pure
    ·exact S0.unsupported
   ·have hno: ∀(off:Nat) (b:Int),cellAtBytes ⟨T,G⟩ (Program.mk T G).depth e (0/ (Program.mk T G).cellsOf e) off b=none:=by
     intro off b
     unfold cellAtBytes
     simp only[Nat.zero_div,Nat.zero_mul,bind,Option.bind]
     repeat' split
     all_goals first|rfl|skip
     all_goals (simp_all;try omega)
    refine SX.program ?_
    rw[hno]
    exact SX.unsupported trivial
  ·exact S0.unsupported
theorem Qub(a:Addr)(l:Bool):S0 T F G K V W (asNumber a l):=S0.bind (Qcy _ ⟨fun _ _ x=>(by cases x),fun _ x=>(by cases x),fun _ x=>(by cases x),fun _ _ x=>(by cases x)⟩) fun _=>S0.pure
theorem QkW(t:TypeId)(x y:Value):S0 T F G K V W (movedNumber t x y):=by
 unfold movedNumber
 refine S0.bind (QP _) fun d=>?_
 dsimp only
 have h2:S0 T F G K V W (do
  let .pointer (some n):=x|Builtin.unsafeAdd_ #[] t #[x,y]
  let(a,lost)←behindNumber n
  match←Builtin.unsafeAdd_ #[] t #[.pointer (some a),y] with
  | .pointer (some b)=>asNumber b lost
  |v=>pure v):=by
  split
  ·refine S0.bind (QdU _) fun a=>S0.bind (Qe1 _ _ _) fun v=>?_
   split
   ·exact Qub _ _
   ·exact S0.pure
  ·exact Qe1 _ _ _
 split
 ·exact S0.of_halts (SX.bind_left (SX.unsupported trivial))
 ·exact h2
theorem QuP(t:TypeId)(x y:Value):S0 T F G K V W (movedPointer t x y):=by
 unfold movedPointer
 split
 ·refine S0.bind (QkY _) fun d=>?_
  split
  ·exact S0.of_halts (SX.bind_left (SX.unsupported trivial))
  ·exact Qe1 _ _ _
 ·exact Qe1 _ _ _
theorem Qk3(a b:Addr):S0 T F G K V W (Op.twoPlaces a b):=by
 unfold Op.twoPlaces
 have h2:S0 T F G K V W (do pure (←byteOf a,←byteOf b)):=S0.bind (Qcx _) fun _=>S0.bind (Qcx _) fun _=>S0.pure
 refine S0.program rfl ?_
 dsimp only
 split
 ·exact S0.of_halts (SX.bind_left (SX.unsupported trivial))
 ·exact h2
theorem Qt7(k:IntKind)(a b:Addr):S0 T F G K V W (Op.addrSub k a b):=S0.bind (Qk3 _ _) fun _=>S0.pure
theorem Qt5(op:BinOp)(a b:Addr):S0 T F G K V W (Op.addrCmp op a b):=by
 unfold Op.addrCmp
 refine S0.bind (Qk3 _ _) fun _=>?_
 dsimp only
 split<;>first|exact S0.pure|exact S0.unsupported
theorem Qt6(k:IntKind)(a:Addr)(n:Int):S0 T F G K V W (Op.addrMod k a n):=by
 unfold Op.addrMod
 refine Qe6 _ S0.unsupported (fun e m=>?_) (fun e m=> .inl fun z es=>rfl)
 refine S0.bind (Zj _) fun i=>?_
 dsimp only
 split
 ·exact S0.of_halts (SX.bind_left (SX.unsupported trivial))
 ·exact S0.bind (Qcx _) fun _=>S0.pure
theorem QkG(op:BinOp)(k:FloatKind)(x y:Nat):S0 T F G K V W (Op.floatArith op k x y):=by
 unfold Op.floatArith
 repeat' (first|(with_reducible first|exact S0.pure|exact S0.stuck|exact S0.unsupported|exact ZB _|exact Xx _ _ _ _|assumption|exact QP _|exact Zj _|exact Zl _|exact ZC _|exact Xl _|exact ZA _|exact ZL _|exact Xw _|exact ZF _|exact ZN _|exact Xa _|exact Zw _ _ _|exact Zq _|exact ZM _ _|exact Xb _ _|exact ZG _ _|exact Xm _ _ _|exact Z0 _|refine S0.bind ?_ fun _=>?_|refine S0.map ?_)|dsimp only|split)
theorem QkH(op:BinOp)(k:FloatKind)(x y:Nat):S0 T F G K V W (Op.floatCmp op k x y):=by
 unfold Op.floatCmp
 repeat' (first|(with_reducible first|exact S0.pure|exact S0.stuck|exact S0.unsupported|exact ZB _|exact Xx _ _ _ _|assumption|exact QP _|exact Zj _|exact Zl _|exact ZC _|exact Xl _|exact ZA _|exact ZL _|exact Xw _|exact ZF _|exact ZN _|exact Xa _|exact Zw _ _ _|exact Zq _|exact ZM _ _|exact Xb _ _|exact ZG _ _|exact Xm _ _ _|exact Z0 _|refine S0.bind ?_ fun _=>?_|refine S0.map ?_)|dsimp only|split)
end
end Go.Proofs.YtgaimkihacljdaaGreat
/- The simulation of an operation of the code, whichever it is of those that okOp lets by. (Round C) -/
namespace Go.Proofs.YtgaimkihacljdaaGreat
section
variable {T : Tables} {F G : Array Func} {N : Ctx} {H : Nat → Option Obj} {K : Code → Prop} {V : FuncId → Prop} {W : Nat → Prop} {α β : Type}
theorem Qua(op:BinOp)(k:FloatKind)(x y:Nat):S0 T F G K V W (Op.Complex.arith op k x y):=by
 unfold Op.Complex.arith
 refine S0.bind (QkG _ _ _ _) fun _=>?_
 split
 ·exact S0.pure
 ·exact S0.stuck
theorem Quk(op:BinOp)(k:FloatKind)(x y:Nat):S0 T F G K V W (Op.Complex.cmp op k x y):=S0.bind (QkH _ _ _ _) fun _=>ZL _
theorem Quv(s:FloatKind)(x:Nat)(d:FloatKind):S0 T F G K V W (Conv.floatToFloat s x d):=by
 unfold Conv.floatToFloat
 repeat' (first|(with_reducible first|exact S0.pure|exact S0.stuck|exact S0.unsupported|exact ZB _|exact Xx _ _ _ _|assumption|exact QP _|exact Zj _|exact Zl _|exact ZC _|exact Xl _|exact ZA _|exact ZL _|exact Xw _|exact ZF _|exact ZN _|exact Xa _|exact Zw _ _ _|exact Zq _|exact ZM _ _|exact Xb _ _|exact ZG _ _|exact Xm _ _ _|exact Z0 _|refine S0.bind ?_ fun _=>?_|refine S0.map ?_)|dsimp only|split)
theorem Qum(s:FloatKind)(x:Nat)(d:FloatKind):S0 T F G K V W (Op.Complex.conv s x d):=by
 unfold Op.Complex.conv
 refine S0.ite S0.pure (S0.bind (Quv _ _ _) fun _=>?_)
 split
 ·exact S0.pure
 ·exact S0.stuck
theorem Qul(op:BinOp)(k:FloatKind)(a b c d:Nat):S0 T F G K V W (Op.complexOp op k a b c d):=by
 have h1:= @Qua T F G K V W
 have h2:= @Quk T F G K V W
 have h3:= @Qum T F G K V W
 unfold Op.complexOp Op.Complex.product Op.Complex.quotient Op.Complex.corrected Op.Complex.add Op.Complex.sub Op.Complex.mul Op.Complex.quo
 split
 ·exact S0.bind (h1 _ _ _ _) fun _=>S0.bind (h1 _ _ _ _) fun _=>S0.pure
 ·exact S0.bind (h1 _ _ _ _) fun _=>S0.bind (h1 _ _ _ _) fun _=>S0.pure
 ·repeat' (first|(with_reducible first|exact S0.pure|exact h1 _ _ _ _|exact h2 _ _ _ _|exact h3 _ _ _|refine S0.bind ?_ fun _=>?_)|dsimp only|split)
 ·repeat' (first|(with_reducible first|exact S0.pure|exact h1 _ _ _ _|exact h2 _ _ _ _|exact h3 _ _ _|refine S0.bind ?_ fun _=>?_)|dsimp only|split)
 ·exact S0.bind (h2 _ _ _ _) fun _=>S0.bind (h2 _ _ _ _) fun _=>S0.pure
 ·exact S0.bind (h2 _ _ _ _) fun _=>S0.bind (h2 _ _ _ _) fun _=>S0.pure
 ·exact S0.stuck
theorem Qud(op:BinOp)(t:TypeId)(x y:Value):S0 T F G K V W (binOp op t x y):=by
 unfold binOp
 split
 all_goals first
  |(with_reducible first|exact S0.stuck|exact S0.unsupported|exact QuW _ _ _ _ _|exact Qe0 _ _ _|exact QkW _ _ _)
  |skip
 ·refine S0.ite S0.stuck ?_
  split<;>first|exact QkK _ _ _ _|exact QuC _ _ _ _|exact QkL _ _ _ _|exact QuB _ _ _
 ·refine S0.ite S0.stuck ?_
  split<;>first|exact QkG _ _ _ _|exact QkH _ _ _ _
 ·exact S0.ite S0.stuck (Qul _ _ _ _ _ _)
 ·exact S0.bind (QgP _ _ _) fun _=>S0.pure
 ·exact S0.bind (QgP _ _ _) fun _=>S0.pure
 all_goals first
  |(refine S0.bind (QdU _) fun _=>?_;first|exact Qt6 _ _ _|(refine S0.bind (QdU _) fun _=>?_;first|exact Qt7 _ _ _|exact Qt5 _ _ _))
  |(refine S0.bind (QP _) fun _=>?_;split<;>first|exact QuP _ _ _|exact QkW _ _ _)
theorem QkN(x:Value):S0 T F G K V W (Builtin.lenOf x):=by
 unfold Builtin.lenOf
 split<;>first|exact S0.pure|exact S0.stuck
theorem QkF(a b:Nat)(x:Value):S0 T F G K V W (Builtin.firstCells a b x):=by
 unfold Builtin.firstCells
 split<;>first|exact QkP _ _|exact S0.pure|exact S0.stuck
def RO{α:Type}(s:Sem α):Prop:=∀p w es,∃b,s.runT p w es=(.ok b w,es)
theorem RO.pure{a:α}:RO (Pure.pure a:Sem α):=fun _ _ _=>⟨a,rfl⟩
theorem RO.bind{s:Sem α}{f:α→Sem β}(h:RO s)(hf: ∀a,RO (f a)):RO (s>>= f):=by
 intro p w es
 obtain⟨a,e1⟩:=h p w es
 obtain⟨b,e2⟩:=hf a p w es
 refine⟨b,?_⟩
 change(s.bind f).runT p w es=_
 rw[Sem.runT_bind',e1]
 exact e2
theorem RO.shape(r:Nat):RO (shape r):=fun _ _ _=>⟨_,rfl⟩
theorem RO.frozen(a:Addr):RO (frozen a):=fun _ _ _=>⟨_,rfl⟩
theorem RO.holds(a:Addr)(n:Nat):RO (Builtin.holdsCells a n):=by
 unfold Builtin.holdsCells
 refine RO.bind (RO.shape _) fun s=>?_
 split<;>exact RO.pure
theorem RO.mayShare(a b c:Nat)(d:Option Addr)(x:Value):RO (Builtin.mayShare a b c d x):=by
 unfold Builtin.mayShare
 repeat' (first|(with_reducible first|exact RO.pure|exact RO.holds _ _|exact RO.frozen _|refine RO.bind ?_ fun _=>?_)|dsimp only|split)
theorem SX.bindRO{s:Sem α}{f:α→Sem β}(h:RO s)(hf: ∀a,SX T F G K V W (f a)):SX T F G K V W (s>>= f):=by
 intro N H w w' es hr
 obtain⟨b,e⟩:=h ⟨T,G⟩ w' es
 have e2:(s>>= f).runT ⟨T,G⟩ w' es=(f b).runT ⟨T,G⟩ w' es:=by
  change(s.bind f).runT _ w' es=_
  rw[Sem.runT_bind',e]
 exact⟨fun a w1 es1 h hN=>(((hf b N H w w' es hr).1 a w1 es1 (e2 ▸ h) hN).1).elim,fun a w1 es1 h hN=>(hf b N H w w' es hr).2 a w1 es1 (e2 ▸ h) hN⟩
theorem Qt9(ts:Array TypeId)(t:TypeId)(args:Array Value):S0 T F G K V W (Builtin.append_ ts t args):=by
 have hf:= @QkF T F G K V W
 unfold Builtin.append_
 split
 ·refine S0.bind (QP _) fun d=>?_
  split
  ·split
   ·refine S0.bind (Zl _) fun size=>?_
    extract_lets js jz
    have hz: ∀z,S0 T F G K V W (jz z):=by
     intro zeros
     simp -zeta only[jz]
     extract_lets+onlyGivenNames jn
     have hn: ∀n,S0 T F G K V W (jn n):=by
      intro n
      simp only[jn]
      have happ: ∀x e,S0 T F G K V W (if(!zeros)=true then Builtin.firstCells size n x else if n*size=0 then pure #[] else do pure (Builtin.zeroCells (←zeroValue e).cells n)):=fun x e=>
       S0.ite (hf _ _ _) (S0.ite S0.pure (S0.bind (ZC _) fun _=>S0.pure))
      refine S0.ite ?_ ?_
      ·refine S0.bind (happ _ _) fun new=>?_
       split
       ·exact S0.bind (QeZ _ _ _) fun _=>S0.pure
       ·exact S0.pure
      ·refine S0.bind (Zj _) fun i=>?_
       refine S0.ite (S0.of_halts (SX.bind_left (ZT _))) ?_
       refine S0.bind (Zj _) fun i=>?_
       refine S0.ite (S0.of_halts (SX.bind_left ?_)) ?_
       ·split
        ·exact ZT _
        ·refine SX.bindRO (RO.mayShare _ _ _ _ _) fun b=>?_
         split
         ·exact SX.bind Qlf fun _=>(SX.unsupported trivial)
         ·exact(SX.unsupported trivial)
       ·exact S0.bind (Zq _) fun _=>S0.bind (Zj _) fun _=>S0.bind (Z0 _) fun _=>S0.bind (hf _ _ _) fun _=>S0.bind (happ _ _) fun _=>S0.bind (ZC _) fun _=>S0.bind (ZM _ _) fun _=>S0.pure
     clear_value jn
     refine S0.ite ?_ (S0.bind (QkN _) hn)
     refine S0.bind (ZA _) fun l=>?_
     dsimp only
     refine S0.ite (S0.of_halts (SX.bind_left (ZT _))) ?_
     refine S0.bind (Zj _) fun i=>?_
     exact S0.ite (S0.of_halts (SX.bind (Zq _) fun _=>SX.bind_left (ZT _))) (S0.bind S0.pure hn)
    clear_value jz
    split
    ·exact S0.bind (QP _) fun _=>S0.bind S0.pure hz
    ·exact S0.bind S0.pure hz
   ·exact S0.stuck
  ·exact S0.stuck
 ·exact S0.stuck
theorem QuE(ts:Array TypeId)(t:TypeId)(args:Array Value):S0 T F G K V W (Builtin.len_ ts t args):=by
 unfold Builtin.len_
 split
 ·refine S0.bind (QP _) fun d=>?_
  split
  all_goals first
   |(with_reducible first|exact S0.pure|exact S0.stuck)
   |(refine S0.bind (QP _) fun d=>?_;split<;>first|exact S0.pure|exact S0.stuck)
   |(refine QbL _ (fun o _=>?_) (fun a u=>?_)
     ·split<;>first|exact S0.pure|exact S0.stuck
     ·exact SX.stuck)
 ·exact S0.stuck
theorem Qui(ts:Array TypeId)(t:TypeId)(args:Array Value):S0 T F G K V W (Builtin.cap_ ts t args):=by
 unfold Builtin.cap_
 split
 ·refine S0.bind (QP _) fun d=>?_
  split
  all_goals first
   |(with_reducible first|exact S0.pure|exact S0.stuck)
   |(refine S0.bind (QP _) fun d=>?_;split<;>first|exact S0.pure|exact S0.stuck)
   |(refine QbL _ (fun o _=>?_) (fun a u=>?_)
     ·split<;>first|exact S0.pure|exact S0.stuck
     ·exact SX.stuck)
 ·exact S0.stuck
theorem QuM(x y:Value):S0 T F G K V W (Builtin.max2 x y):=by
 have:= @Qe0 T F G K V W
 unfold Builtin.max2
 repeat' (first|(with_reducible first|exact S0.pure|exact S0.stuck|exact S0.unsupported|exact Zq _|exact ZL _|exact Qe0 _ _ _|refine S0.bind ?_ fun _=>?_)|dsimp only|split)
theorem QuO(x y:Value):S0 T F G K V W (Builtin.min2 x y):=by
 unfold Builtin.min2
 repeat' (first|(with_reducible first|exact S0.pure|exact S0.stuck|exact S0.unsupported|exact Zq _|exact ZL _|exact Qe0 _ _ _|refine S0.bind ?_ fun _=>?_)|dsimp only|split)
theorem QuL(ts:Array TypeId)(t:TypeId)(args:Array Value):S0 T F G K V W (Builtin.max_ ts t args):=by
 unfold Builtin.max_
 split
 ·exact S0.stuck
 ·exact QgQ QuM _ _
theorem QuN(ts:Array TypeId)(t:TypeId)(args:Array Value):S0 T F G K V W (Builtin.min_ ts t args):=by
 unfold Builtin.min_
 split
 ·exact S0.stuck
 ·exact QgQ QuO _ _
theorem Quo(ts:Array TypeId)(t:TypeId)(args:Array Value):S0 T F G K V W (Builtin.copy_ ts t args):=by
 have hf:= @QkF T F G K V W
 unfold Builtin.copy_
 repeat' (first|(with_reducible first|exact S0.pure|exact S0.stuck|exact QP _|exact Zl _|exact QeZ _ _ _|exact QkN _|exact hf _ _ _|refine S0.bind ?_ fun _=>?_)|dsimp only|split)
theorem QfD(a:Nat)(b:Array Value)(c:Bool)(d e:Nat)(f:Bool):XY K V (.chan a b c d e f):=⟨fun _ _ x=>(by cases x),fun _ x=>(by cases x),fun _ x=>(by cases x),fun _ _ x=>(by cases x)⟩
theorem QeM(a:Array MapEntry)(b:Nat):XY K V (.map a b):=⟨fun _ _ x=>(by cases x),fun _ x=>(by cases x),fun _ x=>(by cases x),fun _ _ x=>(by cases x)⟩
theorem QuH(t:TypeId)(s:Value):S0 T F G K V W (Instr.makeChan t s):=by
 unfold Instr.makeChan
 repeat' (first|(with_reducible first|exact S0.pure|exact S0.stuck|exact QP _|exact ZA _|exact Zj _|exact ZB _|exact Qcy _ (QfD _ _ _ _ _ _)|exact Qcy _ (QeM _ _)|refine S0.bind ?_ fun _=>?_)|dsimp only|split)
theorem QuJ(t:TypeId)(s:Option Value):S0 T F G K V W (Instr.makeMap t s):=by
 unfold Instr.makeMap
 repeat' (first|(with_reducible first|exact S0.pure|exact S0.stuck|exact QP _|exact ZA _|exact Qcy _ (QfD _ _ _ _ _ _)|exact Qcy _ (QeM _ _)|refine S0.bind ?_ fun _=>?_)|dsimp only|split)
theorem QgW(r:Nat)(o:Obj)(ho:XY K V o):S0 T F G K V W (setObj r o):=QdY r o ho
theorem Quj(ts:Array TypeId)(t:TypeId)(args:Array Value):S0 T F G K V W (Builtin.close_ ts t args):=by
 obtain⟨l⟩:=args
 have hs:S0 T F G K V W (Go.stuck "close: one channel expected" :Sem Value):=S0.stuck
 match l with
 |[]=>exact hs
 |_ :: _ :: _=>exact hs
 |[x]=>
  cases x<;>first|exact hs|skip
  rename_i r
  cases r with
  |none=>exact(ZB (.plain "close of nil channel"):S0 T F G K V W (runtimePanic (.plain "close of nil channel"):Sem Value))
  |some r=>
   refine QbL r (fun o _=>?_) (fun a u=>SX.stuck)
   split
   ·refine S0.ite (S0.of_halts (SX.bind_left (ZT _))) ?_
    exact S0.bind (QgW _ _ (QfD _ _ _ _ _ _)) fun _=>S0.pure
   ·exact S0.stuck
theorem QgX: ∀(b:Bool) (n:Nat) (t:TypeId) (v:Value),S0 T F G K V W (Instr.checkKey b n t v)
 |_,0,_,_=>S0.unsupported
 |b,n+1,t,v=>by
  have ih:=QgX b n
  unfold Instr.checkKey
  refine S0.bind (QP _) fun d=>?_
  split
  ·refine S0.bind (Zj _) fun i=>?_
   dsimp only
   refine S0.ite (S0.of_halts ?_) (ih _ _)
   split
   ·exact SX.bind_left (ZT _)
   ·exact SX.bind (Qk4 _) fun _=>SX.bind_left (ZT _)
  ·refine S0.bind (QgU (fun f s=>?_) _ _) fun r=>S0.pure
   exact S0.bind (Zl _) fun _=>S0.bind (Zw _ _ _) fun _=>S0.bind (ih _ _) fun _=>S0.pure
  ·refine S0.bind (QgT (fun f s=>?_) _ _) fun r=>S0.pure
   split
   ·exact S0.bind (Zw _ _ _) fun _=>S0.bind (ih _ _) fun _=>S0.pure
   ·exact S0.pure
  ·exact S0.pure
  all_goals first|exact S0.stuck|exact S0.pure
theorem QkD(t:TypeId)(k:Value): ∀(l:List MapEntry) (i:Nat),S0 T F G K V W (Instr.findAsking t k l i)
 |[],_=>S0.pure
 |_ :: l,i=>S0.bind (QgP _ _ _) fun _=>S0.ite S0.pure (QkD t k l (i+1))
theorem QkE(t:TypeId)(k:Value)(l:List MapEntry):S0 T F G K V W (Instr.findKey t k l):=by
 unfold Instr.findKey
 refine S0.bind (QP _) fun d=>?_
 split
 ·exact S0.pure
 ·exact QkD _ _ _ _
theorem QuG(t:TypeId)(x i:Value)(b:Bool):S0 T F G K V W (Instr.lookup t x i b):=by
 unfold Instr.lookup
 refine S0.bind (QP _) fun d=>?_
 split
 ·extract_lets jq jp
  have hrest: ∀es,S0 T F G K V W (jp es):=fun es=>by
   simp only[jp]
   refine S0.bind (QgX _ _ _ _) fun _=>S0.bind (QkE _ _ _) fun r=>?_
   split
   ·exact S0.bind S0.pure fun _=>S0.pure
   ·exact S0.bind (ZC _) fun _=>S0.bind S0.pure fun _=>S0.pure
  clear_value jp
  split
  ·exact S0.bind S0.pure hrest
  ·refine QbL _ (fun o _=>?_) (fun a u=>SX.bind_left SX.stuck)
   split
   ·exact S0.bind S0.pure hrest
   ·exact S0.of_halts (SX.bind_left SX.stuck)
  ·exact S0.of_halts (SX.bind_left SX.stuck)
 ·exact S0.stuck
theorem QuD(a b:Value):S0 T F G K V W (Instr.keyThatStays a b):=S0.ite S0.pure (S0.bind (Zq _) fun _=>S0.pure)
theorem QkT(t:TypeId)(m k v:Value):S0 T F G K V W (Instr.mapUpdate t m k v):=by
 unfold Instr.mapUpdate
 refine S0.bind (QP _) fun d=>?_
 split
 ·split
  ·exact ZB _
  ·refine QbL _ (fun o _=>?_) (fun a u=>SX.stuck)
   split
   ·refine S0.bind (QgX _ _ _ _) fun _=>S0.bind (QkE _ _ _) fun r=>?_
    split
    ·exact S0.bind (QuD _ _) fun _=>QgW _ _ (QeM _ _)
    ·exact QgW _ _ (QeM _ _)
   ·exact S0.stuck
  ·exact S0.stuck
 ·exact S0.stuck
theorem QuS(t:TypeId)(x:Value):S0 T F G K V W (Instr.range t x):=by
 unfold Instr.range
 refine S0.bind (QP _) fun d=>?_
 extract_lets jp
 have hn: ∀o:Obj,XY K V o→S0 T F G K V W (jp o):=fun o ho=>S0.bind (Qcy o ho) fun _=>S0.pure
 clear_value jp
 have hm: ∀a b c d,XY K V (.mapIter a b c d):=fun _ _ _ _=>⟨fun _ _ x=>(by cases x),fun _ x=>(by cases x),fun _ x=>(by cases x),fun _ _ x=>(by cases x)⟩
 split
 ·exact Sim.bind (R:=fun o=>XY K V o) (Sim.pure ⟨fun _ _ x=>(by cases x),fun _ x=>(by cases x),fun _ x=>(by cases x),fun _ _ x=>(by cases x)⟩) hn
 ·exact Sim.bind (R:=fun o=>XY K V o) (Sim.pure (hm _ _ _ _)) hn
 ·refine QbL _ (fun o _=>?_) (fun a u=>SX.bind_left SX.stuck)
  split
  ·exact Sim.bind (R:=fun o=>XY K V o) (Sim.pure (hm _ _ _ _)) hn
  ·exact S0.of_halts (SX.bind_left SX.stuck)
 ·exact S0.of_halts (SX.bind_left SX.stuck)
end
end Go.Proofs.YtgaimkihacljdaaGreat
/- The simulation of calls, of loops over functions, and of a whole operation. (Round C) -/
namespace Go.Proofs.YtgaimkihacljdaaGreat
section
variable {T : Tables} {F G : Array Func} {N : Ctx} {H : Nat → Option Obj} {K : Code → Prop} {V : FuncId → Prop} {W : Nat → Prop} {α β : Type}
theorem Qu6(t:TypeId)(x:Value)(s m:ByteArray):S0 T F G K V W (Builtin.ssaWrapNilChk_ #[t] t #[x,.string s,.string m]):=by
 have hs:S0 T F G K V W (Go.stuck "ssa:wrapnilchk: pointer expected" :Sem Value):=S0.stuck
 cases x<;>first|exact hs|skip
 rename_i a
 cases a with
 |some a=>exact(S0.pure:S0 T F G K V W (Pure.pure (.pointer (some a)):Sem Value))
 |none=>
  refine S0.of_halts (SX.bind (Zq _) fun c=>?_)
  dsimp only
  split
  ·exact SX.bind_left (ZT _)
  ·refine SX.bind (QP _) fun d=>?_
   split
   ·refine SX.bind (Zj _) fun i=>?_
    split
    ·split
     ·split
      ·exact ZT _
      ·exact SX.unsupported trivial
     ·exact SX.stuck
    ·exact SX.stuck
   ·exact SX.stuck
theorem QdW(t:TypeId)(x:Place):S0 T F G K V W (x.get t):=by
 cases x
 ·exact S0.pure
 ·exact ZG _ _
theorem QgR: ∀(l:List FieldStep) (t:TypeId) (x:Place),S0 T F G K V W (follow l t x)
 |[],_,_=>S0.pure
 |s :: l,t,x=>by
  have ih:=QgR l
  unfold follow
  refine S0.bind (QP _) fun d=>?_
  split
  ·split
   ·refine S0.ite ?_ ?_
    ·exact S0.bind (QdW _ _) fun _=>S0.bind (ZF _) fun _=>S0.bind (QeY _ _) fun _=>ih _ _
    ·split
     ·exact S0.bind (QeY _ _) fun _=>ih _ _
     ·exact S0.bind (Zw _ _ _) fun _=>ih _ _
     ·exact S0.stuck
   ·exact S0.stuck
  ·exact S0.stuck
theorem QkZ(t:TypeId)(x:Place)(b:Bool)(n:Option String):S0 T F G K V W (receiverAt t x b n):=by
 unfold receiverAt
 refine S0.bind (QP _) fun d=>?_
 split
 ·exact QdW _ _
 ·refine S0.bind (QdW _ _) fun p=>?_
  dsimp only
  split
  ·exact S0.bind (Qu6 _ _ _ _) fun _=>S0.bind (ZF _) fun _=>ZG _ _
  ·exact S0.bind S0.pure fun _=>S0.bind (ZF _) fun _=>ZG _ _
 ·exact S0.pure
 ·exact S0.stuck
 ·exact QdW _ _
theorem QuT(t:TypeId)(v:Value)(p:Array FieldStep)(b:Bool):S0 T F G K V W (receiverVia t v p b):=S0.bind (QgR _ _ _) fun _=>QkZ _ _ _ _
theorem QkV: ∀(n:Nat) (t:TypeId) (v:Value) (m:String),S0 T F G K V W (method n t v m)
 |0,_,_,_=>S0.unsupported
 |n+1,t,v,m=>by
  have ih:=QkV n
  unfold method
  refine S0.bind (Zj _) fun i=>?_
  split
  ·refine S0.bind (QgR _ _ _) fun p=>?_
   dsimp only
   split
   ·refine S0.bind (QdW _ _) fun w=>?_
    split
    ·exact ih _ _ _
    ·exact ZB _
    ·exact S0.stuck
   ·exact S0.bind (QkZ _ _ _ _) fun _=>S0.pure
  ·exact S0.stuck
/-! ### loops over functions -/
def S1(T:Tables)(F G:Array Func)(K:Code→Prop)(V:FuncId→Prop)(W:Nat→Prop){α:Type}(R:α→Prop)(s:Sem α):Prop:=Sim ⟨T,F⟩ ⟨T,G⟩ K V W R s
theorem QdV(l:Nat):S1 T F G K V W (Qdo K V) (Instr.getLoop l):=by
 unfold Instr.getLoop
 refine QbL _ (fun o ho=>?_) (fun a u=>SX.stuck)
 split
 ·exact Sim.pure (ho.2.1 _ rfl)
 ·exact Sim.halt trivial
theorem QeK{l:Loop}(h:Qdo K V l):XY K V (.loop l):=⟨fun _ _ x=>(by cases x),fun _ x=>(by cases x;exact h),fun _ x=>(by cases x),fun _ _ x=>(by cases x)⟩
def Qea(K:Code→Prop)(V:FuncId→Prop):Next→Prop
 | .value _| .skip| .enter _ _=>True
 | .comm cases b _=>(∃c,cases= #[c])∧b=true
 | .round _ f _ a b=>K a∧K b∧V f
 |_=>False
theorem Qu7(l:Nat)(args:Array Value):S1 T F G K V W (Qea K V) (Instr.yield l args):=by
 unfold Instr.yield
 refine Sim.bind (QdV l) fun r hr=>?_
 dsimp only
 split
 ·exact Sim.never (SX.bind_left SX.stuck)
 ·exact Sim.pure ⟨hr.1,hr.2.1,hr.2.2.2⟩
def Qbh(x:Deferred):Prop:=∃r,x.target= .collected r
theorem Qus(fn:FuncId)(tmps:Array Value)(params:Array Tmp)(assign body:Code)(around:Option Nat)(ha:K assign)(hb:K body)(hf:V fn):
 S1 T F G K V W (fun r=>∀x∈r.2,Qbh x) (Instr.enterLoop fn tmps params assign body around):=by
 unfold Instr.enterLoop
 extract_lets jp
 have hj: ∀p:Nat×List Deferred,(∀x∈p.2,Qbh x)→S1 T F G K V W (fun r=>∀x∈r.2,Qbh x) (jp p):=by
  rintro⟨a,b⟩ hp
  exact Sim.bind (Qg1 _ (QeK ⟨ha,hb,fun c hc=>(by cases hc),hf⟩)) fun _ _=>Sim.pure hp
 clear_value jp
 split
 ·exact Sim.bind (QdV _) fun r _=>Sim.bind (R:=fun p:Nat×List Deferred=>∀x∈p.2,Qbh x) (Sim.pure (by simp)) fun p hp=>hj p hp
 ·refine Sim.bind (Qg1 _ ⟨fun _ _ x=>(by cases x),fun _ x=>(by cases x),fun _ x=>(by cases x;rfl),fun _ _ x=>(by cases x)⟩) fun r _=>?_
  exact Sim.bind (R:=fun p:Nat×List Deferred=>∀x∈p.2,Qbh x) (Sim.pure (by intro x hx;simp only[List.mem_singleton] at hx;subst hx;exact⟨_,rfl⟩)) fun p hp=>hj p hp
theorem Qu2(b:Nat):S1 T F G K V W (fun l=>l= []) (Instr.takeDeferred b):=by
 unfold Instr.takeDeferred
 refine QbL _ (fun o ho=>?_) (fun a u=>SX.stuck)
 split
 ·have:=ho.2.2.1 _ rfl
  exact Sim.bind (QdY _ _ ⟨fun _ _ x=>(by cases x),fun _ x=>(by cases x),fun _ x=>(by cases x),fun _ _ x=>(by cases x)⟩) fun _ _=>Sim.pure this
 ·exact Sim.never SX.stuck
theorem QuU(fn:Func)(tmps:Array Value):S0 T F G K V W (results fn tmps):=by
 unfold results
 refine S0.bind (QkS (fun x=>?_) _) fun vs=>S0.pure
 split
 ·exact S0.pure
 ·exact S0.bind (ZF _) fun _=>ZG _ _
theorem Quc(l:Nat):S0 T F G K V W (Instr.beginRound l):=by
 unfold Instr.beginRound
 refine Sim.bind (QdV l) fun r hr=>Sim.bind (QdY _ _ (QeK ⟨hr.1,hr.2.1,hr.2.2.1,hr.2.2.2⟩)) fun _ _=>?_
 split
 ·exact S0.pure
 all_goals exact ZB _
theorem Qur(l:Nat)(j:Option Code)(hj: ∀c,j=some c→K c):S0 T F G K V W (Instr.endRound l j):=by
 unfold Instr.endRound
 exact Sim.bind (QdV l) fun r hr=>Sim.bind (QdY _ _ (QeK ⟨hr.1,hr.2.1,hj,hr.2.2.2⟩)) fun _ _=>S0.pure
theorem Quq(l:Nat):S1 T F G K V W (fun j=>∀c,j=some c→K c) (Instr.endLoop l):=by
 unfold Instr.endLoop
 refine Sim.bind (QdV l) fun r hr=>?_
 dsimp only
 split
 ·exact Sim.never (SX.bind_left (ZT _))
 ·exact Sim.bind (QdY _ _ (QeK ⟨hr.1,hr.2.1,hr.2.2.1,hr.2.2.2⟩)) fun _ _=>Sim.pure hr.2.2.1
/-! ### calls -/
def Tab{α:Type}(s:Sem α):Prop:=∀(T:Tables) (F G:Array Func) (w w':World) (es es':Array Event),(∃a,s.runT ⟨T,F⟩ w es=(.ok a w,es)∧s.runT ⟨T,G⟩ w' es'=(.ok a w',es'))∨
 ∃h,JU h∧s.runT ⟨T,F⟩ w es=(.halt h w,es)∧s.runT ⟨T,G⟩ w' es'=(.halt h w',es')
theorem Tab.pure{a:α}:Tab (Pure.pure a:Sem α):=fun _ _ _ _ _ _ _=> .inl ⟨a,rfl,rfl⟩
theorem Tab.stuck{m:String}:Tab (Go.stuck m:Sem α):=fun _ _ _ _ _ _ _=> .inr ⟨.stuck m,trivial,rfl,rfl⟩
theorem Tab.noEntry{m:String}:Tab (unsupported (.noEntry m):Sem α):=fun _ _ _ _ _ _ _=> .inr ⟨.unsupported (.noEntry m),trivial,rfl,rfl⟩
theorem Tab.bind{β:Type}{s:Sem α}{f:α→Sem β}(h:Tab s)(hf: ∀a,Tab (f a)):Tab (s>>= f):=by
 intro T F G w w' es es'
 have e1:(s>>= f).runT ⟨T,F⟩ w es=(s.bind f).runT ⟨T,F⟩ w es:=rfl
 have e2:(s>>= f).runT ⟨T,G⟩ w' es'=(s.bind f).runT ⟨T,G⟩ w' es':=rfl
 rw[e1,e2,Sem.runT_bind',Sem.runT_bind']
 rcases h T F G w w' es es' with⟨a,h1,h2⟩|⟨x,h0,h1,h2⟩
 ·rw[h1,h2]
  exact hf a T F G w w' es es'
 ·rw[h1,h2]
  exact .inr ⟨x,h0,rfl,rfl⟩
theorem Tab.program{f:Program→Sem α}(hfg: ∀(T:Tables) (F G:Array Func),f ⟨T,F⟩=f ⟨T,G⟩)(h: ∀p,Tab (f p)):Tab (Go.program>>= f):=by
 intro T F G w w' es es'
 have e1:(Go.program>>= f).runT ⟨T,F⟩ w es=(f ⟨T,F⟩).runT ⟨T,F⟩ w es:=rfl
 have e2:(Go.program>>= f).runT ⟨T,G⟩ w' es'=(f ⟨T,G⟩).runT ⟨T,G⟩ w' es':=rfl
 rw[e1,e2,←hfg T F G]
 exact h _ T F G w w' es es'
def Qd9(fn:Func):Prop:=fn.body=none∧(fn.name == "runtime.NumGoroutine")=false∧Extern.findNext fn=none∧∃e,Extern.find fn=some e∧∀args,Tab (e args)
structure Twin(F G:Array Func)(d:FuncId):Prop where
 size:G.size=F.size
 bodies: ∀(f:FuncId) fn,G[f]? =some fn→(fn.body.isSome=true∧(fn.name == "runtime.NumGoroutine")=false)∨(Qd9 fn∧G[f]? =F[f]?)
 same: ∀f:FuncId,f≠d→G[f]? =F[f]?∨∃fn why,G[f]? =some fn∧fn.body=some (.refuse why)
 atd: ∀g,G[d]? =some g→∃fn,F[d]? =some fn∧fn.body.isSome=true∧(fn.name == "runtime.NumGoroutine")=false
 quiet: ∀f:FuncId,(F[f]?).any (·.norace)=(G[f]?).any (·.norace)
def Qhk(G:Array Func):Next→Prop
 | .enter f _=>∃fn why,G[f]? =some fn∧fn.body=some (.refuse why)
 |_=>False
def SimN(T:Tables)(F G:Array Func)(K:Code→Prop)(V:FuncId→Prop)(W:Nat→Prop)(s:Sem Next):Prop:=
 ∀N H w w' es,Rel N H K V W w w'→(∀a w1' es1,s.runT ⟨T,G⟩ w' es=(.ok a w1',es1)→w1'.drawn≤N.n→Qhk G a∨
  (Qea K V a∧∃w1,s.runT ⟨T,F⟩ w es=(.ok a w1,es1)∧Rel N H K V W w1 w1'∧w'.heap.size≤w1'.heap.size∧((∀e∈es,EvOK W w'.heap.size e)→∀e∈es1,EvOK W w1'.heap.size e)))∧
  ∀h w1' es1,s.runT ⟨T,G⟩ w' es=(.halt h w1',es1)→w1'.drawn≤N.n→JU h∧QcK w1'
theorem SimN.of{s:Sem Next}(h:S1 T F G K V W (Qea K V) s):SimN T F G K V W s:=fun N H w w' es hr=>⟨fun a w1' es1 e hN=> .inr ((h N H w w' es hr).1 a w1' es1 e hN),(h N H w w' es hr).2⟩
theorem SimN.bind1{s:Sem α}{f:α→Sem Next}{R:α→Prop}(h:S1 T F G K V W R s)(hf: ∀a,R a→SimN T F G K V W (f a)):SimN T F G K V W (s>>= f):=by
 intro N H w w' es hr
 constructor
 ·intro b w2' es2 h2 hN
  change(s.bind f).runT ⟨T,G⟩ w' es=_ at h2
  rw[Sem.runT_bind'] at h2
  match h1:s.runT ⟨T,G⟩ w' es,h2 with
  |(.ok a w1',es1),h2=>
   obtain⟨ra,w1,e1,r1,g1,v1⟩:=(h _ _ _ _ _ hr).1 _ _ _ h1 (Nat.le_trans (Qkt h2) hN)
   rcases(hf a ra _ _ _ _ _ r1).1 _ _ _ h2 hN with hx|⟨rb,w2,e2,r2,g2,v2⟩
   ·exact .inl hx
   refine .inr ⟨rb,w2,?_,r2,Nat.le_trans g1 g2,fun h=>v2 (v1 h)⟩
   change(s.bind f).runT ⟨T,F⟩ w es=_
   rw[Sem.runT_bind',e1]
   exact e2
  |(.halt _ _,_),h2=>cases h2
 ·intro e w2' es2 h2 hN
  change(s.bind f).runT ⟨T,G⟩ w' es=_ at h2
  rw[Sem.runT_bind'] at h2
  match h1:s.runT ⟨T,G⟩ w' es,h2 with
  |(.ok a w1',es1),h2=>
   obtain⟨ra,w1,e1,r1,g1,v1⟩:=(h _ _ _ _ _ hr).1 _ _ _ h1 (Nat.le_trans (Qks h2) hN)
   exact(hf a ra _ _ _ _ _ r1).2 _ _ _ h2 hN
  |(.halt _ _,_),h2=>
   obtain⟨rfl,rfl,rfl⟩:=XO h2
   exact(h _ _ _ _ _ hr).2 _ _ _ h1 hN
theorem SimN.bind{s:Sem α}{f:α→Sem Next}(h:S0 T F G K V W s)(hf: ∀a,SimN T F G K V W (f a)):SimN T F G K V W (s>>= f):=SimN.bind1 h fun a _=>hf a
theorem SimN.of_halts{s:Sem Next}(h:SX T F G K V W s):SimN T F G K V W s:= .of (Sim.never h)
theorem SimN.value{s:Sem Value}(h:S0 T F G K V W s):SimN T F G K V W (do pure (.value (←s))):= .of (Sim.bind h fun _ _=>Sim.pure trivial)
theorem SimN.unit{s:Sem Unit}(h:S0 T F G K V W s):SimN T F G K V W (do s;pure .skip):= .of (Sim.bind h fun _ _=>Sim.pure trivial)
theorem SimN.pure{n:Next}(h:Qea K V n):SimN T F G K V W (Pure.pure n):= .of (Sim.pure h)
variable {d : FuncId}
theorem Qdr{p:Program}{f:FuncId}{fn:Func}{args:Array Value}(h:p.funcs[f]? =some fn)(hb:fn.body.isSome=true)(hn:(fn.name == "runtime.NumGoroutine")=false)(w:World)(es:Array Event):
 (callFunc f args).runT p w es=(.ok (.enter f args) w,es):=by
 have hb':fn.body.isNone=false:=by cases h1:fn.body<;>simp_all
 show((match p.funcs[f]? with|none=>_|some fn=>_:Sem Next)).runT p w es=_
 rw[h]
 simp only[hn,hb',Bool.false_eq_true,if_false]
 rfl
theorem QhD{p:Program}{f:FuncId}{args:Array Value}(h:p.funcs[f]? =none)(w:World)(es:Array Event):(callFunc f args).runT p w es=(.halt (.stuck "call: no such function") w,es):=by
 show((match p.funcs[f]? with|none=>_|some fn=>_:Sem Next)).runT p w es=_
 rw[h]
 rfl
theorem QoR{fn:Func}{f:FuncId}(hE:Qd9 fn)(hF:F[f]? =some fn)(hG:G[f]? =some fn)(args:Array Value)(w w':World)(es es':Array Event):
 (∃v,(callFunc f args).runT ⟨T,F⟩ w es=(.ok (.value v) w,es.push ⟨.mark (.extern f),false,true⟩)∧(callFunc f args).runT ⟨T,G⟩ w' es'=(.ok (.value v) w',es'.push ⟨.mark (.extern f),false,true⟩))∨
 ∃h,JU h∧(callFunc f args).runT ⟨T,F⟩ w es=(.halt h w,es.push ⟨.mark (.extern f),false,true⟩)∧(callFunc f args).runT ⟨T,G⟩ w' es'=(.halt h w',es'.push ⟨.mark (.extern f),false,true⟩):=by
 obtain⟨hb,hn,hx,e,he,ht⟩:=hE
 have key: ∀(p:Program) (w:World) (es:Array Event),p.funcs[f]? =some fn→(callFunc f args).runT p w es=((e args).bind fun v=>Sem.pure (Next.value v)).runT p w (es.push ⟨.mark (.extern f),false,true⟩):=by
  intro p w es hp
  show((match p.funcs[f]? with|none=>_|some fn=>_:Sem Next)).runT p w es=_
  rw[hp]
  simp only[hn,hb,Option.isNone_none,Bool.false_eq_true,if_false,if_true,hx,he]
  rfl
 rw[key ⟨T,F⟩ w es hF,key ⟨T,G⟩ w' es' hG,Sem.runT_bind',Sem.runT_bind']
 rcases ht args T F G w w' (es.push ⟨.mark (.extern f),false,true⟩) (es'.push ⟨.mark (.extern f),false,true⟩) with⟨a,h1,h2⟩|⟨x,h0,h1,h2⟩
 ·rw[h1,h2]
  exact .inl ⟨a,rfl,rfl⟩
 ·rw[h1,h2]
  exact .inr ⟨x,h0,rfl,rfl⟩
theorem QgN(hT:Twin F G d)(f:FuncId)(args:Array Value):SimN T F G K V W (callFunc f args):=by
 intro N H w w' es hr
 cases hg:G[f]? with
 |none=>
  refine⟨fun a w1' es1 h=>?_,fun a w1' es1 h _=>?_⟩
  ·rw[QhD (p:=⟨T,G⟩) hg] at h;cases h
  ·rw[QhD (p:=⟨T,G⟩) hg] at h
   obtain⟨rfl,rfl,rfl⟩:=XO h
   exact⟨trivial,hr.defer⟩
 |some fn=>
  rcases hT.bodies f fn hg with⟨hb,hn⟩|⟨hE,hF⟩
  ·refine⟨fun a w1' es1 h _=>?_,fun a w1' es1 h=>by rw[Qdr (p:=⟨T,G⟩) hg hb hn] at h;cases h⟩
   rw[Qdr (p:=⟨T,G⟩) hg hb hn] at h
   obtain⟨rfl,rfl,rfl⟩:=Xu h
   by_cases hd:f=d
   ·subst hd
    obtain⟨fn',h1,h2,h3⟩:=hT.atd fn hg
    exact .inr ⟨trivial,w,Qdr (p:=⟨T,F⟩) h1 h2 h3 _ _,hr,Nat.le_refl _,fun x=>x⟩
   ·rcases hT.same f hd with h1|⟨fn',why,h1,h2⟩
    ·exact .inr ⟨trivial,w,Qdr (p:=⟨T,F⟩) (h1 ▸ hg) hb hn _ _,hr,Nat.le_refl _,fun x=>x⟩
    ·exact .inl ⟨fn',why,h1,h2⟩
  ·have hF':F[f]? =some fn:=hF.symm.trans hg
   rcases QoR (T:=T) (F:=F) (G:=G) hE hF' hg args w w' es es with⟨v,h1,h2⟩|⟨x,h0,h1,h2⟩
   ·refine⟨fun a w1' es1 h _=>?_,fun a w1' es1 h=>by rw[h2] at h;cases h⟩
    rw[h2] at h
    obtain⟨rfl,rfl,rfl⟩:=Xu h
    refine .inr ⟨trivial,w,h1,hr,Nat.le_refl _,fun he e hm=>?_⟩
    rcases Array.mem_push.1 hm with hm|rfl
    ·exact he e hm
    ·trivial
   ·refine⟨(fun a w1' es1 h=>by rw[h2] at h;cases h),fun a w1' es1 h _=>?_⟩
    rw[h2] at h
    obtain⟨rfl,rfl,rfl⟩:=XO h
    exact⟨h0,hr.defer⟩
theorem SimN.program{f:Program→Sem Next}(hfg:f ⟨T,G⟩=f ⟨T,F⟩)(h:SimN T F G K V W (f ⟨T,F⟩)):SimN T F G K V W (program>>= f):=by
 intro N H w w' es hr
 refine⟨fun x w1 es1 h1 hN=>?_,fun x w1 es1 h1 hN=>?_⟩
 ·change(f ⟨T,G⟩).runT ⟨T,G⟩ w' es=_ at h1
  rw[hfg] at h1
  exact(h N H w w' es hr).1 x w1 es1 h1 hN
 ·change(f ⟨T,G⟩).runT ⟨T,G⟩ w' es=_ at h1
  rw[hfg] at h1
  exact(h N H w w' es hr).2 x w1 es1 h1 hN
theorem QkA(hT:Twin F G d)(x:Value)(n:String)(args:Array Value):SimN T F G K V W (callMethod x n args):=by
 unfold callMethod
 split
 ·refine SimN.program rfl ?_
  exact SimN.bind (QkV _ _ _ _) fun p=>QgN hT _ _
 ·exact .of_halts (ZT _)
 ·exact .of_halts SX.stuck
def Qgu:Builtin→Bool
 | .append| .cap| .close| .copy| .len| .max| .min=>true
 |_=>false
theorem Quh(b:Builtin)(hb:Qgu b=true)(ts:Array TypeId)(t:TypeId)(cs:Array Bool)(args:Array Value):SimN T F G K V W (builtin b ts t cs args):=by
 cases b<;>first|(cases hb;done)|skip
 ·exact .value (Qt9 _ _ _)
 ·exact .value (Qui _ _ _)
 ·exact .value (Quj _ _ _)
 ·exact .value (Quo _ _ _)
 ·exact .value (QuE _ _ _)
 ·exact .value (QuL _ _ _)
 ·exact .value (QuN _ _ _)
def Qfm:Target→Prop
 | .builtin b _ _ _=>Qgu b=true
 | .coroexit _=>False
 |_=>True
theorem QkM(hT:Twin F G d)(t:Target)(ht:Qfm t)(args:Array Value):SimN T F G K V W (invoke t args):=by
 unfold invoke
 split
 ·exact .of_halts (ZT _)
 ·exact Quh _ ht _ _ _ _
 ·exact QgN hT _ _
 ·split
  ·exact QkA hT _ _ _
  ·exact .of_halts SX.stuck
 ·split
  ·refine SimN.bind (QP _) fun d=>?_
   dsimp only
   split<;>exact QkA hT _ _ _
  ·exact .of_halts SX.stuck
 ·split
  ·exact SimN.bind (QuT _ _ _ _) fun _=>QgN hT _ _
  ·exact .of_halts SX.stuck
 ·exact .of (Qu7 _ _)
 ·exact .of_halts SX.stuck
 ·exact ht.elim
def QjU:Callee→Bool
 | .builtin b=>Qgu b
 |_=>true
theorem QuQ(f:Value)(args:Array Value):S1 T F G K V W (fun d=>Qfm d.target) (Deferred.ofValue f args):=by
 unfold Deferred.ofValue
 split
 ·exact Sim.pure trivial
 ·exact Sim.pure trivial
 ·exact Sim.halt trivial
theorem Qk0(ρ:Operand→Value)(c:Call)(t:TypeId)(hc:QjU c.callee=true):S1 T F G K V W (fun d=>Qfm d.target) (resolve ρ c t):=by
 unfold resolve
 extract_lets args
 split
 ·rename_i b hb
  rw[hb] at hc
  exact Sim.pure hc
 ·exact Sim.pure trivial
 ·exact QuQ _ _
def QdD(T:Tables)(t:TypeId):Bool:=match(Program.mk T #[]).underlying t with|some (.int _)=>true|_=>false
def okOp(T:Tables):Op→Bool
 | .move _| .assign _| .pick _ _ _| .alloc _| .box _ _| .build _ _| .buildSlice _ _ _| .load _ _| .store _ _ _| .binOp _ _ _ _ _| .unOp _ _ _| .makeInterface _ _| .makeFunc _ _ _| .makeMap _ _| .makeChan _ _
 | .makeSlice _ _ _| .slice _ _ _ _ _| .fieldAddr _ _ _| .field _ _ _| .indexAddr _ _ _| .index _ _ _| .lookup _ _ _ _| .mapUpdate _ _ _ _| .insert _ _ _ _| .range _ _| .typeAssert _ _ _ _| .extract _ _
 | .panic _| .send _ _| .recv _ _ _| .nilCheck _=>true
 | .convert src dst _=>QdD T src && QdD T dst
 | .call c=>QjU c.callee
 |_=>false
theorem Qk5(t:TypeId):S1 T F G K V W (fun d=>(Program.mk T #[]).underlying t=some d) (underlying t):=by
 unfold underlying
 refine Sim.program rfl ?_
 have e:(Program.mk T F).underlying t=(Program.mk T #[]).underlying t:=rfl
 rw[e]
 split
 ·exact Sim.pure ‹_›
 ·exact Sim.halt trivial
theorem Quy(s:FloatKind)(b:Nat)(k:IntKind):S0 T F G K V W (Conv.floatToInt s b k):=by
 unfold Conv.floatToInt
 repeat' (first|(with_reducible first|exact S0.pure|exact S0.stuck|exact S0.unsupported|exact ZB _|exact Xx _ _ _ _|assumption|exact QP _|exact Zj _|exact Zl _|exact ZC _|exact Xl _|exact ZA _|exact ZL _|exact Xw _|exact ZF _|exact ZN _|exact Xa _|exact Zw _ _ _|exact Zq _|exact ZM _ _|exact Xb _ _|exact ZG _ _|exact Xm _ _ _|exact Z0 _|refine S0.bind ?_ fun _=>?_|refine S0.map ?_)|dsimp only|split)
theorem Qun(s t:TypeId)(x:Value)(h:(QdD T s && QdD T t)=true):S0 T F G K V W (convert s t x):=by
 rw[Bool.and_eq_true] at h
 unfold convert
 refine Sim.bind (Qk5 _) fun a ha=>Sim.bind (Qk5 _) fun b hb=>?_
 unfold QdD at h
 rw[ha,hb] at h
 cases a<;>first|(cases h.1;done)|skip
 cases b<;>first|(cases h.2;done)|skip
 cases x<;>first|exact S0.pure|exact S0.unsupported|exact Quy _ _ _|skip
 rename_i p
 cases p<;>exact S0.unsupported
theorem QkI: ∀(l:List FieldStep) (t:TypeId) (x:Option Value),S0 T F G K V W (followBlind l t x)
 |[],_,_=>S0.pure
 |s :: l,t,x=>by
  have ih:=QkI l
  unfold followBlind
  refine S0.bind (QP _) fun d=>?_
  split
  ·split
   ·split
    ·exact S0.pure
    ·exact ih _ _
    ·exact S0.stuck
    ·exact S0.pure
    ·exact S0.bind (Zw _ _ _) fun _=>ih _ _
    ·exact S0.stuck
    ·exact ih _ _
   ·exact S0.stuck
  ·exact S0.stuck
theorem QkX: ∀(n:Nat) (t:TypeId) (v:Value) (m:String),S0 T F G K V W (nilAhead n t v m)
 |0,_,_,_=>S0.pure
 |n+1,t,v,m=>by
  have ih:=QkX n
  unfold nilAhead
  refine S0.bind (Zj _) fun i=>?_
  split
  ·refine S0.bind (QkI _ _ _) fun p=>?_
   split
   ·exact S0.pure
   ·split
    ·exact ih _ _ _
    ·exact S0.pure
    ·exact S0.stuck
    ·exact S0.pure
    ·exact S0.pure
    ·refine S0.bind (QP _) fun d=>?_
     split<;>exact S0.pure
  ·exact S0.stuck
theorem Qft{γ:Type}: ∀(x:Ask γ) (w:World),(w.ask x).2.heap=w.heap
 | .done _,_=>rfl
 | .ask a b k,w=>by
   unfold World.ask
   dsimp only
   split
   ·exact Qft _ _
   ·exact Qft _ _
theorem QvV(w:World)(c:Sys):(w.sys c).2.heap=w.heap:=by
 unfold World.sys
 have:=Qft (Kernel.perform c w.os) w
 split
 ·rfl
 ·rename_i h
  rw[h] at this
  exact this
theorem Rel.reheap{w w' w2:World}(h:Rel N H K V W w w')(e:w2.heap=w'.heap):Rel ⟨N.n,w2.tape,0,0⟩ H K V W { w2 with heap:=w.heap} w2:=
 ⟨rfl,rfl,fun _ _=>rfl,⟨rfl,rfl⟩,by rw[e];exact h.size,by rw[e];exact h.dead,by rw[e];exact h.live,by rw[e];exact h.view,by rw[e];exact h.loop,by rw[e];exact h.defer,by rw[e];exact h.pend,h.rview⟩
def RH{α:Type}(s:Sem α):Prop:=∀p w es,(∀a w1 es1,s.runT p w es=(.ok a w1,es1)→w1.heap=w.heap)∧∀h w1 es1,s.runT p w es=(.halt h w1,es1)→JU h∧w1.heap=w.heap
theorem RH.pure{a:α}:RH (Pure.pure a:Sem α):=fun _ _ _=>⟨fun _ _ _ h=>(by obtain⟨rfl,rfl,rfl⟩:=Xu h;rfl),fun _ _ _ h=>by cases h⟩
theorem RH.stuck{s:String}:RH (Go.stuck s:Sem α):=fun _ _ _=>⟨fun _ _ _ h=>(by cases h),fun _ _ _ h=>(by obtain⟨rfl,rfl,rfl⟩:=XO h;exact⟨trivial,rfl⟩)⟩
theorem RH.sys(c:Sys):RH (Go.sys c):=fun _ _ _=>⟨fun _ _ _ h=>(by obtain⟨rfl,rfl,rfl⟩:=Xu h;exact QvV _ _),fun _ _ _ h=>by cases h⟩
theorem RH.program:RH program:=fun _ _ _=>⟨fun _ _ _ h=>(by obtain⟨rfl,rfl,rfl⟩:=Xu h;rfl),fun _ _ _ h=>by cases h⟩
theorem RH.bind{s:Sem α}{f:α→Sem β}(h:RH s)(hf: ∀a,RH (f a)):RH (s>>= f):=by
 intro p w es
 constructor
 ·intro b w2 es2 e
  change(s.bind f).runT p w es=_ at e
  rw[Sem.runT_bind'] at e
  match h1:s.runT p w es,e with
  |(.ok a w1,es1),e=>rw[(hf a p w1 es1).1 _ _ _ e,(h p w es).1 _ _ _ h1]
  |(.halt _ _,_),e=>cases e
 ·intro b w2 es2 e
  change(s.bind f).runT p w es=_ at e
  rw[Sem.runT_bind'] at e
  match h1:s.runT p w es,e with
  |(.ok a w1,es1),e=>
   have:=(hf a p w1 es1).2 _ _ _ e
   exact⟨this.1,this.2.trans ((h p w es).1 _ _ _ h1)⟩
  |(.halt _ _,_),e=>
   obtain⟨rfl,rfl,rfl⟩:=XO e
   exact(h p w es).2 _ _ _ h1
theorem RH.panicnil:RH Instr.panicnil:=by
 unfold Instr.panicnil
 refine RH.bind (RH.sys _) fun r=>?_
 split
 ·exact RH.bind RH.program fun _=>RH.pure
 ·exact RH.stuck
theorem SX.bindRH{s:Sem α}{f:α→Sem β}(h:RH s)(hf: ∀a,SX T F G K V W (f a)):SX T F G K V W (s>>= f):=by
 intro N H w w' es hr
 constructor
 ·intro b w2 es2 e hN
  change(s.bind f).runT _ w' es=_ at e
  rw[Sem.runT_bind'] at e
  match h1:s.runT ⟨T,G⟩ w' es,e with
  |(.ok a w1,es1),e=>exact(((hf a _ _ _ _ _ (hr.reheap ((h _ _ _).1 _ _ _ h1))).1 _ _ _ e hN).1).elim
  |(.halt _ _,_),e=>cases e
 ·intro b w2 es2 e hN
  change(s.bind f).runT _ w' es=_ at e
  rw[Sem.runT_bind'] at e
  match h1:s.runT ⟨T,G⟩ w' es,e with
  |(.ok a w1,es1),e=>exact(hf a _ _ _ _ _ (hr.reheap ((h _ _ _).1 _ _ _ h1))).2 _ _ _ e hN
  |(.halt _ _,_),e=>
   obtain⟨rfl,rfl,rfl⟩:=XO e
   have:=(h _ _ _).2 _ _ _ h1
   exact⟨this.1,fun r c hc=>hr.defer r c (this.2 ▸ hc)⟩
theorem QpQ(x:Value):SX T F G K V W (Instr.panic x):=by
 unfold Instr.panic
 split
 ·exact SX.goPanic
 ·refine SX.bindRH RH.panicnil fun c=>?_
  split
  ·exact SX.goPanic
  ·exact ZT _
 ·exact SX.stuck
theorem QkC(hT:Twin F G d)(ρ:Operand→Value)(o:Oper)(ho:okOp T o.op=true):SimN T F G K V W (execOp ρ o):=by
 unfold execOp
 cases hop:o.op<;>rw[hop] at ho<;>first|(cases ho;done)|skip
 all_goals dsimp only
 case move=>exact .pure trivial
 case assign=>exact .pure trivial
 case pick=>exact SimN.bind (ZL _) fun _=> .pure trivial
 case alloc=>exact .value (Qt8 _)
 case box=>exact .value (Que _ _)
 case build=>exact .value (Quf _ _)
 case buildSlice=>exact .value (Qug _ _ _)
 case insert=>exact .unit (QkT _ _ _ _)
 case load=>exact .value (QuF _ _)
 case store=>exact .unit (Qu1 _ _ _)
 case nilCheck=>
  split
  ·exact .of_halts (ZT _)
  ·exact .of_halts (ZT _)
  ·exact .of_halts (ZT _)
  ·split
   ·exact .of_halts (ZT _)
   ·refine SimN.program rfl ?_
    refine SimN.bind (QkX _ _ _ _) fun b=>?_
    split
    ·exact .of_halts (SX.bind_left (SX.unsupported trivial))
    ·exact .pure trivial
   ·exact .pure trivial
  ·exact .pure trivial
 case binOp=>exact .value (S0.bind (Qut _ _ _ _ _ _) fun _=>Qud _ _ _ _)
 case unOp=>exact .value (Qu4 _ _)
 case convert=>exact .value (Qun _ _ _ ho)
 case makeInterface=>exact .value (QuI _ _)
 case makeFunc=>exact .value S0.pure
 case makeMap=>exact .value (QuJ _ _)
 case makeChan=>exact .value (QuH _ _)
 case makeSlice=>exact .value (QuK _ _ _)
 case slice=>exact .value (QuY _ _ _ _ _)
 case fieldAddr=>exact .value (Qux _ _ _)
 case field=>exact .value (Quw _ _ _)
 case indexAddr=>exact .value (QuA _ _ _)
 case index=>exact .value (Quz _ _ _)
 case lookup=>exact .value (QuG _ _ _ _)
 case mapUpdate=>exact .unit (QkT _ _ _ _)
 case range=>exact .value (QuS _ _)
 case typeAssert=>exact .value (Qu3 _ _ _ _)
 case extract=>exact .value (Quu _ _)
 case call=>exact SimN.bind1 (Qk0 _ _ _ ho) fun d hd=>QkM hT _ hd _
 case panic=>exact .of_halts (SX.bind_left (QpQ _))
 case send=>exact .pure ⟨⟨_,rfl⟩,rfl⟩
 case recv=>
  refine SimN.bind (QP _) fun d=>?_
  split
  ·exact SimN.bind (ZC _) fun _=> .pure ⟨⟨_,rfl⟩,rfl⟩
  ·exact .of_halts SX.stuck
end
end Go.Proofs.YtgaimkihacljdaaGreat
