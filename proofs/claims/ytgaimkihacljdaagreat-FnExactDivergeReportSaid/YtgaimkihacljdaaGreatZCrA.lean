/- Lemmas: CrA CrB CrC CrD CrE CrF CrG CrK. -/
import Derived.Conc.Beside
import Derived.Conc.CrowdStepC2
import Derived.Conc.CrowdRun
import Derived.Conc.FxFrame
import Derived.Conc.WgGenN3
/- n workers and their starter, beside goroutines that only leave: the trace's law. (Round C) -/
namespace Go.Proofs.YtgaimkihacljdaaGreat
open Go.Conc
open Go.ConcN (PermW ShN RelBy fork_knows Deaf_absent)
structure Fam where
 Wg:Nat
 Shun:Loc→Prop
 base:Nat
 Own:Nat→Loc→Prop
 Rd:Nat→Loc→Prop
structure QzC(F:Fam):Prop where
 pos:0<F.base
 own: ∀k k' l,F.Own k l→F.Own k' l→k=k'
 ownRd: ∀k k' l,F.Own k l→¬F.Rd k' l
 ownSh: ∀k l,F.Own k l→¬ShN F.Wg l
 rdSh: ∀k l,F.Rd k l→¬ShN F.Wg l
 ownShun: ∀k l,F.Own k l→¬F.Shun l
 rdShun: ∀k l,F.Rd k l→¬F.Shun l
 mem: ∀k l,F.Own k l∨F.Rd k l→l.isMemory=true
def Qzn(F:Fam)(T:Trace)(j i:Nat)(op:MemOp)(x:Touch):Prop:=
 Knows T 0 i∨(x.kind= .atomic∧(F.Shun x.loc∨ShN F.Wg x.loc))∨∃k,k<j∧op.g=F.base+k∧x.kind≠ .atomic∧(F.Own k x.loc∨(F.Rd k x.loc∧x.write=false))
structure Tr(F:Fam)(T:Trace)(j:Nat):Prop where
 quiet:Quiet (ShN F.Wg) T
 known: ∀(i:Nat) (op:MemOp) (x:Touch),T[i]? =some op→op.act.touch? =some x→x.loc.isMemory=true→Qzn F T j i op x
 own: ∀k,k<j→∀l,F.Own k l→Perm T (F.base+k) l
 rd: ∀k,k<j→∀l,F.Rd k l→PermW T (F.base+k) l
 nr: ∀said,¬Race said T
def O0(F:Fam)(j:Nat)(op:MemOp):Prop:=
 op.g=0∧∀x,op.act.touch? =some x→(ShN F.Wg x.loc∧x.kind≠ .plain)∨(¬ShN F.Wg x.loc∧¬F.Shun x.loc∧(∀k,k<j→¬F.Own k x.loc)∧(x.write=true→∀k,k<j→¬F.Rd k x.loc))
def OW(F:Fam)(k:Nat)(op:MemOp):Prop:=
 op.g=F.base+k∧∀x,op.act.touch? =some x→(ShN F.Wg x.loc∧x.kind= .atomic)∨(x.kind≠ .atomic∧(F.Own k x.loc∨(F.Rd k x.loc∧x.write=false)))
section
variable {F : Fam} {T u : Trace} {j : Nat}
theorem Qzn.app{i:Nat}{op:MemOp}{x:Touch}(h:Qzn F T j i op x)(u:Trace):Qzn F (T++u) j i op x:=h.imp (fun k=>k.app u) id
theorem Qzn.more{i j':Nat}{op:MemOp}{x:Touch}(h:Qzn F T j i op x)(hj:j≤j'):Qzn F T j' i op x:=h.imp id fun h=>h.imp id fun⟨k,h1,h2⟩=>⟨k,by omega,h2⟩
theorem QzF(h: ∀(i:Nat) (op:MemOp) (x:Touch),T[i]? =some op→op.act.touch? =some x→x.loc.isMemory=true→Qzn F T j i op x){j':Nat}(hj:j≤j')
 (hu: ∀i op x,(T++u)[i]? =some op→op∈u→op.act.touch? =some x→x.loc.isMemory=true→Qzn F (T++u) j' i op x):
 ∀(i:Nat) (op:MemOp) (x:Touch),(T++u)[i]? =some op→op.act.touch? =some x→x.loc.isMemory=true→Qzn F (T++u) j' i op x:=by
 intro i op x hi hx hm
 rcases getElem?_append_cases hi with⟨_,hi'⟩|⟨_,hiu⟩
 ·exact((h i op x hi' hx hm).app u).more hj
 ·exact hu i op x hi hiu hx hm
theorem Tr.app0(A:QzC F)(h:Tr F T j)(hu: ∀op∈u,O0 F j op):Tr F (T++u) j:=by
 refine⟨h.quiet.app fun op hop x hx hs=>?_,QzF h.known (Nat.le_refl _) fun i op x hi hop hx hm=> .inl ?_,fun k hk l hl=>(h.own k hk l hl).app fun op hop b hb e=>?_,fun k hk l hl=>(h.rd k hk l hl).app fun op hop b hb e hw=>?_,fun said=>?_⟩
 ·rcases(hu op hop).2 x hx with⟨_,hk⟩|⟨hn,_⟩
  ·exact⟨hk,fun _=>(hu op hop).1⟩
  ·exact absurd hs hn
 ·have:=knows_own hi
  rwa [(hu op hop).1] at this
 ·rcases(hu op hop).2 b hb with⟨hs,_⟩|⟨_,_,hn,_⟩
  ·exact absurd (e ▸ hs) (A.ownSh k l hl)
  ·exact absurd (e ▸ hl) (hn k hk)
 ·rcases(hu op hop).2 b hb with⟨hs,_⟩|⟨_,_,_,hn⟩
  ·exact absurd (e ▸ hs) (A.rdSh k l hl)
  ·exact absurd (e ▸ hl) (hn hw k hk)
 ·refine noRace_append (h.nr said) (fun op hop=>(hu op hop).1) (fun i a ha op hop b hb hc=>?_)
  rcases(hu op hop).2 b hb with⟨hs,hk⟩|⟨hs,hsh,hno,hnr⟩
  ·exact h.quiet.known hs hk (fun _=>rfl) i a ha hc
  ·obtain⟨x,hx,hxa⟩:=touch_of ha
   rcases h.known i x a hx hxa hc.2.1 with hk|⟨_,hk|hk⟩|⟨k,hk,_,_,hk2|hk2⟩
   ·exact hk
   ·exact absurd (hc.1 ▸ hk) hsh
   ·exact absurd (hc.1 ▸ hk) hs
   ·exact absurd (hc.1 ▸ hk2) (hno k hk)
   ·have hbw:b.write=true:=by
     rcases hc.2.2.1 with hw|hw
     ·rw[hk2.2] at hw;cases hw
     ·exact hw
    exact absurd (hc.1 ▸ hk2.1) (hnr hbw k hk)
theorem Tr.appW(A:QzC F)(h:Tr F T j){k:Nat}(hkj:k<j)(hu: ∀op∈u,OW F k op):Tr F (T++u) j:=by
 refine⟨h.quiet.app fun op hop x hx hs=>?_,QzF h.known (Nat.le_refl _) fun i op x hi hop hx hm=> .inr ?_,fun k' hk' l hl=>(h.own k' hk' l hl).app fun op hop b hb e=>?_,fun k' hk' l hl=>(h.rd k' hk' l hl).app fun op hop b hb e hw=>?_,fun said=>?_⟩
 ·rcases(hu op hop).2 x hx with⟨_,hk⟩|⟨_,ho|⟨hr,_⟩⟩
  ·rw[hk];simp
  ·exact absurd hs (A.ownSh k _ ho)
  ·exact absurd hs (A.rdSh k _ hr)
 ·rcases(hu op hop).2 x hx with⟨hs,hk⟩|⟨hna,ho|hr⟩
  ·exact .inl ⟨hk,.inr hs⟩
  ·exact .inr ⟨k,hkj,(hu op hop).1,hna,.inl ho⟩
  ·exact .inr ⟨k,hkj,(hu op hop).1,hna,.inr hr⟩
 ·rcases(hu op hop).2 b hb with⟨hs,_⟩|⟨_,ho|⟨hr,_⟩⟩
  ·exact absurd (e ▸ hs) (A.ownSh k' l hl)
  ·rw[(hu op hop).1,A.own k k' l (e ▸ ho) hl]
  ·exact absurd (e ▸ hr) (A.ownRd k' k l hl)
 ·rcases(hu op hop).2 b hb with⟨hs,_⟩|⟨_,ho|⟨_,hr⟩⟩
  ·exact absurd (e ▸ hs) (A.rdSh k' l hl)
  ·exact absurd hl (A.ownRd k k' l (e ▸ ho))
  ·rw[hr] at hw;cases hw
 ·refine noRace_append (h.nr said) (fun op hop=>(hu op hop).1) (fun i a ha op hop b hb hc=>?_)
  rcases(hu op hop).2 b hb with⟨hs,hk⟩|⟨_,ho|⟨hr,hbw⟩⟩
  ·exact h.quiet.known hs (by rw[hk];simp) (fun e=>by rw[hk] at e;cases e) i a ha hc
  ·exact h.own k hkj b.loc ho i a ha hc.1
  ·exact h.rd k hkj b.loc hr i a ha hc.1 (hc.2.2.1.resolve_right (by simp[hbw]))
theorem Tr.appM(h:Tr F T j){g:Nat}(hu: ∀op∈u,op.g=g∧op.act.touch? =none):Tr F (T++u) j:=by
 have no: ∀op∈u,∀x,op.act.touch? =some x→False:=fun op hop x hx=>by rw[(hu op hop).2] at hx;cases hx
 refine⟨h.quiet.app fun op hop x hx _=>(no op hop x hx).elim,QzF h.known (Nat.le_refl _) fun i op x hi hop hx _=>(no op hop x hx).elim,fun k hk l hl=>(h.own k hk l hl).app fun op hop b hb _=>(no op hop b hb).elim,fun k hk l hl=>(h.rd k hk l hl).app fun op hop b hb _ _=>(no op hop b hb).elim,fun said=>?_⟩
 ·exact noRace_append (h.nr said) (fun op hop=>(hu op hop).1) (fun i a _ op hop b hb _=>(no op hop b hb).elim)
theorem Tr.fork(A:QzC F)(h:Tr F T j){x y:MemOp}(hx:x.g=0∧x.act= .go (F.base+j))(hy:y.g=F.base+j∧y.act= .start)(h0:Deaf T 0=0)(hk:Deaf T (F.base+j)=0):Tr F (T++ #[x,y]) (j+1):=by
 have hnt: ∀op∈ #[x,y],∀b,op.act.touch? =some b→False:=by
  intro op hop b hb
  simp only[List.mem_toArray,List.mem_cons,List.not_mem_nil,or_false] at hop
  rcases hop with rfl|rfl
  ·rw[hx.2] at hb;cases hb
  ·rw[hy.2] at hb;cases hb
 have old: ∀{i:Nat} {a:Touch},touchAt (T++ #[x,y]) i=some a→∃z,T[i]? =some z∧z.act.touch? =some a:=by
  intro i a ha
  obtain⟨z,hz,hza⟩:=touch_of ha
  rcases getElem?_append_cases hz with⟨_,hz'⟩|⟨_,hzu⟩
  ·exact⟨z,hz',hza⟩
  ·exact(hnt z hzu a hza).elim
 refine⟨h.quiet.app fun op hop b hb _=>(hnt op hop b hb).elim,QzF h.known (Nat.le_succ _) fun i op b hi hop hb _=>(hnt op hop b hb).elim,fun k hkj l hl=>?_,fun k hkj l hl=>?_,fun said=>?_⟩
 ·rcases Nat.lt_or_ge k j with hlt|hge
  ·exact(h.own k hlt l hl).app fun op hop b hb _=>(hnt op hop b hb).elim
  ·obtain rfl:k=j:=by omega
   intro i a ha e
   obtain⟨z,hz,hza⟩:=old ha
   refine fork_knows hx hy h0 hk ?_
   rcases h.known i z a hz hza (by rw[e];exact A.mem k l (.inl hl)) with h1|⟨_,h1|h1⟩|⟨k',h1,_,_,h2|h2⟩
   ·exact h1
   ·exact absurd (e ▸ h1) (A.ownShun k l hl)
   ·exact absurd (e ▸ h1) (A.ownSh k l hl)
   ·have:=A.own k' k l (e ▸ h2) hl;omega
   ·exact absurd (e ▸ h2.1) (A.ownRd k k' l hl)
 ·rcases Nat.lt_or_ge k j with hlt|hge
  ·exact(h.rd k hlt l hl).app fun op hop b hb _=>(hnt op hop b hb).elim
  ·obtain rfl:k=j:=by omega
   intro i a ha e hw
   obtain⟨z,hz,hza⟩:=old ha
   refine fork_knows hx hy h0 hk ?_
   rcases h.known i z a hz hza (by rw[e];exact A.mem k l (.inr hl)) with h1|⟨_,h1|h1⟩|⟨k',h1,_,_,h2|h2⟩
   ·exact h1
   ·exact absurd (e ▸ h1) (A.rdShun k l hl)
   ·exact absurd (e ▸ h1) (A.rdSh k l hl)
   ·exact absurd hl (A.ownRd k' k l (e ▸ h2))
   ·rw[h2.2] at hw;cases hw
 ·have e:T++ #[x,y]=(T++ #[x])++ #[y]:=by apply Array.ext';simp
  rw[e]
  refine noRace_append (g:=F.base+j) (noRace_append (g:=0) (h.nr said) (fun op hop=>by simp at hop;rw[hop];exact hx.1) (fun i a _ op hop b hb _=>(hnt op (by simp at hop⊢;exact .inl hop) b hb).elim))
   (fun op hop=>by simp at hop;rw[hop];exact hy.1) (fun i a _ op hop b hb _=>(hnt op (by simp at hop⊢;exact .inr hop) b hb).elim)
theorem Tr.start{B:Nat}(hP:Past F.Shun B T)(hB:B≤F.Wg):Tr F T 0:=by
 have far: ∀(i:Nat) (op:MemOp) (x:Touch),T[i]? =some op→op.act.touch? =some x→¬ShN F.Wg x.loc:=by
  rintro i op x hi hx ⟨a,ha,hb⟩
  have hs:=hP.seen op (Array.mem_of_getElem? hi)
  have:a.block<B:=by
   cases hact:op.act with
   |access e=>
    rw[hact] at hs hx
    simp only[MemAct.touch?,Option.some.injEq] at hx
    subst hx
    simp only at ha
    have h2:e.loc.low B:=hs
    rw[ha] at h2
    exact h2
   |mark m=>
    rw[hact] at hs hx
    cases m<;>simp only[MemAct.touch?,Option.some.injEq] at hx<;>first|(subst hx;simp only[Loc.cell.injEq] at ha;subst ha;exact hs)|cases hx
   |_=>rw[hact] at hx;simp[MemAct.touch?] at hx
  omega
 exact⟨fun i op x hi hx hs=>absurd hs (far i op x hi hx),fun i op x hi hx hmem=>(hP.known i x (by rw[touchAt_of hi];exact hx) hmem).imp id fun⟨h1,h2⟩=> .inl ⟨h2,.inl h1⟩,fun k hk=>by omega,fun k hk=>by omega,hP.clean⟩
end
end Go.Proofs.YtgaimkihacljdaaGreat
/- n workers and their starter, beside goroutines that only leave: where each stands. (Round C) -/
namespace Go.Proofs.YtgaimkihacljdaaGreat
set_option linter.unusedSectionVars false
open Go.Conc
open Go.ConcN (PermW ShN RelBy RW RC WgLive PayAt Has Full WSit CTag cell_of_block AtK1)
open Go.ConcR (KK wgBlock WgAt stA smA rd wr mk Payload Aside2 DC0)
structure Crew where
 P:Program
 ty:TypeId
 C:Nat
 L:Nat
 n:Nat
 F:Fam
 B:Nat
 Lws:Nat→Nat
 lo:Nat→Nat
 val:Nat→Value
 An:Goroutine→World→Prop
 E:Goroutine→World→Prop
structure QCu(K:Crew):Prop where
 fam:QzC K.F
 mono: ∀a b,a≤b→K.Lws a≤K.Lws b
 hW:K.F.Wg<K.Lws 0
 hC:K.C<K.Lws 0
 hCW:K.C≠K.F.Wg
 hn:K.n<2147483648
 step: ∀k,k<K.n→K.lo k<K.lo (k+1)
 bot:K.lo 0=0
 top:K.lo K.n=K.L
 hB:K.F.Wg<K.B
section
variable [Payload] (K : Crew)
structure RM(Low a b:Nat)(w w₁:World):Prop where
 low: ∀x,x<Low→x≠K.F.Wg→x≠K.C→w₁.heap[x]? =w.heap[x]?
 live:WgLive K.ty K.F.Wg w→WgLive K.ty K.F.Wg w₁
 pay:PayAt K.C K.L w→PayAt K.C K.L w₁
 cell: ∀i,a≤i→i<b→w₁.cell? ⟨K.C,i,none⟩=w.cell? ⟨K.C,i,none⟩
structure Qzt(a b:Nat)(w w':World):Prop where
 tape:w'.tape=w.tape
 os:w'.os=w.os
 output:w'.output=w.output
 size:w'.heap.size=w.heap.size
 block: ∀x,x≠K.C→w'.heap[x]? =w.heap[x]?
 pay:PayAt K.C K.L w→PayAt K.C K.L w'
 cells: ∀i,¬(a≤i∧i<b)→w'.cell? ⟨K.C,i,none⟩=w.cell? ⟨K.C,i,none⟩
def EvM(k:Nat)(e:Event):Prop:=(∀fn pos,OW K.F k { g:=K.F.base+k,fn,pos,act:= .ofEvent e})∧e.loc≠ .mark .disable∧e.loc≠ .mark .enable∧e.loc≠ .mark (.release (stA K.F.Wg))∧(MemAct.ofEvent e).low K.B
def EvC(j:Nat)(e:Event):Prop:=(∀fn pos,O0 K.F j { g:=0,fn,pos,act:= .ofEvent e})∧e.loc≠ .mark .disable∧e.loc≠ .mark .enable∧e.loc≠ .mark (.release (stA K.F.Wg))∧(MemAct.ofEvent e).low K.B
def DM(k:Nat)(w w':World)(es:Array Event):Prop:=Qzt K (K.lo k) (K.lo (k+1)) w w'∧∀e∈es,EvM K k e
def DC(j:Nat)(w w':World)(es:Array Event):Prop:=(∀b,b<K.Lws j→w'.heap[b]? =w.heap[b]?)∧∀e∈es,EvC K j e
variable {K} {Low a b : Nat} {w w₁ w₂ : World}
theorem RM.refl(w:World):RM K Low a b w w:=⟨fun _ _ _ _=>rfl,id,id,fun _ _ _=>rfl⟩
theorem RM.trans(h:RM K Low a b w w₁)(h':RM K Low a b w₁ w₂):RM K Low a b w w₂:=⟨fun x h1 h2 h3=>(h'.low x h1 h2 h3).trans (h.low x h1 h2 h3),h'.live∘h.live,h'.pay∘h.pay,fun i h1 h2=>(h'.cell i h1 h2).trans (h.cell i h1 h2)⟩
theorem RM.at(w:World)(d:Nat):RM K Low a b w (w.at d):=⟨fun _ _ _ _=>rfl,id,id,fun _ _ _=>rfl⟩
theorem RM.one(h:RM K Low a b w w₁){i:Nat}(h1:a≤i)(h2:i<b):RW K.ty K.F.Wg K.C K.L Low i w w₁:=⟨h.low,h.live,h.pay,h.cell i h1 h2⟩
theorem RM.of_cells{a' b':Nat}(h:Qzt K a' b' w w₁)(hd:b≤a'∨b'≤a)(hCW:K.C≠K.F.Wg):RM K Low a b w w₁:=
 ⟨fun x _ _ hx=>h.block x hx,fun⟨st,sm,hl⟩=>⟨st,sm,hl.of_block (h.block _ (Ne.symm hCW))⟩,h.pay,fun i h1 h2=>h.cells i (by omega)⟩
theorem RM.of_wg(h:Aside K.F.Wg w w₁)(hl:WgLive K.ty K.F.Wg w₁)(hCW:K.C≠K.F.Wg):RM K Low a b w w₁:=
 ⟨fun x _ hx _=>h.block x hx,fun _=>hl,fun⟨cs,hc,hn⟩=>⟨cs,(h.block _ hCW).trans hc,hn⟩,fun i _ _=>cell_of_block (h.block _ hCW) i⟩
theorem RM.of_low{Low':Nat}(h: ∀x,x<Low'→w₁.heap[x]? =w.heap[x]?)(hL:Low≤Low')(hW:K.F.Wg<Low')(hC:K.C<Low'):RM K Low a b w w₁:=
 ⟨fun x hx _ _=>h x (by omega),fun⟨st,sm,hl⟩=>⟨st,sm,hl.of_block (h _ hW)⟩,fun⟨cs,hc,hn⟩=>⟨cs,(h _ hC).trans hc,hn⟩,fun i _ _=>cell_of_block (h _ hC) i⟩
theorem RC.of_cells(h:Qzt K a b w w₁)(hCW:K.C≠K.F.Wg):RC K.ty K.F.Wg K.C w w₁:=⟨⟨h.tape,h.os,h.output,h.size,fun x hx _=>h.block x hx⟩,fun⟨st,sm,hl⟩=>⟨st,sm,hl.of_block (h.block _ (Ne.symm hCW))⟩⟩
theorem Qzt.refl(w:World):Qzt K a b w w:=⟨rfl,rfl,rfl,rfl,fun _ _=>rfl,id,fun _ _=>rfl⟩
end
section
variable [Payload] (K : Crew)
def HasM(k:Nat)(w:World):Prop:=∀i,K.lo k≤i→i<K.lo (k+1)→Has K.C i (K.val i) w
def AtM(k:Nat)(g:Goroutine)(w:World):Prop:=
 g.status= .running∧HasM K k w∧∃g',stepG K.P false g w= .go g' w #[mk (.releaseMerge (stA K.F.Wg))]∧∃m,Goes K.P false (RW K.ty K.F.Wg K.C K.L (K.Lws (k+1)) (K.lo k)) DC0 (AtK1 K.P K.ty K.F.Wg K.C K.L (K.Lws (k+1)) (K.lo k+1)) m g' w
def QA7(k:Nat)(g:Goroutine)(w:World):Prop:=∃m,Goes K.P false (RM K (K.Lws (k+1)) (K.lo k) (K.lo (k+1))) (DM K k) (AtM K k) m g w
inductive WM (k:Nat):Nat→Nat→Nat→Goroutine→World→Prop
 |pre {m:Nat} {g:Goroutine} {w:World}:Goes K.P false (RM K (K.Lws (k+1)) (K.lo k) (K.lo (k+1))) (DM K k) (AtM K k) m g w→WM k 7 m 0 g w
 |post {s m d:Nat} {g:Goroutine} {w:World}:s≤6→WSit K.P K.ty K.F.Wg K.C K.L (fun _ _=>False) (fun _ _=>False) (K.Lws (k+1)) (K.lo k+1) (.bool false) s m d g w→WM k s m d g w
/-! the caller, from the join backwards -/
def QzT(g:Goroutine)(w:World):Prop:=
 g.status= .running∧∃g',stepG K.P true g w= .go g' w #[mk (.acquire (stA K.F.Wg))]∧∃m,Goes K.P true (RC K.ty K.F.Wg K.C) (DC K K.n) K.E m g' w
def QzW(g:Goroutine)(w:World):Prop:=
 g.status= .running∧∃g',stepG K.P true g w= .go g' w #[mk .enable]∧∃m,Goes K.P true (RC K.ty K.F.Wg K.C) (DC K K.n) (QzT K) m g' w
def QAk(g:Goroutine)(w:World):Prop:=
 g.status= .running∧(WgAt K.ty K.F.Wg w 0 0→∃g',stepG K.P true g w= .go g' w #[rd (stA K.F.Wg)]∧∃m,Goes K.P true (RC K.ty K.F.Wg K.C) (DC K K.n) (QzW K) m g' w)
def QzX(g:Goroutine)(w:World):Prop:=
 g.status= .running∧g.offers=none∧((∃st,WgAt K.ty K.F.Wg w st 0)→stepG K.P true g w= .go { g with status:= .blocked} w #[])∧
  (WgAt K.ty K.F.Wg w 0 1→∃g',stepG K.P true g w= .go g' (w.setCell (smA K.F.Wg) (.int .u32 0)) (semEvents (smA K.F.Wg))∧∃m,Goes K.P true (RC K.ty K.F.Wg K.C) (DC K K.n) (QAk K) m g' (w.setCell (smA K.F.Wg) (.int .u32 0)))
def QAj(vs:Nat)(g:Goroutine)(w:World):Prop:=
 g.status= .running∧∀v:Nat,v<2147483648→WgAt K.ty K.F.Wg w (v*KK) 0→
  (v=vs→∃g',stepG K.P true g w= .go g' (w.setCell (stA K.F.Wg) (.int .u64 (v*KK+1))) #[rd (stA K.F.Wg),wr (stA K.F.Wg)]∧∃m,Goes K.P true (RC K.ty K.F.Wg K.C) (DC K K.n) (QzX K) m g' (w.setCell (stA K.F.Wg) (.int .u64 (v*KK+1))))∧
  (v≠vs→∃g',stepG K.P true g w= .go g' w #[rd (stA K.F.Wg)]∧∃m,Goes K.P true (RC K.ty K.F.Wg K.C) (DC K K.n) K.An m g' w)
def Qzr(g:Goroutine)(w:World):Prop:=
 g.status= .running∧∀v:Nat,v<2147483648→WgAt K.ty K.F.Wg w (v*KK) 0→∃g',stepG K.P true g w= .go g' w #[rd (stA K.F.Wg)]∧
  (v=0→∃m,Goes K.P true (RC K.ty K.F.Wg K.C) (DC K K.n) (QzW K) m g' w)∧(v≠0→∃m,Goes K.P true (RC K.ty K.F.Wg K.C) (DC K K.n) (QAj K v) m g' w)
def QzV(g:Goroutine)(w:World):Prop:=
 g.status= .running∧∃g',stepG K.P true g w= .go g' w #[mk .disable]∧∃m,Goes K.P true (RC K.ty K.F.Wg K.C) (DC K K.n) K.An m g' w
/-! while it starts workers: j are started -/
def QzB(j:Nat)(Next:Goroutine→World→Prop)(g:Goroutine)(w:World):Prop:=
 g.status= .running∧∃g' child,stepG K.P true g w= .spawn g' child w #[]∧child.status= .running∧(PayAt K.C K.L w→QA7 K j child w)∧Next g' w
def QAi(j:Nat)(Next:Goroutine→World→Prop)(g:Goroutine)(w:World):Prop:=
 g.status= .running∧∃g',stepG K.P true g w= .go g' w #[mk .enable]∧∃m,Goes K.P true (RC K.ty K.F.Wg K.C) (DC K j) (QzB K j Next) m g' w
def QAh(j:Nat)(Next:Goroutine→World→Prop)(g:Goroutine)(w:World):Prop:=
 g.status= .running∧∀v:Nat,v<2147483647→WgAt K.ty K.F.Wg w (v*KK) 0→
  ∃g',stepG K.P true g w= .go g' (w.setCell (stA K.F.Wg) (.int .u64 ((v+1)*KK))) #[rd (stA K.F.Wg),wr (stA K.F.Wg)]∧∃m,Goes K.P true (RC K.ty K.F.Wg K.C) (DC K j) (QAi K j Next) m g' (w.setCell (stA K.F.Wg) (.int .u64 ((v+1)*KK)))
def QzU(j:Nat)(Next:Goroutine→World→Prop)(g:Goroutine)(w:World):Prop:=
 g.status= .running∧∃g',stepG K.P true g w= .go g' w #[mk .disable]∧∃m,Goes K.P true (RC K.ty K.F.Wg K.C) (DC K j) (QAh K j Next) m g' w
def FinM(g:Goroutine)(w:World):Prop:=∃m,Goes K.P true (RC K.ty K.F.Wg K.C) (DC K K.n) (QzV K) m g w
def Qzs:Nat→Goroutine→World→Prop
 |0,g,w=>FinM K g w
 |r+1,g,w=>∃m,Goes K.P true (RC K.ty K.F.Wg K.C) (DC K (K.n - (r+1))) (QzU K (K.n - (r+1)) (Qzs r)) m g w
inductive CM:CTag→Nat→Nat→Nat→Goroutine→World→Prop
 |skd {r m:Nat} {g:Goroutine} {w:World}:r<K.n→Goes K.P true (RC K.ty K.F.Wg K.C) (DC K (K.n - (r+1))) (QzU K (K.n - (r+1)) (Qzs K r)) m g w→CM (.sp r 5) (K.n - (r+1)) m 0 g w
 |sa1 {r m:Nat} {g:Goroutine} {w:World}:r<K.n→Goes K.P true (RC K.ty K.F.Wg K.C) (DC K (K.n - (r+1))) (QAh K (K.n - (r+1)) (Qzs K r)) m g w→CM (.sp r 4) (K.n - (r+1)) m 1 g w
 |ske {r m:Nat} {g:Goroutine} {w:World}:r<K.n→Goes K.P true (RC K.ty K.F.Wg K.C) (DC K (K.n - (r+1))) (QAi K (K.n - (r+1)) (Qzs K r)) m g w→CM (.sp r 3) (K.n - (r+1)) m 1 g w
 |sgo {r m:Nat} {g:Goroutine} {w:World}:r<K.n→Goes K.P true (RC K.ty K.F.Wg K.C) (DC K (K.n - (r+1))) (QzB K (K.n - (r+1)) (Qzs K r)) m g w→CM (.sp r 2) (K.n - (r+1)) m 0 g w
 |kd {m:Nat} {g:Goroutine} {w:World}:Goes K.P true (RC K.ty K.F.Wg K.C) (DC K K.n) (QzV K) m g w→CM .kd K.n m 0 g w
 |anch {m:Nat} {g:Goroutine} {w:World}:Goes K.P true (RC K.ty K.F.Wg K.C) (DC K K.n) K.An m g w→CM .anch K.n m 1 g w
 |w1 {m:Nat} {g:Goroutine} {w:World}:Goes K.P true (RC K.ty K.F.Wg K.C) (DC K K.n) (Qzr K) m g w→CM .w1 K.n m 1 g w
 |w2 {vs m:Nat} {g:Goroutine} {w:World}:Goes K.P true (RC K.ty K.F.Wg K.C) (DC K K.n) (QAj K vs) m g w→CM (.w2 vs) K.n m 1 g w
 |w3 {m:Nat} {g:Goroutine} {w:World}:Goes K.P true (RC K.ty K.F.Wg K.C) (DC K K.n) (QzX K) m g w→CM .w3 K.n (m+1) 1 g w
 |blk {g:Goroutine} {w:World}:(∀w₁,RC K.ty K.F.Wg K.C w w₁→QzX K g w₁)→CM .blk K.n 0 1 { g with status:= .blocked} w
 |w4 {m:Nat} {g:Goroutine} {w:World}:Goes K.P true (RC K.ty K.F.Wg K.C) (DC K K.n) (QAk K) m g w→CM .w4 K.n m 1 g w
 |ke {m:Nat} {g:Goroutine} {w:World}:Goes K.P true (RC K.ty K.F.Wg K.C) (DC K K.n) (QzW K) m g w→CM .ke K.n m 1 g w
 |acq {m:Nat} {g:Goroutine} {w:World}:Goes K.P true (RC K.ty K.F.Wg K.C) (DC K K.n) (QzT K) m g w→CM .acq K.n m 0 g w
end
section
variable [Payload] {K : Crew} {k s m d : Nat} {g : Goroutine} {w w' : World}
theorem WM.rely(A:QCu K)(hk:k<K.n)(h:WM K k s m d g w)(hr:RM K (K.Lws (k+1)) (K.lo k) (K.lo (k+1)) w w'):WM K k s m d g w':=by
 cases h with
 |pre h=>exact .pre (Goes.rely (fun _ _ _ h1 h2=>h1.trans h2) h hr)
 |post hs h=>exact .post hs (h.rely (hr.one (i:=K.lo k+1 - 1) (Nat.le_refl _) (A.step k hk)))
theorem WM.status(h:WM K k s m d g w):g.status= .running∨g.status= .finished:=by
 cases h with
 |pre h=>exact .inl (Goes.running (fun _ _ x=>x.1) w (RM.refl w) h)
 |post hs h=>exact h.status
theorem WM.woken(h:WM K k s m d g w)(a a':Goroutine)(w':World):woken K.P a a' w' g=g:=by
 unfold Go.Conc.woken
 split
 ·exact again_running _ h.status
 ·rfl
theorem WM.running(h:WM K k s m d g w)(hs:s≠1):g.status= .running:=by
 cases h with
 |pre h=>exact Goes.running (fun _ _ x=>x.1) w (RM.refl w) h
 |post _ h=>exact h.running_of hs
theorem WM.quits(h:WM K k s m d g w)(hs:s=1):QuitsD K.P m d g:=by
 cases h with
 |pre h=>cases hs
 |post _ h=>exact h.quits hs
variable {tag : CTag} {j f : Nat} {a : Goroutine}
theorem CM.rely(h:CM K tag j f d a w)(hr:RC K.ty K.F.Wg K.C w w'):CM K tag j f d a w':=by
 have tr: ∀x y z,RC K.ty K.F.Wg K.C x y→RC K.ty K.F.Wg K.C y z→RC K.ty K.F.Wg K.C x z:=fun _ _ _ h1 h2=>h1.trans h2
 cases h with
 |skd hn h=>exact .skd hn (Goes.rely tr h hr)
 |sa1 hn h=>exact .sa1 hn (Goes.rely tr h hr)
 |ske hn h=>exact .ske hn (Goes.rely tr h hr)
 |sgo hn h=>exact .sgo hn (Goes.rely tr h hr)
 |kd h=>exact .kd (Goes.rely tr h hr)
 |anch h=>exact .anch (Goes.rely tr h hr)
 |w1 h=>exact .w1 (Goes.rely tr h hr)
 |w2 h=>exact .w2 (Goes.rely tr h hr)
 |w3 h=>exact .w3 (Goes.rely tr h hr)
 |blk h=>exact .blk (fun w₂ h₂=>h w₂ (hr.trans h₂))
 |w4 h=>exact .w4 (Goes.rely tr h hr)
 |ke h=>exact .ke (Goes.rely tr h hr)
 |acq h=>exact .acq (Goes.rely tr h hr)
theorem CM.status(hAr: ∀g w,K.An g w→g.status= .running)(h:CM K tag j f d a w):(a.status= .running∧tag≠ .blk)∨(a.status= .blocked∧tag= .blk):=by
 cases h with
 |blk h=>exact .inr ⟨rfl,rfl⟩
 |anch h=>exact .inl ⟨Goes.running hAr w (.refl w) h,by simp⟩
 |skd _ h=>exact .inl ⟨Goes.running (fun _ _ x=>x.1) w (.refl w) h,by simp⟩
 |sa1 _ h=>exact .inl ⟨Goes.running (fun _ _ x=>x.1) w (.refl w) h,by simp⟩
 |ske _ h=>exact .inl ⟨Goes.running (fun _ _ x=>x.1) w (.refl w) h,by simp⟩
 |sgo _ h=>exact .inl ⟨Goes.running (fun _ _ x=>x.1) w (.refl w) h,by simp⟩
 |kd h=>exact .inl ⟨Goes.running (fun _ _ x=>x.1) w (.refl w) h,by simp⟩
 |w1 h=>exact .inl ⟨Goes.running (fun _ _ x=>x.1) w (.refl w) h,by simp⟩
 |w2 h=>exact .inl ⟨Goes.running (fun _ _ x=>x.1) w (.refl w) h,by simp⟩
 |w3 h=>exact .inl ⟨Goes.running (fun _ _ x=>x.1) w (.refl w) h,by simp⟩
 |w4 h=>exact .inl ⟨Goes.running (fun _ _ x=>x.1) w (.refl w) h,by simp⟩
 |ke h=>exact .inl ⟨Goes.running (fun _ _ x=>x.1) w (.refl w) h,by simp⟩
 |acq h=>exact .inl ⟨Goes.running (fun _ _ x=>x.1) w (.refl w) h,by simp⟩
theorem CM.wokenBy(hAr: ∀g w,K.An g w→g.status= .running)(h:CM K tag j f d a w)(hr:RC K.ty K.F.Wg K.C w w')(g g':Goroutine):
 ∃tag' f',CM K tag' j f' d (woken K.P g g' w' a) w'∧f'≤f+1∧(tag'=tag∨(tag= .blk∧tag'= .w3))∧(mayWake K.P g=true→g'.status= .running→tag'≠ .blk):=by
 have h':=h.rely hr
 unfold Go.Conc.woken
 split
 ·rcases h'.status hAr with⟨hs,hne⟩|⟨_,rfl⟩
  ·exact⟨tag,f,by rw[again_running _ (.inl hs)];exact h',by omega,.inl rfl,fun _ _=>hne⟩
  ·cases h' with
   |blk hb=>
    have h3:=hb w' (.refl w')
    exact⟨.w3,0+1,by rw[Go.ConcR.again_blocked h3.1 h3.2.1];exact .w3 (Goes.stop hb),by omega,.inr ⟨rfl,rfl⟩,fun _ _=>by simp⟩
 ·rename_i hc
  exact⟨tag,f,h',by omega,.inl rfl,fun h1 h2=>absurd (by simp[h1,h2]) hc⟩
theorem CM.bound(h:CM K tag j f d a w):j+Go.ConcN.pend tag≤K.n:=by
 cases h<;>simp only[Go.ConcN.pend]<;>(try simp)<;>omega
end
end Go.Proofs.YtgaimkihacljdaaGreat
/- n workers and their starter, beside goroutines that only leave: what holds of the machine and the trace; the laws of a step. (Round C) -/
namespace Go.Proofs.YtgaimkihacljdaaGreat
set_option linter.unusedSectionVars false
open Go.Conc
open Go.ConcN (PermW ShN RelBy RW RC WgLive PayAt Has Full WSit CTag WD sumTo upd upd_same upd_ne sumTo_upd phi phi_mono phi_retag pend cnt Vc Ssum Fsum norel_of Deaf_still Deaf_absent get_map_set get_map_set_same)
open Go.ConcR (KK wgBlock WgAt stA smA rd wr mk Payload Aside2 DC0 g_of_ofEvents)
section
variable [Payload] (K : Crew)
structure ComM(j:Nat)(gs:Array Goroutine)(w:World)(T:Trace)(D:Nat→WD)(q:Nat→Nat)(d0:Nat):Prop where
 size:gs.size=K.F.base+j
 old: ∀i,0<i→i<K.F.base→∃g,gs[i]? =some g∧QuitsD K.P (q i) (Deaf T i) g
 wk: ∀k,k<j→∃g,gs[K.F.base+k]? =some g∧WM K k (D k).stage (D k).fuel (D k).deaf g w
 le:j≤K.n
 tr:Tr K.F T j
 norel:NoRelease (stA K.F.Wg) T
 deaf0:Deaf T 0=d0
 deafW: ∀k,k<j→Deaf T (K.F.base+k)=(D k).deaf
 rel: ∀k,k<j→(D k).stage≤6→∃r,RelBy (stA K.F.Wg) T (K.F.base+k) r
 has: ∀k,k<j→(D k).stage≤6→HasM K k w
 pay:PayAt K.C K.L w
 seen: ∀op∈T,op.act.low K.B
 over: ∀i g,T.g? i=some g→g≠0→(g<K.F.base∨K.F.base+j≤g)→T.counts i→∃p,T.g? p=some 0∧HappensBefore T i p
 above: ∀g,K.F.base+j≤g→Deaf T g=0
def InvM(μ:Nat×Nat)(m:Machine)(T:Trace):Prop:=
 ∃(gs:Array Goroutine) (w:World) (sl:Option (Nat×Nat)) (j:Nat) (D:Nat→WD) (q:Nat→Nat) (tag:CTag) (f0 d0:Nat) (a:Goroutine) (st sm:Int),
  m=crowd gs w sl∧gs[0]? =some a∧CM K tag j f0 d0 a w∧ComM K j gs w T D q d0∧WgAt K.ty K.F.Wg w st sm∧Go.ConcN.Mode j D tag st sm∧
  μ=(phi K.n (Vc j D) tag+Ssum j D,f0+2*Fsum j D+2*sumTo K.F.base q)
end
theorem Qzz{base j:Nat}{T u:Trace}(h: ∀i g,T.g? i=some g→g≠0→(g<base∨base+j≤g)→T.counts i→∃p,T.g? p=some 0∧HappensBefore T i p)
 (hu: ∀op∈u,op.g=0∨(base≤op.g∧op.g<base+j)∨op.act.touch? =none): ∀i g,(T++u).g? i=some g→g≠0→(g<base∨base+j≤g)→(T++u).counts i→∃p,(T++u).g? p=some 0∧HappensBefore (T++u) i p:=by
 intro i g hg hne hlt hc
 obtain⟨x,hx,_⟩:=hc
 obtain⟨op,hop,hox⟩:=touch_of hx
 rcases getElem?_append_cases hop with⟨hi,hop'⟩|⟨_,hopu⟩
 ·obtain⟨p,hp,hb⟩:=h i g (by simpa [Trace.g?,getElem?_append_old hi] using hg) hne hlt ((counts_old hi).1 ⟨x,hx,‹_›⟩)
  have hpl:p<T.size:=by
   unfold Trace.g? at hp
   obtain⟨z,hz,_⟩:=Option.map_eq_some_iff.1 hp
   exact lt_size_of_getElem? hz
  exact⟨p,by simpa [Trace.g?,getElem?_append_old hpl] using hp,hb_app u hb⟩
 ·have hgo:op.g=g:=by simpa [Trace.g?,hop] using hg
  rcases hu op hopu with h0|h0|h0
  ·exact absurd (hgo.symm.trans h0) hne
  ·omega
  ·rw[h0] at hox;cases hox
section
variable [Payload] {K : Crew} {j : Nat} {gs : Array Goroutine} {w w' : World} {T : Trace} {D : Nat → WD} {q : Nat → Nat} {d0 : Nat}
theorem ComM.at(A:QCu K)(h:ComM K j gs w T D q d0)(d:Nat):ComM K j gs (w.at d) T D q d0:=
 ⟨h.size,h.old,fun k hk=>let⟨g,hg,hs⟩:=h.wk k hk;⟨g,hg,hs.rely A (Nat.lt_of_lt_of_le hk h.le) (RM.at w d)⟩,h.le,h.tr,h.norel,h.deaf0,h.deafW,h.rel,h.has,h.pay,h.seen,h.over,h.above⟩
theorem QzR{P:Program}{q d:Nat}{g:Goroutine}(h:QuitsD P q d g)(a a':Goroutine)(w:World):woken P a a' w g=g:=woken_quitsD h
theorem Qz8{g:Nat}{fn:FuncId}{pos:String}{es:Array Event}{B:Nat}(h: ∀e∈es,(MemAct.ofEvent e).low B): ∀op∈MemOp.ofEvents g fn pos es,op.act.low B:=by
 intro op hop
 obtain⟨e,he,rfl⟩:=Go.Conc.mem_ofEvents hop
 exact h e he
theorem ComM.stepW(A:QCu K)(h:ComM K j gs w T D q d0){k:Nat}(hk:k<j){g g':Goroutine}{fn:FuncId}{pos:String}{es:Array Event}{s' m' dd':Nat}
 (hrw: ∀k',k'<j→k'≠k→RM K (K.Lws (k'+1)) (K.lo k') (K.lo (k'+1)) w w')(hs':WM K k s' m' dd' g' w')
 (hok: ∀op∈MemOp.ofEvents (K.F.base+k) fn pos es,OW K.F k op)(hnr: ∀e∈es,e.loc≠ .mark (.release (stA K.F.Wg)))(hlow: ∀e∈es,(MemAct.ofEvent e).low K.B)
 (hdeaf:deafBehind (D k).deaf es=dd')(hrel:s'≤6→∃r,RelBy (stA K.F.Wg) (T++MemOp.ofEvents (K.F.base+k) fn pos es) (K.F.base+k) r)
 (hhas:s'≤6→HasM K k w')(hpay:PayAt K.C K.L w'):
 ComM K j ((gs.map (woken K.P g g' w')).setIfInBounds (K.F.base+k) g') w' (T++MemOp.ofEvents (K.F.base+k) fn pos es) (upd D k ⟨s',m',dd'⟩) q d0:=by
 have hb:=A.fam.pos
 refine⟨by simp[h.size],fun i h0 hi=>?_,fun k' hk'=>?_,h.le,h.tr.appW A.fam hk hok,h.norel.app (norel_of hnr),by rw[Deaf_other T (by omega) _ g_of_ofEvents,h.deaf0],fun k' hk'=>?_,fun k' hk' hst=>?_,fun k' hk' hst=>?_,hpay,seen_app h.seen (Qz8 hlow),Qzz h.over fun op hop=> .inr (.inl (by rw[g_of_ofEvents op hop];omega)),fun g hg=>by rw[Deaf_other T (by omega) _ g_of_ofEvents];exact h.above g hg⟩
 ·obtain⟨x,hx,hq⟩:=h.old i h0 hi
  exact⟨x,by rw[get_map_set _ _ _ _ (by omega),hx,Option.map_some,QzR hq],by rw[Deaf_other T (by omega) _ g_of_ofEvents];exact hq⟩
 ·by_cases e:k'=k
  ·subst e
   exact⟨g',get_map_set_same _ _ _ (by rw[h.size];omega),by rw[upd_same];exact hs'⟩
  ·obtain⟨x,hx,hsx⟩:=h.wk k' hk'
   refine⟨x,by rw[get_map_set _ _ _ _ (by omega),hx,Option.map_some,hsx.woken],?_⟩
   rw[upd_ne D _ e]
   exact hsx.rely A (Nat.lt_of_lt_of_le hk' h.le) (hrw k' hk' e)
 ·by_cases e:k'=k
  ·subst e;rw[Deaf_own,h.deafW k' hk',upd_same];exact hdeaf
  ·rw[Deaf_other T (by omega) _ g_of_ofEvents,h.deafW k' hk',upd_ne D _ e]
 ·by_cases e:k'=k
  ·subst e;rw[upd_same] at hst;exact hrel hst
  ·rw[upd_ne D _ e] at hst
   obtain⟨r,hr⟩:=h.rel k' hk' hst
   exact⟨r,hr.appOther g_of_ofEvents (by omega)⟩
 ·by_cases e:k'=k
  ·subst e;rw[upd_same] at hst;exact hhas hst
  ·rw[upd_ne D _ e] at hst
   exact fun i h1 h2=>((hrw k' hk' e).cell i h1 h2).trans (h.has k' hk' hst i h1 h2)
theorem ComM.step0(A:QCu K)(h:ComM K j gs w T D q d0){a a':Goroutine}{fn:FuncId}{pos:String}{es:Array Event}
 (hrw: ∀k,k<j→RM K (K.Lws (k+1)) (K.lo k) (K.lo (k+1)) w w')
 (hok: ∀op∈MemOp.ofEvents 0 fn pos es,O0 K.F j op)(hnr: ∀e∈es,e.loc≠ .mark (.release (stA K.F.Wg)))(hlow: ∀e∈es,(MemAct.ofEvent e).low K.B)(hpay:PayAt K.C K.L w'):
 ComM K j ((gs.map (woken K.P a a' w')).setIfInBounds 0 a') w' (T++MemOp.ofEvents 0 fn pos es) D q (deafBehind d0 es):=by
 have hb:=A.fam.pos
 refine⟨by simp[h.size],fun i h0 hi=>?_,fun k hk=>?_,h.le,h.tr.app0 A.fam hok,h.norel.app (norel_of hnr),by rw[Deaf_own,h.deaf0],fun k hk=>by rw[Deaf_other T (by omega) _ g_of_ofEvents,h.deafW k hk],fun k hk hst=>?_,fun k hk hst i h1 h2=>((hrw k hk).cell i h1 h2).trans (h.has k hk hst i h1 h2),hpay,seen_app h.seen (Qz8 hlow),Qzz h.over fun op hop=> .inl (g_of_ofEvents op hop),fun g hg=>by rw[Deaf_other T (by omega) _ g_of_ofEvents];exact h.above g hg⟩
 ·obtain⟨x,hx,hq⟩:=h.old i h0 hi
  exact⟨x,by rw[get_map_set _ _ _ _ (by omega),hx,Option.map_some,QzR hq],by rw[Deaf_other T (by omega) _ g_of_ofEvents];exact hq⟩
 ·obtain⟨x,hx,hsx⟩:=h.wk k hk
  exact⟨x,by rw[get_map_set _ _ _ _ (by omega),hx,Option.map_some,hsx.woken],hsx.rely A (Nat.lt_of_lt_of_le hk h.le) (hrw k hk)⟩
 ·obtain⟨r,hr⟩:=h.rel k hk hst
  exact⟨r,hr.appOther g_of_ofEvents (by omega)⟩
theorem ComM.stepL(h:ComM K j gs w T D q d0){i n:Nat}(h0:0<i)(hi:i<K.F.base){g g':Goroutine}{fn:FuncId}{pos:String}{es:Array Event}(hm: ∀e∈es,e.mute=true)(hq':QuitsD K.P n (deafBehind (Deaf T i) es) g'):
 ComM K j ((gs.map (woken K.P g g' w)).setIfInBounds i g') w (T++MemOp.ofEvents i fn pos es) D (upd q i n) d0:=by
 have no: ∀op∈MemOp.ofEvents i fn pos es,op.act.touch? =none:=fun op hop=>by obtain⟨e,he,rfl⟩:=Go.Conc.mem_ofEvents hop;exact touch_mute (hm e he)
 have nr: ∀e∈es,e.loc≠ .mark (.release (stA K.F.Wg)):=fun e he hl=>by
  have:=hm e he
  obtain⟨loc,wr,sy⟩:=e
  simp only at hl
  subst hl
  simp[Event.mute] at this
 refine⟨by simp[h.size],fun x hx0 hx=>?_,fun k hk=>?_,h.le,h.tr.appM (g:=i) fun op hop=>⟨g_of_ofEvents op hop,no op hop⟩,h.norel.app (norel_of nr),by rw[Deaf_other T (by omega) _ g_of_ofEvents,h.deaf0],fun k hk=>by rw[Deaf_other T (by omega) _ g_of_ofEvents,h.deafW k hk],fun k hk hst=>?_,h.has,h.pay,seen_app h.seen (Qz8 fun e he=>low_mute (hm e he) _),Qzz h.over fun op hop=> .inr (.inr (no op hop)),fun g hg=>by rw[Deaf_other T (by omega) _ g_of_ofEvents];exact h.above g hg⟩
 ·by_cases e:x=i
  ·subst e
   exact⟨g',get_map_set_same _ _ _ (by rw[h.size];omega),by rw[upd_same,Deaf_own];exact hq'⟩
  ·obtain⟨y,hy,hqy⟩:=h.old x hx0 hx
   exact⟨y,by rw[get_map_set _ _ _ _ (by omega),hy,Option.map_some,QzR hqy],by rw[upd_ne q _ e,Deaf_other T (by omega) _ g_of_ofEvents];exact hqy⟩
 ·obtain⟨x,hx,hsx⟩:=h.wk k hk
  exact⟨x,by rw[get_map_set _ _ _ _ (by omega),hx,Option.map_some,hsx.woken],hsx⟩
 ·obtain⟨r,hr⟩:=h.rel k hk hst
  exact⟨r,hr.appOther g_of_ofEvents (by omega)⟩
theorem ComM.spawn(A:QCu K)(h:ComM K j gs w T D q 0)(hj:j<K.n){a' child:Goroutine}{x y:MemOp}{m:Nat}(hx:x.g=0∧x.act= .go (K.F.base+j))(hy:y.g=K.F.base+j∧y.act= .start)
 (hc:Goes K.P false (RM K (K.Lws (j+1)) (K.lo j) (K.lo (j+1))) (DM K j) (AtM K j) m child w):
 ComM K (j+1) ((gs.setIfInBounds 0 a').push child) w (T++ #[x,y]) (upd D j ⟨7,m,0⟩) q 0:=by
 have hb:=A.fam.pos
 have hm: ∀op∈ #[x,y],op=x∨op=y:=by intro op hop;simpa using hop
 have hst: ∀op∈ #[x,y],op.act≠ .mark .disable∧op.act≠ .mark .enable:=by
  intro op hop
  rcases hm op hop with rfl|rfl
  ·rw[hx.2];exact⟨by simp,by simp⟩
  ·rw[hy.2];exact⟨by simp,by simp⟩
 have low: ∀{i:Nat},i<K.F.base+j→i≠0→((gs.setIfInBounds 0 a').push child)[i]? =gs[i]? :=fun{i} hi h0=>by
  rw[Array.getElem?_push_lt (by simp[h.size];omega),←Array.getElem?_eq_getElem,Array.getElem?_setIfInBounds_ne (by omega)]
 refine⟨by simp[h.size];omega,fun i h0 hi=>?_,fun k hk=>?_,hj,h.tr.fork A.fam hx hy h.deaf0 (h.above _ (Nat.le_refl _)),h.norel.app fun op hop=>?_,by rw[Deaf_still T 0 _ hst,h.deaf0],fun k hk=>?_,fun k hk hs=>?_,fun k hk hs=>?_,h.pay,seen_app h.seen fun op hop=>?_,fun i g hg hne hor hc=>Qzz h.over (u:=#[x,y]) (fun op hop=>?_) i g hg hne (by omega) hc,fun g hg=>by rw[Deaf_still T g _ hst];exact h.above g (by omega)⟩
 ·obtain⟨g,hg,hq⟩:=h.old i h0 hi
  exact⟨g,(low (by omega) (by omega)).trans hg,by rw[Deaf_still T i _ hst];exact hq⟩
 ·rcases Nat.lt_or_ge k j with hlt|hge
  ·obtain⟨g,hg,hsg⟩:=h.wk k hlt
   exact⟨g,(low (by omega) (by omega)).trans hg,by rw[upd_ne D _ (by omega)];exact hsg⟩
  ·obtain rfl:k=j:=by omega
   refine⟨child,?_,by rw[upd_same];exact .pre hc⟩
   rw[show K.F.base+k=(gs.setIfInBounds 0 a').size by simp[h.size],Array.getElem?_push_size]
 ·rcases hm op hop with rfl|rfl
  ·rw[hx.2];simp
  ·rw[hy.2];simp
 ·rw[Deaf_still T _ _ hst]
  rcases Nat.lt_or_ge k j with hlt|hge
  ·rw[h.deafW k hlt,upd_ne D _ (by omega)]
  ·obtain rfl:k=j:=by omega
   rw[upd_same]
   exact h.above _ (Nat.le_refl _)
 ·rcases Nat.lt_or_ge k j with hlt|hge
  ·rw[upd_ne D _ (by omega)] at hs
   obtain⟨r,hr⟩:=h.rel k hlt hs
   refine⟨r,hr.appNot fun op hop=>?_⟩
   rcases hm op hop with rfl|rfl
   ·rw[hx.1];omega
   ·rw[hy.1];omega
  ·obtain rfl:k=j:=by omega
   rw[upd_same] at hs
   simp at hs
 ·rcases Nat.lt_or_ge k j with hlt|hge
  ·rw[upd_ne D _ (by omega)] at hs
   exact h.has k hlt hs
  ·obtain rfl:k=j:=by omega
   rw[upd_same] at hs
   simp at hs
 ·rcases hm op hop with rfl|rfl
  ·rw[hx.2];trivial
  ·rw[hy.2];trivial
 ·rcases hm op hop with rfl|rfl
  ·exact .inl hx.1
  ·exact .inr (.inr (by rw[hy.2];rfl))
end
section
variable [Payload] {K : Crew} {j : Nat} {gs : Array Goroutine} {w w' : World} {T : Trace} {D : Nat → WD} {q : Nat → Nat} {d0 f0 : Nat} {sl : Option (Nat × Nat)} {tag : CTag} {a : Goroutine}
def Onw(K:Crew)(gs:Array Goroutine)(w:World)(sl:Option (Nat×Nat))(T:Trace)(μ:Nat×Nat)(i:Nat):Prop:=
 ∃m₁ ops μ',runT K.P (crowd gs w sl) i=(.next m₁,ops)∧Lt2 μ' μ∧InvM K μ' m₁ (T++ops)
theorem QAg(A:QCu K)(hAr: ∀g w,K.An g w→g.status= .running)(ha:gs[0]? =some a)(hcs:CM K tag j f0 d0 a w)(hcom:ComM K j gs w T D q d0)
 {k:Nat}(hk:k<j){g g':Goroutine}{es:Array Event}{s' m' dd':Nat}{st' sm':Int}(hg:gs[K.F.base+k]? =some g)(hgo:stepG K.P false g w= .go g' w' es)
 (hA2:RC K.ty K.F.Wg K.C w w')(hrw: ∀k',k'<j→k'≠k→RM K (K.Lws (k'+1)) (K.lo k') (K.lo (k'+1)) w w')(hs':WM K k s' m' dd' g' w')
 (hok: ∀op∈MemOp.ofEvents (K.F.base+k) g.frame.fn g.frame.place es,OW K.F k op)(hnr: ∀e∈es,e.loc≠ .mark (.release (stA K.F.Wg)))(hlow: ∀e∈es,(MemAct.ofEvent e).low K.B)
 (hdeaf:deafBehind (D k).deaf es=dd')(hrel:s'≤6→∃r,RelBy (stA K.F.Wg) (T++MemOp.ofEvents (K.F.base+k) g.frame.fn g.frame.place es) (K.F.base+k) r)
 (hhas:s'≤6→HasM K k w')(hpay:PayAt K.C K.L w')(hwg:WgAt K.ty K.F.Wg w' st' sm')
 (hmode: ∀tag',(tag'=tag∨(tag= .blk∧tag'= .w3))→(mayWake K.P g=true→g'.status= .running→tag'≠ .blk)→Go.ConcN.Mode j (upd D k ⟨s',m',dd'⟩) tag' st' sm')
 (hlt:(s'<(D k).stage∧cnt ⟨s',m',dd'⟩≤cnt (D k))∨(s'=(D k).stage∧m'+1=(D k).fuel)):
 Onw K gs w sl T (phi K.n (Vc j D) tag+Ssum j D,f0+2*Fsum j D+2*sumTo K.F.base q) (K.F.base+k):=by
 have hb:=A.fam.pos
 obtain⟨tag',f',hcs',hf',htag,hwk⟩:=hcs.wokenBy hAr hA2 g g'
 have hrun:=runT_crowd_go (P:=K.P) (sl:=sl) (i:=K.F.base+k) hg (by rw[show(K.F.base+k == 0)=false by simp;omega];exact hgo)
 have e1:=sumTo_upd D (⟨s',m',dd'⟩:WD) cnt hk
 have e2:=sumTo_upd D (⟨s',m',dd'⟩:WD) WD.stage hk
 have e3:=sumTo_upd D (⟨s',m',dd'⟩:WD) WD.fuel hk
 refine⟨_,_,(phi K.n (Vc j (upd D k ⟨s',m',dd'⟩)) tag'+Ssum j (upd D k ⟨s',m',dd'⟩),f'+2*Fsum j (upd D k ⟨s',m',dd'⟩)+2*sumTo K.F.base q),hrun,?_,
  _,w',sl,j,upd D k ⟨s',m',dd'⟩,q,tag',f',d0,woken K.P g g' w' a,st',sm',rfl,by rw[get_map_set _ _ _ _ (by omega),ha];rfl,hcs',hcom.stepW A hk hrw hs' hok hnr hlow hdeaf hrel hhas hpay,hwg,hmode tag' htag hwk,rfl⟩
 rw[phi_retag K.n _ htag]
 simp only[Vc,Ssum,Fsum] at*
 rcases hlt with⟨h1,h2⟩|⟨h1,h2⟩
 ·refine Prod.Lex.left _ _ ?_
  have:=phi_mono K.n (v':=sumTo j fun a=>cnt (upd D k ⟨s',m',dd'⟩ a)) (v:=sumTo j fun a=>cnt (D a)) (by omega) tag
  omega
 ·have ec:cnt (⟨s',m',dd'⟩:WD)=cnt (D k):=by simp only[cnt,h1]
  have ev:(sumTo j fun a=>cnt (upd D k ⟨s',m',dd'⟩ a))=sumTo j fun a=>cnt (D a):=by omega
  have es':(sumTo j fun a=>(upd D k ⟨s',m',dd'⟩ a).stage)=sumTo j fun a=>(D a).stage:=by omega
  rw[ev,es']
  refine Prod.Lex.right _ ?_
  omega
theorem QBC(hAr: ∀g w,K.An g w→g.status= .running)(ha:gs[0]? =some a)(hcs:CM K tag j f0 d0 a w)(hcom:ComM K j gs w T D q d0){st sm:Int}(hwg:WgAt K.ty K.F.Wg w st sm)(hmode:Go.ConcN.Mode j D tag st sm)
 {i:Nat}(h0:0<i)(hi:i<K.F.base){g:Goroutine}(hg:gs[i]? =some g)(hrun:g.status= .running):
 Onw K gs w sl T (phi K.n (Vc j D) tag+Ssum j D,f0+2*Fsum j D+2*sumTo K.F.base q) i:=by
 obtain⟨x,hx,hq⟩:=hcom.old i h0 hi
 obtain rfl:g=x:=by rw[hg] at hx;exact Option.some.inj hx
 cases hqi:q i with
 |zero=>rw[hqi] at hq;rw[hq.1] at hrun;cases hrun
 |succ n=>
  rw[hqi] at hq
  rcases hq with⟨hf,_⟩|⟨_,g',es,hm,hstp,hq'⟩
  ·rw[hf] at hrun;cases hrun
  ·obtain⟨tag',f',hcs',hf',htag,hwk⟩:=hcs.wokenBy hAr (.refl w) g g'
   have hrunT:=runT_crowd_go (P:=K.P) (sl:=sl) (i:=i) hg (by rw[show(i == 0)=false by simp;omega];exact hstp w)
   have e:=sumTo_upd q n id hi
   simp only[id,hqi] at e
   refine⟨_,_,(phi K.n (Vc j D) tag'+Ssum j D,f'+2*Fsum j D+2*sumTo K.F.base (upd q i n)),hrunT,?_,_,w,sl,j,D,upd q i n,tag',f',d0,woken K.P g g' w a,st,sm,rfl,by rw[get_map_set _ _ _ _ (by omega),ha];rfl,hcs',hcom.stepL h0 hi hm hq',hwg,hmode.retag htag,rfl⟩
   rw[phi_retag K.n _ htag]
   refine Prod.Lex.right _ ?_
   have e':(sumTo K.F.base fun a=>upd q i n a)+(n+1)=(sumTo K.F.base fun a=>q a)+n:=e
   have e'':sumTo K.F.base (upd q i n)+(n+1)=sumTo K.F.base q+n:=e'
   omega
theorem QAo(A:QCu K)(ha:gs[0]? =some a)(hcom:ComM K j gs w T D q d0)
 {a':Goroutine}{es:Array Event}{tag':CTag}{f':Nat}{st' sm':Int}(hgo:stepG K.P true a w= .go a' w' es)
 (hrw: ∀k,k<j→RM K (K.Lws (k+1)) (K.lo k) (K.lo (k+1)) w w')
 (hok: ∀op∈MemOp.ofEvents 0 a.frame.fn a.frame.place es,O0 K.F j op)(hnr: ∀e∈es,e.loc≠ .mark (.release (stA K.F.Wg)))(hlow: ∀e∈es,(MemAct.ofEvent e).low K.B)(hpay:PayAt K.C K.L w')
 (hcs':CM K tag' j f' (deafBehind d0 es) a' w')(hwg:WgAt K.ty K.F.Wg w' st' sm')(hmode:Go.ConcN.Mode j D tag' st' sm')
 (hlt:phi K.n (Vc j D) tag'<phi K.n (Vc j D) tag∨(phi K.n (Vc j D) tag'=phi K.n (Vc j D) tag∧f'<f0)):
 Onw K gs w sl T (phi K.n (Vc j D) tag+Ssum j D,f0+2*Fsum j D+2*sumTo K.F.base q) 0:=by
 have hrun:=runT_crowd_go (P:=K.P) (sl:=sl) (i:=0) ha hgo
 have hb:=A.fam.pos
 refine⟨_,_,(phi K.n (Vc j D) tag'+Ssum j D,f'+2*Fsum j D+2*sumTo K.F.base q),hrun,?_,_,w',sl,j,D,q,tag',f',_,a',st',sm',rfl,get_map_set_same _ _ _ (by rw[hcom.size];omega),hcs',hcom.step0 A hrw hok hnr hlow hpay,hwg,hmode,rfl⟩
 rcases hlt with h|⟨h1,h2⟩
 ·exact Prod.Lex.left _ _ (by omega)
 ·rw[h1];exact Prod.Lex.right _ (by omega)
end
end Go.Proofs.YtgaimkihacljdaaGreat
/- n workers and their starter, beside goroutines that only leave: a step of a worker's. (Round C) -/
namespace Go.Proofs.YtgaimkihacljdaaGreat
set_option linter.unusedSectionVars false
open Go.Conc
open Go.ConcN (PermW ShN RelBy RW RC WgLive PayAt Has Full WSit CTag WD sumTo upd upd_same upd_ne sumTo_upd le_sumTo phi phi_mono phi_retag pend cnt Vc Ssum Fsum norel_of norel_of_Bk Vc_upd others_uncounted isW3 isOpen OpenSt deafBehind_idle bk_cell cell_of_block)
open Go.ConcR (KK wgBlock WgAt stA smA rd wr mk Payload Aside2 DC0 Bk g_of_ofEvents bk_of_mute ofEvent_loc_mark ofEvent_cell)
theorem QBT{F:Fam}{k:Nat}{fn:FuncId}{pos:String}{es:Array Event}(h: ∀e∈es,Bk F.Wg e): ∀op∈MemOp.ofEvents (F.base+k) fn pos es,OW F k op:=by
 intro op hop
 obtain⟨e,he,rfl⟩:=Go.Conc.mem_ofEvents hop
 refine⟨rfl,fun x hx=>?_⟩
 rcases h e he with h1|h1|⟨a,wr,rfl,ha⟩
 ·simp only[ofEvent_loc_mark h1] at hx;cases hx
 ·simp only[ofEvent_loc_mark h1] at hx;cases hx
 ·simp only[ofEvent_cell,MemAct.touch?,Option.some.injEq] at hx
  subst hx
  exact .inl ⟨⟨a,rfl,ha⟩,rfl⟩
theorem QBQ{F:Fam}{j:Nat}{fn:FuncId}{pos:String}{es:Array Event}(h: ∀e∈es,Bk F.Wg e): ∀op∈MemOp.ofEvents 0 fn pos es,O0 F j op:=by
 intro op hop
 obtain⟨e,he,rfl⟩:=Go.Conc.mem_ofEvents hop
 refine⟨rfl,fun x hx=>?_⟩
 rcases h e he with h1|h1|⟨a,wr,rfl,ha⟩
 ·simp only[ofEvent_loc_mark h1] at hx;cases hx
 ·simp only[ofEvent_loc_mark h1] at hx;cases hx
 ·simp only[ofEvent_cell,MemAct.touch?,Option.some.injEq] at hx
  subst hx
  exact .inl ⟨⟨a,rfl,ha⟩,by simp⟩
theorem QAO{Wg B:Nat}(hB:Wg<B){e:Event}(h:Bk Wg e):(MemAct.ofEvent e).low B:=by
 rcases h with h1|h1|⟨a,wr,rfl,ha⟩
 ·rw[ofEvent_loc_mark h1];trivial
 ·rw[ofEvent_loc_mark h1];trivial
 ·rw[ofEvent_cell];show a.block<B;omega
theorem QBS{F:Fam}{k:Nat}{fn:FuncId}{pos:String}{es:Array Event}(h: ∀e∈es,(MemAct.ofEvent e).touch? =none): ∀op∈MemOp.ofEvents (F.base+k) fn pos es,OW F k op:=by
 intro op hop
 obtain⟨e,he,rfl⟩:=Go.Conc.mem_ofEvents hop
 exact⟨rfl,fun x hx=>by simp only[h e he] at hx;cases hx⟩
theorem QBU [Payload]{K:Crew}{k:Nat}{fn:FuncId}{pos:String}{es:Array Event}(h: ∀e∈es,EvM K k e): ∀op∈MemOp.ofEvents (K.F.base+k) fn pos es,OW K.F k op:=by
 intro op hop
 obtain⟨e,he,rfl⟩:=Go.Conc.mem_ofEvents hop
 exact(h e he).1 fn pos
section
variable [Payload] {K : Crew} {j : Nat} {gs : Array Goroutine} {w w' : World} {T : Trace} {D : Nat → WD} {q : Nat → Nat} {d0 f0 : Nat} {sl : Option (Nat × Nat)} {tag : CTag} {a : Goroutine} {st sm : Int}
theorem Qz7(A:QCu K): ∀{x y:Nat},x≤y→y≤K.n→K.lo x≤K.lo y
 |x,0,h,_=>by obtain rfl:x=0:=by omega
              exact Nat.le_refl _
 |x,y+1,h,hy=>by
  rcases Nat.lt_or_ge x (y+1) with hlt|hge
  ·have:=Qz7 A (x:=x) (y:=y) (by omega) (by omega)
   have:=A.step y (by omega)
   omega
  ·obtain rfl:x=y+1:=by omega
   exact Nat.le_refl _
theorem QBE(A:QCu K){k k':Nat}(hk:k<K.n)(hk':k'<K.n)(h:k'≠k):K.lo (k'+1)≤K.lo k∨K.lo (k+1)≤K.lo k':=by
 rcases Nat.lt_or_ge k k' with hlt|hge
 ·exact .inr (Qz7 A (by omega) (by omega))
 ·exact .inl (Qz7 A (by omega) (by omega))
theorem QAn(A:QCu K)(hAr: ∀g w,K.An g w→g.status= .running)(ha:gs[0]? =some a)(hcs:CM K tag j f0 d0 a w)(hcom:ComM K j gs w T D q d0){k:Nat}(hk:k<j){g g':Goroutine}{es:Array Event}{s s' m m' dd dd':Nat}{st' sm':Int}
 (hst:(D k).stage=s)(hfu:(D k).fuel=m)(hde:(D k).deaf=dd)(hg:gs[K.F.base+k]? =some g)(hgo:stepG K.P false g w= .go g' w' es)(hAs:Aside K.F.Wg w w')(hwg':WgAt K.ty K.F.Wg w' st' sm')(hbk: ∀e∈es,Bk K.F.Wg e)
 (hd: ∀jx e,es[jx]? =some e→(MemAct.ofEvent e).touch? =none∨0<deafBehind dd (es.extract 0 jx))(hs':WSit K.P K.ty K.F.Wg K.C K.L (fun _ _=>False) (fun _ _=>False) (K.Lws (k+1)) (K.lo k+1) (.bool false) s' m' dd' g' w')(h6':s'≤6)(hdd:deafBehind dd es=dd')(h6:s≤6)
 (hmode': ∀tag',(tag'=tag∨(tag= .blk∧tag'= .w3))→(mayWake K.P g=true→g'.status= .running→tag'≠ .blk)→Go.ConcN.Mode j (upd D k ⟨s',m',dd'⟩) tag' st' sm')(hlt:(s'<s∧cnt ⟨s',m',dd'⟩≤cnt (D k))∨(s'=s∧m'+1=m)):
 Onw K gs w sl T (phi K.n (Vc j D) tag+Ssum j D,f0+2*Fsum j D+2*sumTo K.F.base q) (K.F.base+k):=by
 obtain⟨cs,hcs1,hcs2⟩:=hcom.pay
 have hdk:Deaf T (K.F.base+k)=dd:=by rw[hcom.deafW k hk,hde]
 exact QAg A hAr ha hcs hcom hk hg hgo (RC.of_wg hAs ⟨_,_,hwg'⟩) (fun k' _ _=>RM.of_wg hAs ⟨_,_,hwg'⟩ A.hCW) (.post h6' hs') (QBT hbk) (norel_of_Bk hbk) (fun e he=>QAO A.hB (hbk e he)) (by rw[hde];exact hdd)
  (fun _=>let⟨r,hr⟩:=hcom.rel k hk (by omega);⟨r,hr.book hdk _ _ hbk hd⟩) (fun _ i h1 h2=>(cell_of_block (hAs.block _ A.hCW) i).trans (hcom.has k hk (by omega) i h1 h2)) ⟨cs,(hAs.block _ A.hCW).trans hcs1,hcs2⟩ hwg' hmode' (by rw[hst,hfu];exact hlt)
set_option maxHeartbeats 1600000 in
theorem QB9(A:QCu K)(hAr: ∀g w,K.An g w→g.status= .running)(ha:gs[0]? =some a)(hcs:CM K tag j f0 d0 a w)(hcom:ComM K j gs w T D q d0)(hwg:WgAt K.ty K.F.Wg w st sm)(hmode:Go.ConcN.Mode j D tag st sm)
 {k:Nat}(hk:k<j){g:Goroutine}(hg:gs[K.F.base+k]? =some g)(hrun:g.status= .running):
 Onw K gs w sl T (phi K.n (Vc j D) tag+Ssum j D,f0+2*Fsum j D+2*sumTo K.F.base q) (K.F.base+k):=by
 obtain⟨g₁,hg₁,hs⟩:=hcom.wk k hk
 obtain rfl:g=g₁:=by rw[hg] at hg₁;exact Option.some.inj hg₁
 generalize hst:(D k).stage=s at hs
 generalize hfu:(D k).fuel=m at hs
 generalize hde:(D k).deaf=dd at hs
 have hb:=hcs.bound
 have hkn:k<K.n:=Nat.lt_of_lt_of_le hk hcom.le
 have hn:=A.hn
 have hVj:=Go.ConcN.Vc_le j D
 have hdk:Deaf T (K.F.base+k)=dd:=by rw[hcom.deafW k hk,hde]
 have same: ∀m' d',Go.ConcN.Mode j (upd D k ⟨s,m',d'⟩) tag st sm:=fun m' d'=>by have:=hmode.same (i:=k) m' d';rwa [hst] at this
 cases hs with
 |pre h=>
  rcases Goes.cases h with hstop|⟨m',rfl,Jf⟩
  ·obtain⟨_,hhas,g',hgo,m₂,hk2⟩:=hstop w (RM.refl w)
   exact QAg A hAr ha hcs hcom hk hg hgo (.refl w) (fun _ _ _=>RM.refl w) (.post (Nat.le_refl _) (.k1 hk2)) (QBS (by intro e he;simp at he;subst he;rfl)) (by intro e he;simp at he;subst he;simp[mk]) (by intro e he;simp at he;subst he;exact A.hB) (by rw[hde];rfl)
    (fun _=>⟨T.size,RelBy.new hdk _ _⟩) (fun _=>hhas) hcom.pay hwg (fun _ ht _=>(hmode.counted hk (by omega) (.inl rfl) _ _).retag ht) (.inl ⟨by omega,by simp[cnt,hst]⟩)
  ·obtain⟨g',w',es,hgo,⟨hac,hev⟩,hg'⟩:=Jf w (RM.refl w)
   exact QAg A hAr ha hcs hcom hk hg hgo (RC.of_cells hac A.hCW) (fun k' hk' e=>RM.of_cells hac (QBE A hkn (Nat.lt_of_lt_of_le hk' hcom.le) e) A.hCW) (.pre hg') (QBU hev) (fun e he=>(hev e he).2.2.2.1) (fun e he=>(hev e he).2.2.2.2)
    (by rw[hde];exact deafBehind_idle (fun e he=>⟨(hev e he).2.1,(hev e he).2.2.1⟩) 0) (fun h=>by omega) (fun h=>by omega) (hac.pay hcom.pay) (hwg.of_block (hac.block _ (Ne.symm A.hCW)))
    (fun _ ht _=>(same m' 0).retag ht) (.inr ⟨hst.symm,by omega⟩)
 |post h6 hs=>
  have book: ∀{g':Goroutine} {w':World} {es:Array Event} {s' m' dd':Nat} {st' sm':Int},stepG K.P false g w= .go g' w' es→Aside K.F.Wg w w'→WgAt K.ty K.F.Wg w' st' sm'→(∀e∈es,Bk K.F.Wg e)→
   (∀jx e,es[jx]? =some e→(MemAct.ofEvent e).touch? =none∨0<deafBehind dd (es.extract 0 jx))→WSit K.P K.ty K.F.Wg K.C K.L (fun _ _=>False) (fun _ _=>False) (K.Lws (k+1)) (K.lo k+1) (.bool false) s' m' dd' g' w'→s'≤6→deafBehind dd es=dd'→
   Go.ConcN.Mode j (upd D k ⟨s',m',dd'⟩) tag st' sm'→((s'<s∧cnt ⟨s',m',dd'⟩≤cnt (D k))∨(s'=s∧m'+1=m))→
   Onw K gs w sl T (phi K.n (Vc j D) tag+Ssum j D,f0+2*Fsum j D+2*sumTo K.F.base q) (K.F.base+k):=
   fun hgo hAs hwg' hbk hd hs' h6' hdd hm hlt=>QAn A hAr ha hcs hcom hk hst hfu hde hg hgo hAs hwg' hbk hd hs' h6' hdd h6 (fun _ ht _=>hm.retag ht) hlt
  have idle: ∀{g':Goroutine} {m':Nat},stepG K.P false g w= .go g' w #[]→WSit K.P K.ty K.F.Wg K.C K.L (fun _ _=>False) (fun _ _=>False) (K.Lws (k+1)) (K.lo k+1) (.bool false) s m' dd g' w→m'+1=m→
   Onw K gs w sl T (phi K.n (Vc j D) tag+Ssum j D,f0+2*Fsum j D+2*sumTo K.F.base q) (K.F.base+k):=
   fun{g' m'} hgo hs' hm=>book hgo (.refl K.F.Wg w) hwg (by simp) (by simp) hs' h6 rfl (same m' dd) (.inr ⟨rfl,hm⟩)
  have isL:(s=4∨s=3∨s=2)→isW3 tag∧(∀x,x<j→x≠k→(D x).stage=1)∧st=(if s=2 then 0 else 1)∧sm=0:=fun h=>by
   have:=hmode.isLast hk (by rw[hst];exact h)
   rwa [hst] at this
  have lastM: ∀{s' m' d':Nat},isW3 tag→(∀x,x<j→x≠k→(D x).stage=1)→(s'=4∨s'=3∨s'=2)→Go.ConcN.Mode j (upd D k ⟨s',m',d'⟩) tag (if s'=2 then 0 else 1) 0:=fun{s' m' d'} h1 h2 h3=>by
   have:=Go.ConcN.Mode.last (j:=j) (D:=upd D k ⟨s',m',d'⟩) (tag:=tag) k h1 hk (by rw[upd_same];exact h3) (fun x hx e=>by rw[upd_ne D _ e];exact h2 x hx e)
   rwa [upd_same] at this
  cases hs with
  |r0 h=>omega
  |k1 h=>
   rcases Goes.cases h with hstop|⟨m',rfl,Jf⟩
   ·obtain⟨_,g',hgo,m₂,hk2⟩:=hstop w (RW.refl w)
    exact book hgo (.refl K.F.Wg w) hwg (by intro e he;simp at he;subst he;exact .inl rfl) (by intro jx e he;exact .inl (by have:=Array.mem_of_getElem? he;simp at this;subst this;rfl)) (.d1 hk2) (by omega) rfl
     (hmode.counted hk (by omega) (.inr rfl) _ _) (.inl ⟨by omega,by simp[cnt,hst]⟩)
   ·obtain⟨g',w',es,hgo,⟨rfl,rfl⟩,hg'⟩:=Jf w (RW.refl w)
    exact idle hgo (.k1 hg') rfl
  |d1 h=>
   rcases Goes.cases h with hstop|⟨m',rfl,Jf⟩
   ·obtain⟨_,hall⟩:=hstop w (RW.refl w)
    have hc1:cnt (D k)=1:=by simp[cnt,hst]
    have hV1:1≤Vc j D:=by have:=le_sumTo (f:=fun x=>cnt (D x)) hk;simp only[Vc];omega
    have bk2: ∀e∈ #[rd (stA K.F.Wg),wr (stA K.F.Wg)],Bk K.F.Wg e:=by intro e he;simp at he;rcases he with rfl|rfl<;>exact bk_cell _ _ rfl
    have df2: ∀jx e,(#[rd (stA K.F.Wg),wr (stA K.F.Wg)]:Array Event)[jx]? =some e→(MemAct.ofEvent e).touch? =none∨0<deafBehind 1 ((#[rd (stA K.F.Wg),wr (stA K.F.Wg)]:Array Event).extract 0 jx):=by
     intro jx e he
     match jx,he with
     |0,_=>exact .inr (by simp[deafBehind])
     |1,_=>exact .inr (by simp[deafBehind,rd])
     |jx+2,he=>simp at he
    have opq: ∀x,OpenSt j D→OpenSt j (upd D k ⟨1,x,1⟩):=fun x h y hy=>by
     by_cases e:y=k
     ·subst e;rw[upd_same];simp
     ·rw[upd_ne D _ e];exact h y hy
    have vq: ∀x,Vc j (upd D k ⟨1,x,1⟩)+1=Vc j D:=fun x=>by
     have:=Vc_upd D (⟨1,x,1⟩:WD) hk
     have h0:cnt (⟨1,x,1⟩:WD)=0:=rfl
     omega
    cases hmode with
    |opn h1 h2 h3=>
     obtain⟨v,hv⟩: ∃v,Vc j D+pend tag=v+1:=⟨Vc j D+pend tag - 1,by omega⟩
     rw[hv] at hwg
     obtain⟨g',hgo,_,hq⟩:=hall v 0 (by omega) (by omega) (by simpa using hwg)
     obtain⟨x,hq⟩:=hq (by omega)
     refine book hgo (aside_setCell w (stA K.F.Wg) _) (hwg.setSt _) bk2 df2 (.quit hq) (by omega) rfl ?_ (.inl ⟨by omega,by simp[cnt]⟩)
     have e:((v:Nat):Int)*KK+((0:Nat):Int)=((Vc j (upd D k ⟨1,x,1⟩)+pend tag:Nat):Int)*KK:=by rw[show Vc j (upd D k ⟨1,x,1⟩)+pend tag=v by have:=vq x;omega];simp
     rw[e]
     exact .opn h1 (opq x h2) (fun vs ev=>by have:=h3 vs ev;have:=vq x;omega)
    |reg h1 h2 h3=>
     obtain⟨v,hv⟩: ∃v,Vc j D=v+1:=⟨Vc j D - 1,by omega⟩
     rw[hv] at hwg
     obtain⟨g',hgo,hl,hq⟩:=hall v 1 (by omega) (by omega) (by simpa using hwg)
     by_cases hv0:v=0
     ·subst hv0
      obtain⟨m₂,hk2⟩:=hl ⟨rfl,rfl⟩
      refine book hgo (aside_setCell w (stA K.F.Wg) _) (hwg.setSt _) bk2 df2 (.d2 hk2) (by omega) rfl ?_ (.inl ⟨by omega,by simp[cnt]⟩)
      have:=lastM (s':=4) (m':=m₂) (d':=1) h1 (fun x hx e=>by
       have c0:=others_uncounted hk hv hc1 x hx e
       have:=h2 x hx
       simp only[cnt] at c0
       split at c0<;>omega) (.inl rfl)
      simpa using this
     ·obtain⟨x,hq⟩:=hq (by omega)
      refine book hgo (aside_setCell w (stA K.F.Wg) _) (hwg.setSt _) bk2 df2 (.quit hq) (by omega) rfl ?_ (.inl ⟨by omega,by simp[cnt]⟩)
      have hx:=vq x
      have e:((v:Nat):Int)*KK+((1:Nat):Int)=((Vc j (upd D k ⟨1,x,1⟩):Nat):Int)*KK+1:=by rw[show Vc j (upd D k ⟨1,x,1⟩)=v by omega];simp
      rw[e]
      exact .reg h1 (opq x h2) (by omega)
    |last L _ h2 h3 h4=>
     by_cases e:k=L
     ·subst e;omega
     ·have:=h4 k hk e;omega
    |sema h2=>have:=h2 k hk;omega
    |fin _ h2=>have:=h2 k hk;omega
   ·obtain⟨g',w',es,hgo,⟨rfl,rfl⟩,hg'⟩:=Jf w (RW.refl w)
    exact idle hgo (.d1 hg') rfl
  |d2 h=>
   rcases Goes.cases h with hstop|⟨m',rfl,Jf⟩
   ·obtain⟨_,hx⟩:=hstop w (RW.refl w)
    obtain⟨hW3,hoth,rfl,rfl⟩:=isL (by omega)
    obtain⟨g',hgo,m₂,hk2⟩:=hx (by simpa using hwg)
    refine book hgo (.refl K.F.Wg w) hwg (by intro e he;simp at he;subst he;exact bk_cell _ _ rfl) (by intro jx e he;match jx,he with|0,_=>exact .inr (by simp[deafBehind])|jx+1,he=>simp at he) (.d3 hk2) (by omega) rfl ?_ (.inl ⟨by omega,by simp[cnt]⟩)
    have:=lastM (s':=3) (m':=m₂) (d':=1) hW3 hoth (by omega)
    simpa using this
   ·obtain⟨g',w',es,hgo,⟨rfl,rfl⟩,hg'⟩:=Jf w (RW.refl w)
    exact idle hgo (.d2 hg') rfl
  |d3 h=>
   rcases Goes.cases h with hstop|⟨m',rfl,Jf⟩
   ·obtain⟨_,hx⟩:=hstop w (RW.refl w)
    obtain⟨hW3,hoth,rfl,rfl⟩:=isL (by omega)
    obtain⟨g',hgo,m₂,hk2⟩:=hx (by simpa using hwg)
    refine book hgo (aside_setCell w (stA K.F.Wg) _) (hwg.setSt 0) (by intro e he;simp at he;subst he;exact bk_cell _ _ rfl) (by intro jx e he;match jx,he with|0,_=>exact .inr (by simp[deafBehind])|jx+1,he=>simp at he) (.d4 hk2) (by omega) rfl ?_ (.inl ⟨by omega,by simp[cnt]⟩)
    have:=lastM (s':=2) (m':=m₂) (d':=1) hW3 hoth (by omega)
    simpa using this
   ·obtain⟨g',w',es,hgo,⟨rfl,rfl⟩,hg'⟩:=Jf w (RW.refl w)
    exact idle hgo (.d3 hg') rfl
  |d4 h=>
   rcases Goes.cases h with hstop|⟨m',rfl,Jf⟩
   ·obtain⟨_,hmw,hx⟩:=hstop w (RW.refl w)
    obtain⟨hW3,hoth,rfl,rfl⟩:=isL (by omega)
    obtain⟨g',hgo,x,hq⟩:=hx (by simpa using hwg)
    have hrun':g'.status= .running:=by
     cases x with
     |zero=>exact absurd hq.2 (by decide)
     |succ x=>exact hq.elim (fun x=>absurd x.2 (by decide)) (fun x=>x.1)
    refine QAn A hAr ha hcs hcom hk hst hfu hde hg hgo (aside_setCell w (smA K.F.Wg) _) (hwg.setSm 1) (es:=semEvents (smA K.F.Wg)) ?_ ?_ (.quit hq) (by omega) (by simp[deafBehind,semEvents]) h6 ?_ (.inl ⟨by omega,by simp[cnt]⟩)
    ·intro e he
     simp[semEvents] at he
     rcases he with rfl|rfl|rfl|rfl
     ·exact .inl rfl
     ·exact bk_cell _ _ rfl
     ·exact bk_cell _ _ rfl
     ·exact .inr (.inl rfl)
    ·intro jx e he
     match jx,he with
     |0,he=>simp[semEvents] at he;subst he;exact .inl rfl
     |1,_=>exact .inr (by simp[deafBehind,semEvents])
     |2,_=>exact .inr (by simp[deafBehind,semEvents])
     |3,he=>simp[semEvents] at he;subst he;exact .inl rfl
     |jx+4,he=>simp[semEvents] at he
    ·intro tag' ht hw
     have hnb:=hw hmw hrun'
     have e3:tag'= .w3:=by
      rcases ht with rfl|⟨_,rfl⟩
      ·cases tag'<;>first|rfl|exact hW3.elim|exact absurd rfl hnb
      ·rfl
     subst e3
     simp only[if_true]
     exact .sema fun y hy=>by
      by_cases e:y=k
      ·subst e;rw[upd_same]
      ·rw[upd_ne D _ e];exact hoth y hy e
   ·obtain⟨g',w',es,hgo,⟨rfl,rfl⟩,hg'⟩:=Jf w (RW.refl w)
    exact idle hgo (.d4 hg') rfl
  |quit h=>
   cases m with
   |zero=>rw[h.1] at hrun;cases hrun
   |succ x=>
    rcases h with⟨hf,_⟩|⟨_,g',es,hmute,Jf,hq⟩
    ·rw[hf] at hrun;cases hrun
    ·exact book (Jf w) (.refl K.F.Wg w) hwg (fun e he=>bk_of_mute (hmute e he)) (fun jx e he=> .inl (touch_mute (hmute e (Array.mem_of_getElem? he)))) (.quit hq) h6 rfl (same x (deafBehind dd es)) (.inr ⟨rfl,rfl⟩)
end
end Go.Proofs.YtgaimkihacljdaaGreat
/- n workers and their starter, beside goroutines that only leave: the join; a step of the caller's. (Round C) -/
namespace Go.Proofs.YtgaimkihacljdaaGreat
set_option linter.unusedSectionVars false
open Go.Conc
open Go.ConcN (PermW ShN RelBy RW RC WgLive PayAt Has Full WSit CTag WD sumTo upd upd_same upd_ne sumTo_upd sumTo_upd_out le_sumTo phi phi_mono phi_retag pend cnt Vc Ssum Fsum Vc_le norel_of norel_of_Bk isW3 isOpen isFin OpenSt AllQuit allQuit_of deafBehind_idle bk_cell bk_dis bk_en bk_rd bk_rw bk_sem lt2_trans Deaf_absent)
open Go.ConcR (KK wgBlock WgAt stA smA rd wr mk Payload Aside2 DC0 Bk g_of_ofEvents ofEvent_loc_mark ofEvent_cell ofEvent_mk)
theorem QBR [Payload]{K:Crew}{j:Nat}{fn:FuncId}{pos:String}{es:Array Event}(h: ∀e∈es,EvC K j e): ∀op∈MemOp.ofEvents 0 fn pos es,O0 K.F j op:=by
 intro op hop
 obtain⟨e,he,rfl⟩:=Go.Conc.mem_ofEvents hop
 exact(h e he).1 fn pos
section
variable [Payload] (K : Crew)
def QzD(m:Machine)(T:Trace):Prop:=
 ∃(gs:Array Goroutine) (w:World) (sl:Option (Nat×Nat)) (a:Goroutine) (q:Nat→Nat) (x:Nat),m=crowd gs w sl∧gs[0]? =some a∧gs.size=K.F.base+K.n∧Goes K.P true (RC K.ty K.F.Wg K.C) (DC K K.n) K.E x a w∧
  WgAt K.ty K.F.Wg w 0 0∧(∀k,k<K.n→HasM K k w)∧PayAt K.C K.L w∧Leavers K.P T gs q∧Past (fun l=>K.F.Shun l∨ShN K.F.Wg l) K.B T
end
section
variable [Payload] {K : Crew} {j : Nat} {gs : Array Goroutine} {w w' : World} {T : Trace} {D : Nat → WD} {q : Nat → Nat} {d0 f0 f' : Nat} {sl : Option (Nat × Nat)} {tag tag' : CTag} {a a' : Goroutine} {st sm st' sm' : Int} {es : Array Event}
theorem QBW(A:QCu K)(hcom:ComM K j gs w T D q 0)(hq:AllQuit j D)(fn:FuncId)(pos:String):
 Past (fun l=>K.F.Shun l∨ShN K.F.Wg l) K.B (T++MemOp.ofEvents 0 fn pos #[mk (.acquire (stA K.F.Wg))]):=by
 have e1:MemOp.ofEvents 0 fn pos #[mk (.acquire (stA K.F.Wg))]= #[{ g:=0,fn:=fn,pos:=pos,act:= .mark (.acquire (stA K.F.Wg))}]:=by rw[ofEvents_eq];simp[ofEvent_mk]
 rw[e1]
 generalize hy0:({ g:=0,fn:=fn,pos:=pos,act:= .mark (.acquire (stA K.F.Wg))}:MemOp)=y
 have yg:y.g=0:=by rw[←hy0]
 have ya:y.act= .mark (.acquire (stA K.F.Wg)):=by rw[←hy0]
 have ynt: ∀op∈ #[y],∀b,op.act.touch? =some b→False:=by
  intro op hop b hb
  obtain rfl:op=y:=by simpa using hop
  rw[ya] at hb;cases hb
 have hy:(T++ #[y])[T.size]? =some y:=by simp
 have hT:=hcom.tr.app0 A.fam (u:=#[y]) (fun op hop=>⟨by obtain rfl:op=y:=by simpa using hop
                                                        exact yg,fun x hx=>(ynt op hop x hx).elim⟩)
 have hnr:NoRelease (stA K.F.Wg) (T++ #[y]):=hcom.norel.app fun op hop=>by
  obtain rfl:op=y:=by simpa using hop
  rw[ya];simp
 have hheard:(T++ #[y]).heard T.size:=⟨0,by simp[Trace.g?,yg],by rw[deaf_old (Nat.le_refl _)];exact hcom.deaf0⟩
 have rels: ∀k,k<j→∃r,RelBy (stA K.F.Wg) (T++ #[y]) (K.F.base+k) r∧r<T.size:=fun k hk=>by
  obtain⟨r,hr⟩:=hcom.rel k hk (by rw[hq k hk];omega)
  have hb:=A.fam.pos
  exact⟨r,hr.appNot fun op hop=>(by
   obtain rfl:op=y:=by simpa using hop
   rw[yg];omega),lt_of_act? hr.act⟩
 have hbq: ∀i k,k<j→(T++ #[y]).g? i=some (K.F.base+k)→(T++ #[y]).counts i→HappensBefore (T++ #[y]) i T.size:=fun i k hk hg hc=>by
  obtain⟨r,hr,hrq⟩:=rels k hk
  have edge:HappensBefore (T++ #[y]) r T.size:= .single (.inr ⟨.marked hrq (.inr hr.act) (by rw[act?_of hy,ya]) (fun z _ _=>hnr z),hr.heard,hheard⟩)
  have hle:i≤r:=Nat.le_of_not_lt fun hlt=>hr.after i hlt hg hc
  rcases Nat.lt_or_ge i r with hlt|hge
  ·exact .trans (.single (.inl ⟨hlt,_,hg,hr.g⟩)) edge
  ·obtain rfl:i=r:=by omega
   exact edge
 refine⟨hT.nr,fun i x hi hm=>?_,fun i g hg hne hc=>?_,?_,seen_app hcom.seen fun op hop=>?_⟩
 ·obtain⟨op,hop,hox⟩:=touch_of hi
  rcases hT.known i op x hop hox hm with h|⟨h1,h2⟩|⟨k,hk,h1,h2,_⟩
  ·exact .inl h
  ·exact .inr ⟨h2,h1⟩
  ·refine .inl ⟨T.size,y,hy,yg,.inr (hbq i k hk (by unfold Trace.g?;rw[hop,Option.map_some,h1]) ⟨x,?_,hm,.inl h2⟩)⟩
   unfold Trace.act?
   rw[hop]
   exact hox
 ·obtain⟨op,hop,hgo⟩:=Option.map_eq_some_iff.1 hg
  by_cases h1:g<K.F.base∨K.F.base+j≤g
  ·exact Qzz hcom.over (u:=#[y]) (fun op hop=> .inl (by obtain rfl:op=y:=by simpa using hop
                                                        exact yg)) i g hg hne h1 hc
  ·obtain⟨k,rfl⟩: ∃k,g=K.F.base+k:=⟨g - K.F.base,by omega⟩
   exact⟨T.size,by simp[Trace.g?,yg],hbq i k (by omega) hg hc⟩
 ·have:=Go.ConcN.Deaf_still T 0 #[y] (fun op hop=>by
   obtain rfl:op=y:=by simpa using hop
   rw[ya];simp)
  rw[this];exact hcom.deaf0
 ·obtain rfl:op=y:=by simpa using hop
  rw[ya];exact A.hB
theorem Qzl(A:QCu K)(ha:gs[0]? =some a)(hcom:ComM K j gs w T D q d0)(hwg:WgAt K.ty K.F.Wg w st sm)(hmode:Go.ConcN.Mode j D tag st sm)
 (hgo:stepG K.P true a w= .go a' w' es)(hD:DC K j w w' es)(hcs':CM K tag j f' d0 a' w')(hf:f'<f0):
 Onw K gs w sl T (phi K.n (Vc j D) tag+Ssum j D,f0+2*Fsum j D+2*sumTo K.F.base q) 0:=by
 obtain⟨hlow,hev⟩:=hD
 have hWj:K.F.Wg<K.Lws j:=Nat.lt_of_lt_of_le A.hW (A.mono 0 j (Nat.zero_le _))
 have hCj:K.C<K.Lws j:=Nat.lt_of_lt_of_le A.hC (A.mono 0 j (Nat.zero_le _))
 obtain⟨cs,hc1,hc2⟩:=hcom.pay
 have hdf:deafBehind d0 es=d0:=deafBehind_idle (fun e he=>⟨(hev e he).2.1,(hev e he).2.2.1⟩) d0
 exact QAo A ha hcom hgo (fun k hk=>RM.of_low hlow (A.mono _ _ (by omega)) hWj hCj) (QBR hev) (fun e he=>(hev e he).2.2.2.1) (fun e he=>(hev e he).2.2.2.2) ⟨cs,(hlow _ hCj).trans hc1,hc2⟩ (by rw[hdf];exact hcs') (hwg.of_block (hlow _ hWj)) hmode (.inr ⟨rfl,hf⟩)
theorem Qzj(A:QCu K)(ha:gs[0]? =some a)(hcom:ComM K j gs w T D q d0)
 (hgo:stepG K.P true a w= .go a' w' es)(hAs:Aside K.F.Wg w w')(hwg':WgAt K.ty K.F.Wg w' st' sm')(hbk: ∀e∈es,Bk K.F.Wg e)(hcs':CM K tag' j f' (deafBehind d0 es) a' w')
 (hmode':Go.ConcN.Mode j D tag' st' sm')(hlt:phi K.n (Vc j D) tag'<phi K.n (Vc j D) tag∨(phi K.n (Vc j D) tag'=phi K.n (Vc j D) tag∧f'<f0)):
 Onw K gs w sl T (phi K.n (Vc j D) tag+Ssum j D,f0+2*Fsum j D+2*sumTo K.F.base q) 0:=by
 obtain⟨cs,hc1,hc2⟩:=hcom.pay
 exact QAo A ha hcom hgo (fun k _=>RM.of_wg hAs ⟨_,_,hwg'⟩ A.hCW) (QBQ hbk) (norel_of_Bk hbk) (fun e he=>QAO A.hB (hbk e he)) ⟨cs,(hAs.block _ A.hCW).trans hc1,hc2⟩ hcs' hwg' hmode' hlt
theorem QAN(A:QCu K)(ha:gs[0]? =some a)(hcom:ComM K K.n gs w T D q 1)(hwg:WgAt K.ty K.F.Wg w st sm)(hmode:Go.ConcN.Mode K.n D .w1 st sm)(h:Goes K.P true (RC K.ty K.F.Wg K.C) (DC K K.n) (Qzr K) f0 a w):
 Onw K gs w sl T (phi K.n (Vc K.n D) .w1+Ssum K.n D,f0+2*Fsum K.n D+2*sumTo K.F.base q) 0:=by
 rcases Goes.cases h with hstop|⟨m',rfl,Jf⟩
 ·obtain⟨_,hall⟩:=hstop w (.refl w)
  obtain⟨ho,rfl,rfl,_⟩:=hmode.open_inv trivial
  have hV:=Vc_le K.n D
  have hn:=A.hn
  obtain⟨a',hgo,h0,hne⟩:=hall (Vc K.n D) (by omega) (by simpa [pend] using hwg)
  by_cases hv:Vc K.n D=0
  ·obtain⟨m₂,hk⟩:=h0 hv
   refine Qzj A ha hcom hgo (.refl K.F.Wg w) hwg bk_rd (tag':= .ke) (.ke hk) ?_ (.inl (by simp only[phi];omega))
   have e:((Vc K.n D+pend .w1:Nat):Int)*KK=0:=by rw[hv];simp[pend]
   rw[e]
   exact .fin trivial (allQuit_of ho hv)
  ·obtain⟨m₂,hk⟩:=hne hv
   exact Qzj A ha hcom hgo (.refl K.F.Wg w) hwg bk_rd (tag':= .w2 (Vc K.n D)) (.w2 hk) (hmode.reopen trivial trivial rfl (fun vs e=>by cases e;omega)) (.inl (by simp only[phi];omega))
 ·obtain⟨a',w',es,hgo,hD,hg'⟩:=Jf w (.refl w)
  exact Qzl A ha hcom hwg hmode hgo hD (.w1 hg') (by omega)
theorem goM(A:QCu K){r:Nat}(hr:r<K.n)(ha:gs[0]? =some a)(hcom:ComM K (K.n - (r+1)) gs w T D q 0)(hwg:WgAt K.ty K.F.Wg w st sm)(hmode:Go.ConcN.Mode (K.n - (r+1)) D (.sp r 2) st sm)(h:QzB K (K.n - (r+1)) (Qzs K r) a w):
 Onw K gs w sl T (phi K.n (Vc (K.n - (r+1)) D) (.sp r 2)+Ssum (K.n - (r+1)) D,f0+2*Fsum (K.n - (r+1)) D+2*sumTo K.F.base q) 0:=by
 obtain⟨_,a',child,hsp,_,hwk0,hnext⟩:=h
 obtain⟨m₂,hwk⟩:=hwk0 hcom.pay
 obtain⟨ho,rfl,rfl,_⟩:=hmode.open_inv trivial
 have hb:=A.fam.pos
 have hrun':=runT_crowd_spawn (P:=K.P) (sl:=sl) (i:=0) ha (by simpa using hsp)
 rw[hcom.size] at hrun'
 have hcom':=hcom.spawn A (by omega) (a':=a') (x:={ g:=0,fn:=a.frame.fn,pos:=a.frame.place,act:= .go (K.F.base+(K.n - (r+1)))}) (y:={ g:=K.F.base+(K.n - (r+1)),fn:=child.frame.fn,pos:=a.frame.place,act:= .start}) ⟨rfl,rfl⟩ ⟨rfl,rfl⟩ hwk
 have eV:Vc (K.n - (r+1)+1) (upd D (K.n - (r+1)) ⟨7,m₂,0⟩)=Vc (K.n - (r+1)) D+1:=by
  simp only[Vc,sumTo,upd_same]
  rw[sumTo_upd_out D _ cnt (Nat.le_refl _)];rfl
 have eS:Ssum (K.n - (r+1)+1) (upd D (K.n - (r+1)) ⟨7,m₂,0⟩)=Ssum (K.n - (r+1)) D+7:=by
  simp only[Ssum,sumTo,upd_same]
  rw[sumTo_upd_out D _ WD.stage (Nat.le_refl _)]
 have ho':OpenSt (K.n - (r+1)+1) (upd D (K.n - (r+1)) ⟨7,m₂,0⟩):=fun i hi=>by
  by_cases e:i=K.n - (r+1)
  ·subst e;rw[upd_same];simp
  ·rw[upd_ne D _ e];exact ho i (by omega)
 have ha':((gs.setIfInBounds 0 a').push child)[0]? =some a':=by
  rw[Array.getElem?_push_lt (by simp[hcom.size];omega),←Array.getElem?_eq_getElem,Array.getElem?_setIfInBounds_self_of_lt (by rw[hcom.size];omega)]
 have ej:K.n - (r+1)+1=K.n - r:=by omega
 have est: ∀tag',pend tag'=0→((Vc (K.n - (r+1)) D+pend (.sp r 2):Nat):Int)*KK=((Vc (K.n - (r+1)+1) (upd D (K.n - (r+1)) ⟨7,m₂,0⟩)+pend tag':Nat):Int)*KK:=fun tag' hp=>by rw[eV,hp];simp[pend]
 cases r with
 |zero=>
  obtain⟨m₃,hk⟩:=hnext
  simp only[Nat.zero_add] at*
  have e0:K.n - 1+1=K.n:=by omega
  rw[e0] at hcom' eV eS ho' est
  refine⟨_,_,(phi K.n (Vc K.n (upd D (K.n - 1) ⟨7,m₂,0⟩)) .kd+Ssum K.n (upd D (K.n - 1) ⟨7,m₂,0⟩),m₃+2*Fsum K.n (upd D (K.n - 1) ⟨7,m₂,0⟩)+2*sumTo K.F.base q),hrun',Prod.Lex.left _ _ (by simp only[phi];omega),
   _,w,sl,K.n,_,q,.kd,m₃,0,a',_,_,rfl,ha',.kd hk,hcom',hwg,?_,rfl⟩
  rw[est .kd rfl]
  exact .opn trivial ho' (by simp)
 |succ r'=>
  obtain⟨m₃,hk⟩:=hnext
  rw[ej] at hcom' eV eS ho' est
  refine⟨_,_,(phi K.n (Vc (K.n - (r'+1)) (upd D (K.n - (r'+1+1)) ⟨7,m₂,0⟩)) (.sp r' 5)+Ssum (K.n - (r'+1)) (upd D (K.n - (r'+1+1)) ⟨7,m₂,0⟩),m₃+2*Fsum (K.n - (r'+1)) (upd D (K.n - (r'+1+1)) ⟨7,m₂,0⟩)+2*sumTo K.F.base q),hrun',Prod.Lex.left _ _ (by simp only[phi];omega),
   _,w,sl,K.n - (r'+1),_,q,.sp r' 5,m₃,0,a',_,_,rfl,ha',.skd (by omega) hk,hcom',hwg,?_,rfl⟩
  rw[est (.sp r' 5) rfl]
  exact .opn trivial ho' (by simp)
theorem acqM(A:QCu K)(ha:gs[0]? =some a)(hcom:ComM K K.n gs w T D q 0)(hq:AllQuit K.n D)(hwg:WgAt K.ty K.F.Wg w 0 0)(h:QzT K a w):
 ∃m₁ ops,runT K.P (crowd gs w sl) 0=(.next m₁,ops)∧QzD K m₁ (T++ops):=by
 obtain⟨_,a',hgo,x,hk⟩:=h
 have hb:=A.fam.pos
 have hrun:=runT_crowd_go (P:=K.P) (sl:=sl) (i:=0) ha hgo
 have hP:=QBW A hcom hq a.frame.fn a.frame.place
 have dq: ∀g,g≠0→Deaf (T++MemOp.ofEvents 0 a.frame.fn a.frame.place #[mk (.acquire (stA K.F.Wg))]) g=Deaf T g:=fun g hg=>Deaf_other T (Ne.symm hg) _ g_of_ofEvents
 refine⟨_,_,hrun,_,w,sl,a',fun i=>if i<K.F.base then q i else(D (i - K.F.base)).fuel,x,rfl,Go.ConcN.get_map_set_same _ _ _ (by rw[hcom.size];omega),by simp[hcom.size],hk,hwg,fun k hk=>hcom.has k hk (by rw[hq k hk];omega),hcom.pay,⟨fun i g h0 hg=>?_,fun i hi=>?_⟩,hP⟩
 ·rw[Go.ConcN.get_map_set _ _ _ _ (by omega)] at hg
  obtain⟨y,hy,rfl⟩:=Option.map_eq_some_iff.1 hg
  rw[dq i (by omega)]
  rcases Nat.lt_or_ge i K.F.base with h1|h1
  ·obtain⟨z,hz,hqz⟩:=hcom.old i h0 h1
   obtain rfl:y=z:=by rw[hy] at hz;exact Option.some.inj hz
   rw[if_pos h1,QzR hqz]
   exact hqz
  ·obtain⟨k,rfl⟩: ∃k,i=K.F.base+k:=⟨i - K.F.base,by omega⟩
   have hkn:k<K.n:=by have:=(Array.getElem?_eq_some_iff.1 hy).1;rw[hcom.size] at this;omega
   obtain⟨z,hz,hs⟩:=hcom.wk k hkn
   obtain rfl:y=z:=by rw[hy] at hz;exact Option.some.inj hz
   rw[if_neg (by omega),hs.woken,hcom.deafW k hkn,Nat.add_sub_cancel_left]
   exact hs.quits (hq k hkn)
 ·have hsz:K.F.base+K.n≤i:=by simpa [hcom.size] using hi
  rw[dq i (by omega)]
  exact hcom.above i hsz
set_option maxHeartbeats 1600000 in
theorem QB8(A:QCu K)(hAn: ∀g w,K.An g w→∃m,Goes K.P true (RC K.ty K.F.Wg K.C) (DC K K.n) (Qzr K) m g w)
 (ha:gs[0]? =some a)(hcs:CM K tag j f0 d0 a w)(hcom:ComM K j gs w T D q d0)(hwg:WgAt K.ty K.F.Wg w st sm)(hmode:Go.ConcN.Mode j D tag st sm)(hrun:a.status= .running):
 (∃m₁ ops,runT K.P (crowd gs w sl) 0=(.next m₁,ops)∧QzD K m₁ (T++ops))∨Onw K gs w sl T (phi K.n (Vc j D) tag+Ssum j D,f0+2*Fsum j D+2*sumTo K.F.base q) 0:=by
 have hVj:=Vc_le j D
 have hn:=A.hn
 cases hcs with
 |skd hr h=>
  rcases Goes.cases h with hstop|⟨m',rfl,Jf⟩
  ·obtain⟨_,a',hgo,m₂,hk⟩:=hstop w (.refl w)
   exact .inr (Qzj A ha hcom hgo (.refl K.F.Wg w) hwg bk_dis (.sa1 hr hk) (hmode.reopen trivial trivial rfl (by simp)) (.inl (by simp only[phi];omega)))
  ·obtain⟨a',w',es,hgo,hD,hg'⟩:=Jf w (.refl w)
   exact .inr (Qzl A ha hcom hwg hmode hgo hD (.skd hr hg') (by omega))
 |sa1 hr h=>
  rename_i r
  rcases Goes.cases h with hstop|⟨m',rfl,Jf⟩
  ·obtain⟨_,hall⟩:=hstop w (.refl w)
   obtain⟨ho,rfl,rfl,_⟩:=hmode.open_inv trivial
   obtain⟨a',hgo,m₂,hk⟩:=hall (Vc (K.n - (r+1)) D) (by omega) (by simpa [pend] using hwg)
   refine .inr (Qzj A ha hcom hgo (aside_setCell w (stA K.F.Wg) _) (hwg.setSt _) bk_rw (.ske hr hk) ?_ (.inl (by simp only[phi];omega)))
   have e:(((Vc (K.n - (r+1)) D:Nat):Int)+1)*KK=((Vc (K.n - (r+1)) D+pend (.sp r 3):Nat):Int)*KK:=by simp[pend]
   rw[e]
   exact .opn trivial ho (by simp)
  ·obtain⟨a',w',es,hgo,hD,hg'⟩:=Jf w (.refl w)
   exact .inr (Qzl A ha hcom hwg hmode hgo hD (.sa1 hr hg') (by omega))
 |ske hr h=>
  rcases Goes.cases h with hstop|⟨m',rfl,Jf⟩
  ·obtain⟨_,a',hgo,m₂,hk⟩:=hstop w (.refl w)
   exact .inr (Qzj A ha hcom hgo (.refl K.F.Wg w) hwg bk_en (.sgo hr hk) (hmode.reopen trivial trivial rfl (by simp)) (.inl (by simp only[phi];omega)))
  ·obtain⟨a',w',es,hgo,hD,hg'⟩:=Jf w (.refl w)
   exact .inr (Qzl A ha hcom hwg hmode hgo hD (.ske hr hg') (by omega))
 |sgo hr h=>
  rcases Goes.cases h with hstop|⟨m',rfl,Jf⟩
  ·exact .inr (goM A hr ha hcom hwg hmode (hstop w (.refl w)))
  ·obtain⟨a',w',es,hgo,hD,hg'⟩:=Jf w (.refl w)
   exact .inr (Qzl A ha hcom hwg hmode hgo hD (.sgo hr hg') (by omega))
 |kd h=>
  rcases Goes.cases h with hstop|⟨m',rfl,Jf⟩
  ·obtain⟨_,a',hgo,m₂,hk⟩:=hstop w (.refl w)
   exact .inr (Qzj A ha hcom hgo (.refl K.F.Wg w) hwg bk_dis (.anch hk) (hmode.reopen trivial trivial rfl (by simp)) (.inl (by simp only[phi];omega)))
  ·obtain⟨a',w',es,hgo,hD,hg'⟩:=Jf w (.refl w)
   exact .inr (Qzl A ha hcom hwg hmode hgo hD (.kd hg') (by omega))
 |anch h=>
  rcases Goes.cases h with hstop|⟨m',rfl,Jf⟩
  ·obtain⟨m₂,hk⟩:=hAn a w (hstop w (.refl w))
   obtain⟨m₁,ops,μ',h1,h2,h3⟩:=QAN (sl:=sl) A ha hcom hwg (hmode.reopen trivial trivial rfl (by simp)) hk
   exact .inr ⟨m₁,ops,μ',h1,lt2_trans h2 (Prod.Lex.left _ _ (by simp only[phi];omega)),h3⟩
  ·obtain⟨a',w',es,hgo,hD,hg'⟩:=Jf w (.refl w)
   exact .inr (Qzl A ha hcom hwg hmode hgo hD (.anch hg') (by omega))
 |w1 h=>exact .inr (QAN A ha hcom hwg hmode h)
 |w2 h=>
  rename_i vs
  rcases Goes.cases h with hstop|⟨m',rfl,Jf⟩
  ·obtain⟨_,hall⟩:=hstop w (.refl w)
   obtain⟨ho,rfl,rfl,hw2⟩:=hmode.open_inv trivial
   obtain⟨hle,h1⟩:=hw2 vs rfl
   obtain⟨hhit,hmiss⟩:=hall (Vc K.n D) (by omega) (by simpa [pend] using hwg)
   by_cases e:Vc K.n D=vs
   ·obtain⟨a',hgo,m₂,hk⟩:=hhit e
    exact .inr (Qzj A ha hcom hgo (aside_setCell w (stA K.F.Wg) _) (hwg.setSt _) bk_rw (.w3 hk) (.reg trivial ho (by omega)) (.inl (by simp only[phi];omega)))
   ·obtain⟨a',hgo,m₂,hk⟩:=hmiss e
    exact .inr (Qzj A ha hcom hgo (.refl K.F.Wg w) hwg bk_rd (.anch hk) (hmode.reopen trivial trivial rfl (by simp)) (.inl (by simp only[phi];omega)))
  ·obtain⟨a',w',es,hgo,hD,hg'⟩:=Jf w (.refl w)
   exact .inr (Qzl A ha hcom hwg hmode hgo hD (.w2 hg') (by omega))
 |w3 h=>
  rcases Goes.cases h with hstop|⟨m',rfl,Jf⟩
  ·obtain⟨_,hoff,hblk,htake⟩:=hstop w (.refl w)
   cases hmode with
   |opn h1 _ _=>exact h1.elim
   |reg h1 h2 h3=>exact .inr (Qzj A ha hcom (hblk ⟨_,hwg⟩) (.refl K.F.Wg w) hwg (by simp) (.blk hstop) (.reg trivial h2 h3) (.inr ⟨rfl,by omega⟩))
   |last L h1 h2 h3 h4=>exact .inr (Qzj A ha hcom (hblk ⟨_,hwg⟩) (.refl K.F.Wg w) hwg (by simp) (.blk hstop) (.last L trivial h2 h3 h4) (.inr ⟨rfl,by omega⟩))
   |sema h2=>
    obtain⟨a',hgo,m₂,hk⟩:=htake hwg
    exact .inr (Qzj A ha hcom hgo (aside_setCell w (smA K.F.Wg) _) (hwg.setSm 0) bk_sem (.w4 hk) (.fin trivial h2) (.inl (by simp only[phi];omega)))
   |fin h1 _=>exact h1.elim
  ·obtain⟨a',w',es,hgo,hD,hg'⟩:=Jf w (.refl w)
   exact .inr (Qzl A ha hcom hwg hmode hgo hD (.w3 hg') (by omega))
 |blk h=>simp at hrun
 |w4 h=>
  rcases Goes.cases h with hstop|⟨m',rfl,Jf⟩
  ·obtain⟨_,hx⟩:=hstop w (.refl w)
   obtain⟨hq,rfl,rfl⟩:=hmode.fin_inv trivial
   obtain⟨a',hgo,m₂,hk⟩:=hx hwg
   exact .inr (Qzj A ha hcom hgo (.refl K.F.Wg w) hwg bk_rd (.ke hk) (.fin trivial hq) (.inl (by simp only[phi];omega)))
  ·obtain⟨a',w',es,hgo,hD,hg'⟩:=Jf w (.refl w)
   exact .inr (Qzl A ha hcom hwg hmode hgo hD (.w4 hg') (by omega))
 |ke h=>
  rcases Goes.cases h with hstop|⟨m',rfl,Jf⟩
  ·obtain⟨_,a',hgo,m₂,hk⟩:=hstop w (.refl w)
   obtain⟨hq,rfl,rfl⟩:=hmode.fin_inv trivial
   exact .inr (Qzj A ha hcom hgo (.refl K.F.Wg w) hwg bk_en (.acq hk) (.fin trivial hq) (.inl (by simp only[phi];omega)))
  ·obtain⟨a',w',es,hgo,hD,hg'⟩:=Jf w (.refl w)
   exact .inr (Qzl A ha hcom hwg hmode hgo hD (.ke hg') (by omega))
 |acq h=>
  rcases Goes.cases h with hstop|⟨m',rfl,Jf⟩
  ·obtain⟨hq,rfl,rfl⟩:=hmode.fin_inv trivial
   exact .inl (acqM A ha hcom hq hwg (hstop w (.refl w)))
  ·obtain⟨a',w',es,hgo,hD,hg'⟩:=Jf w (.refl w)
   exact .inr (Qzl A ha hcom hwg hmode hgo hD (.acq hg') (by omega))
end
end Go.Proofs.YtgaimkihacljdaaGreat
/- n workers and their starter, beside goroutines that only leave: THE PHASE. (Round C) -/
namespace Go.Proofs.YtgaimkihacljdaaGreat
set_option linter.unusedSectionVars false
open Go.Conc
open Go.ConcN (PermW ShN RelBy RW RC WgLive PayAt Has Full WSit CTag WD sumTo upd upd_same upd_ne phi pend cnt Vc Ssum Fsum exists_counted full_of)
open Go.ConcR (KK wgBlock WgAt stA smA rd wr mk Payload Aside2 DC0 Bk g_of_ofEvents)
section
variable [Payload] {K : Crew} {j : Nat} {gs : Array Goroutine} {w w' : World} {T : Trace} {D : Nat → WD} {q : Nat → Nat} {d0 f0 : Nat} {tag : CTag} {a : Goroutine} {st sm : Int}
theorem QB4(hAr: ∀g w,K.An g w→g.status= .running)(ha:gs[0]? =some a)(hcs:CM K tag j f0 d0 a w)(hcom:ComM K j gs w T D q d0)(hmode:Go.ConcN.Mode j D tag st sm): ∃(i:Nat) (g:Goroutine),gs[i]? =some g∧g.status= .running:=by
 rcases hcs.status hAr with⟨hs,_⟩|⟨_,rfl⟩
 ·exact⟨0,a,ha,hs⟩
 ·cases hmode with
  |opn h1 _ _=>exact h1.elim
  |reg _ _ h3=>
   obtain⟨i,hi,h5⟩:=exists_counted h3
   obtain⟨g,hg,hs⟩:=hcom.wk i hi
   exact⟨_,g,hg,hs.running (by omega)⟩
  |last L _ h2 h3 _=>
   obtain⟨g,hg,hs⟩:=hcom.wk L h2
   exact⟨_,g,hg,hs.running (by omega)⟩
  |fin h1 _=>exact h1.elim
theorem QBa(hAr: ∀g w,K.An g w→g.status= .running)(ha:gs[0]? =some a)(hcs:CM K tag j f0 d0 a w)(hcom:ComM K j gs w T D q d0): ∀g∈gs,awake g:=by
 intro g hg tm
 obtain⟨i,hi⟩:=Array.mem_iff_getElem?.1 hg
 have hst:g.status= .running∨g.status= .finished∨g.status= .blocked:=by
  rcases Nat.eq_zero_or_pos i with rfl|h0
  ·rw[ha] at hi;cases hi
   rcases hcs.status hAr with⟨hs,_⟩|⟨hs,_⟩
   ·exact .inl hs
   ·exact .inr (.inr hs)
  ·rcases Nat.lt_or_ge i K.F.base with h1|h1
   ·obtain⟨x,hx,hq⟩:=hcom.old i h0 h1
    rw[hi] at hx;cases hx
    exact hq.status.imp id .inl
   ·obtain⟨k,rfl⟩: ∃k,i=K.F.base+k:=⟨i - K.F.base,by omega⟩
    obtain⟨x,hx,hs⟩:=hcom.wk k (by have:=(Array.getElem?_eq_some_iff.1 hi).1;rw[hcom.size] at this;omega)
    rw[hi] at hx;cases hx
    exact hs.status.imp id .inl
 rcases hst with h|h|h<;>rw[h]<;>simp
theorem QBG(A:QCu K)(hAr: ∀g w,K.An g w→g.status= .running)(hAn: ∀g w,K.An g w→∃m,Goes K.P true (RC K.ty K.F.Wg K.C) (DC K K.n) (Qzr K) m g w)(μ:Nat×Nat)(m:Machine)(T:Trace)(h:InvM K μ m T):
 (∃m₁ ops,stepT K.P m=(.next m₁,ops)∧QzD K m₁ (T++ops))∨∃m₁ ops μ',stepT K.P m=(.next m₁,ops)∧Lt2 μ' μ∧InvM K μ' m₁ (T++ops):=by
 obtain⟨gs,w,sl,j,D,q,tag,f0,d0,a,st,sm,rfl,ha,hcs,hcom,hwg,hmode,rfl⟩:=h
 obtain⟨i,g,d,sl',hg,hrun,Jf⟩:=crowd_pick (P:=K.P) (w:=w) (sl:=sl) (QBa hAr ha hcs hcom) (QB4 hAr ha hcs hcom hmode)
 rw[Jf]
 have hcs':=hcs.rely (RC.at w d)
 have hcom':=hcom.at A d
 have hwg':WgAt K.ty K.F.Wg (w.at d) st sm:=hwg
 rcases Nat.eq_zero_or_pos i with rfl|h0
 ·rw[ha] at hg;cases hg
  exact QB8 A hAn ha hcs' hcom' hwg' hmode hrun
 ·rcases Nat.lt_or_ge i K.F.base with h1|h1
  ·exact .inr (QBC hAr ha hcs' hcom' hwg' hmode h0 h1 hg hrun)
  ·obtain⟨k,rfl⟩: ∃k,i=K.F.base+k:=⟨i - K.F.base,by omega⟩
   exact .inr (QB9 A hAr ha hcs' hcom' hwg' hmode (by have:=(Array.getElem?_eq_some_iff.1 hg).1;rw[hcom.size] at this;omega) hg hrun)
theorem QBF(A:QCu K)(hAr: ∀g w,K.An g w→g.status= .running)(hAn: ∀g w,K.An g w→∃m,Goes K.P true (RC K.ty K.F.Wg K.C) (DC K K.n) (Qzr K) m g w)(μ:Nat×Nat):
 ∀(m:Machine) (T:Trace),InvM K μ m T→∃N m' T',runNT K.P N m T=(.next m',T')∧QzD K m' T':=by
 have wf:WellFounded Lt2:=(Prod.lex Nat.lt_wfRel Nat.lt_wfRel).wf
 induction μ using wf.induction with
 |_ μ ih=>
  intro m T h
  rcases QBG A hAr hAn μ m T h with⟨m₁,ops,h1,h2⟩|⟨m₁,ops,μ',h1,h2,h3⟩
  ·exact⟨1,m₁,T++ops,by simp[runNT,h1],h2⟩
  ·obtain⟨N,m',T',h4,h5⟩:=ih μ' h2 m₁ (T++ops) h3
   exact⟨N+1,m',T',by simp only[runNT,h1];exact h4,h5⟩
theorem QCg{e:Event}(h:EvC K K.n e):EvL (fun l=>K.F.Shun l∨ShN K.F.Wg l) K.B e:=by
 refine⟨fun x hx hs=>?_,h.2.1,h.2.2.1,h.2.2.2.2⟩
 rcases(h.1 0 "").2 x hx with⟨_,h2⟩|⟨h1,h2,_⟩
 ·exact h2
 ·rcases hs with hs|hs
  ·exact absurd hs h2
  ·exact absurd hs h1
theorem QAE{R R':World→World→Prop}{D D':World→World→Array Event→Prop}{S:Goroutine→World→Prop}{P:Program}{main:Bool}(hR: ∀a b,R' a b→R a b)(hD: ∀w w' es,D w w' es→D' w w' es):
 ∀{n:Nat} {g:Goroutine} {w:World},Goes P main R D S n g w→Goes P main R' D' S n g w
 |0,g,w,h=>fun w₁ r=>h w₁ (hR _ _ r)
 |n+1,g,w,h=>by
  rcases h with h|⟨hr,h⟩
  ·exact .inl fun w₁ r=>h w₁ (hR _ _ r)
  ·refine .inr ⟨hr,fun w₁ r=>?_⟩
   obtain⟨g',w',es,e,hd,hn⟩:=goes_elim (h w₁ (hR _ _ r))
   rw[e]
   exact⟨hD _ _ _ hd,QAE hR hD hn⟩
theorem QCh(A:QCu K)(hAr: ∀g w,K.An g w→g.status= .running)(hAn: ∀g w,K.An g w→∃m,Goes K.P true (RC K.ty K.F.Wg K.C) (DC K K.n) (Qzr K) m g w)
 {B₀:Nat}{sl:Option (Nat×Nat)}(hB:B₀≤K.F.Wg)(h0:gs[0]? =some a)(hsz:gs.size=K.F.base)(hL:Leavers K.P T gs q)(hP:Past K.F.Shun B₀ T)(hwg:WgAt K.ty K.F.Wg w 0 0)(hpay:PayAt K.C K.L w)(hsp:Qzs K K.n a w):
 ∃(N:Nat) (gs':Array Goroutine) (a':Goroutine) (w':World) (sl':Option (Nat×Nat)) (T':Trace) (q':Nat→Nat) (x:Nat),runNT K.P N (crowd gs w sl) T=(.next (crowd gs' w' sl'),T')∧gs'[0]? =some a'∧gs'.size=gs.size+K.n∧
  Goes K.P true (RC K.ty K.F.Wg K.C) (DC K K.n) K.E x a' w'∧WgAt K.ty K.F.Wg w' 0 0∧(∀k,k<K.n→HasM K k w')∧PayAt K.C K.L w'∧Leavers K.P T' gs' q'∧Past (fun l=>K.F.Shun l∨ShN K.F.Wg l) K.B T':=by
 have hb:=A.fam.pos
 have hcom:ComM K 0 gs w T (fun _=>⟨0,0,0⟩) q 0:=by
  refine⟨by omega,fun i hi0 hi=>?_,fun k hk=>by omega,Nat.zero_le _,Tr.start hP hB,fun i hi=>?_,hP.hears,fun k hk=>by omega,fun k hk=>by omega,fun k hk=>by omega,hpay,fun op hop=>MemAct.low_mono (Nat.le_trans hB (Nat.le_of_lt A.hB)) (hP.seen op hop),fun i g hg hne _ hc=>hP.over i g hg hne hc,fun g hg=>hL.above g (by omega)⟩
  ·exact⟨gs[i]'(by omega),Array.getElem?_eq_getElem _,hL.old i _ hi0 (Array.getElem?_eq_getElem _)⟩
  ·obtain⟨op,ho,hoa⟩:=Option.map_eq_some_iff.1 hi
   have:=hP.seen op (Array.mem_of_getElem? ho)
   rw[hoa] at this
   have h2:(stA K.F.Wg).block<B₀:=this
   have h3:(stA K.F.Wg).block=K.F.Wg:=rfl
   omega
 have hmode: ∀tag,Go.ConcN.isOpen tag→pend tag=0→(∀vs,tag≠ .w2 vs)→Go.ConcN.Mode 0 (fun _=>(⟨0,0,0⟩:WD)) tag 0 0:=fun tag h1 h2 h3=>by
  have:=Go.ConcN.Mode.opn (j:=0) (D:=fun _=>(⟨0,0,0⟩:WD)) h1 (fun i hi=>by omega) (fun vs e=>absurd e (h3 vs))
  simpa [Vc,sumTo,h2] using this
 have hI: ∃μ,InvM K μ (crowd gs w sl) T:=by
  cases hn:K.n with
  |zero=>
   rw[hn] at hsp
   obtain⟨m,hk⟩:=hsp
   have hc:CM K .kd K.n m 0 a w:= .kd hk
   rw[hn] at hc
   exact⟨_,gs,w,sl,0,_,q,.kd,m,0,a,0,0,rfl,h0,hc,hcom,hwg,hmode .kd trivial rfl (by simp),rfl⟩
  |succ r=>
   rw[hn] at hsp
   obtain⟨m,hk⟩:=hsp
   have hc:=CM.skd (r:=r) (by omega) hk
   rw[hn,Nat.sub_self] at hc
   exact⟨_,gs,w,sl,0,_,q,.sp r 5,m,0,a,0,0,rfl,h0,hc,hcom,hwg,hmode (.sp r 5) trivial rfl (by simp),rfl⟩
 obtain⟨μ,hI⟩:=hI
 obtain⟨N,m',T',hr,gs',w',sl',a',q',x,rfl,g1,g2,g3,g4,g5,g6,g7,g8⟩:=QBF A hAr hAn μ _ _ hI
 exact⟨N,gs',a',w',sl',T',q',x,hr,g1,by rw[g2,hsz],g3,g4,g5,g6,g7,g8⟩
end
end Go.Proofs.YtgaimkihacljdaaGreat
/- n workers and their starter, beside goroutines that only leave: idle steps. (Round C) -/
namespace Go.Proofs.YtgaimkihacljdaaGreat
set_option linter.unusedSectionVars false
set_option linter.unusedSimpArgs false
open Go.Conc Go.ConcN Go.ConcN.Gen Go.RowKit Go.Conc.Lib Go.ConcR.Gen
open Go.ConcR (KK wgBlock WgAt stA smA rd wr mk Payload Aside2 DC0)
section
variable [Payload] {K : Crew} {k j : Nat} {w : World} {es : Array Event}
theorem Qzb(h: ∀e∈es,False):DM K k w w es:=⟨Qzt.refl w,fun e he=>(h e he).elim⟩
theorem Qzc(h: ∀e∈es,False):DC K j w w es:=⟨fun _ _=>rfl,fun e he=>(h e he).elim⟩
theorem QAD(m:Mark)(a:Addr)(h:a.block=K.F.Wg)(hB:K.F.Wg<K.B)(hm:m= .read a∨m= .write a):EvC K j ⟨.mark m,false,true⟩:=by
 rcases hm with rfl|rfl<;>refine⟨fun fn pos=>⟨rfl,fun x hx=>?_⟩,by simp,by simp,by simp,?_⟩
 ·simp only[MemAct.ofEvent,MemAct.touch?,Option.some.injEq] at hx
  subst hx
  exact .inl ⟨⟨a,rfl,h⟩,by simp⟩
 ·simp only[MemAct.ofEvent,MemAct.low];omega
 ·simp only[MemAct.ofEvent,MemAct.touch?,Option.some.injEq] at hx
  subst hx
  exact .inl ⟨⟨a,rfl,h⟩,by simp⟩
 ·simp only[MemAct.ofEvent,MemAct.low];omega
end
end Go.Proofs.YtgaimkihacljdaaGreat
/- n workers and their starter, beside goroutines that only leave: the anchor in Wait. (Round C) -/
namespace Go.Proofs.YtgaimkihacljdaaGreat
open Go.Conc Go.ConcN Go.ConcN.Gen Go.RowKit Go.Conc.Lib Go.ConcR.Gen
open Go.ConcR (KK wgBlock WgAt stA smA rd wr mk Payload Aside2 DC0)
section
variable [Payload]
def QzS(L:WgLink)(ty:TypeId)(Wg:Nat)(F:World→Prop)(c:Frame)(cs:List Frame)(g:Goroutine)(w:World):Prop:=
 ∃T:Array Value,g=G ((base L.wait).at ⟨T,[]⟩ [.code (L7 L),.inLoop (L7 L),.inBlock 0]) (c :: cs)∧T.size=84∧T[0]? =some (.pointer (some ⟨Wg,0,none⟩))∧F w∧WgLive ty Wg w
end
end Go.Proofs.YtgaimkihacljdaaGreat
