/- Lemmas: Frame Open Eng OpenL EngP. -/
import Derived.Test.YtahnegggamlkeaaZBase
import Derived.SizedLaws
import Derived.Lib.SmallJoins
import Derived.Deep.Slices
import Derived.Deep.Fields
import Derived.ChangeSame
import Derived.Conc.Holds
/- From a law's walk to its row: one theorem for every law of this seat; the arguments opened. -/
namespace Go.Proofs.Ytahnegggamlkeaa
open Go.ChangeShapes Go.WideShapes Go.ChangeAt Go.RowKit Go.Joins Go.Deep
theorem own:ownKnob Try.prog.godebug=none:=by kernel_rfl
theorem Qgm:laidOutB Try.prog=true:=by kernel_rfl
section
variable {H : Type} {enc : TypeId × Value → H}
theorem Qfv{P:Program}(hl:laidOutB P=true){W W':World}(hb:Below W.heap.size W W'): ∀(ts:List TypeId) (vs:List Value) (ds:List (DataW H)) (ps:List MemPlace),
 ts.all (fun t=>P.readableRec t && decide (t<P.types.size))=true→DataW.TrodAll enc P W 0 (fun _=>true) true ts vs ds ps→(∀x∈ps,x.block<W.heap.size)→
 DataW.TrodAll enc P W' 0 (fun b=>decide (b<W.heap.size)) true ts vs ds ps
 |[],vs,ds,ps,_,h,_=>by
  obtain⟨rfl,rfl,rfl⟩:=trodAll_nil h
  exact trodAll_mk0
 |t :: ts,vs,ds,ps,hr,h,hlt=>by
  obtain⟨v,vs',d,ds',p,q,rfl,rfl,rfl,h0,h1⟩:=trodAll_cons h
  simp only[List.all_cons,Bool.and_eq_true,decide_eq_true_eq] at hr
  exact trodAll_cons_mk (Below.trod hl hr.1.1 hr.1.2 h0 hb fun x hx=>hlt x (List.mem_append.2 (.inl hx)))
   (Qfv hl hb ts vs' ds' q hr.2 h1 fun x hx=>hlt x (List.mem_append.2 (.inr hx)))
theorem Qjt{P:Program}{fn:Func}{s:ChangeSpec}{tb:TypeId}(hl:laidOutB P=true)(hread:fn.params.toList.all (fun t=>P.readableRec t && decide (t<P.types.size))=true)(hrt:fn.resultTypes= #[tb])(htb:P.underlying tb=some .bool)
 (hvars:s.vars= []){ds:List (DataW H)}(hs:s.fn H ds={ results:=[.lit (.bool true)],args:=ds}){W W':World}{args:Array Value}{gs:List (DataW H)}{before:List MemPlace}
 (hW:DataW.Whole enc P fn.params.toList s.vars false W args.toList ds gs before)(hb:Below W.heap.size W W'):
 s.post enc P fn false true false false W args (.bool true) W':=by
 have hW0:=hW
 obtain⟨p,q,hA,hV,rfl,_,_⟩:=hW
 rw[hvars] at hV
 obtain⟨rfl,rfl⟩:=trodVars_none hV
 have hlt: ∀x∈p,x.block<W.heap.size:=fun x hx=>by simpa using hW0.lt x (List.mem_append.2 (.inl hx))
 have e:s.fn H (ds++ [])={ results:=[.lit (.bool true)],args:=ds}:=by rw[List.append_nil];exact hs
 refine⟨ds,[],_,[],p,[],hW0,?_,?_,?_,hb.frame _,fun h=>by cases h⟩
 ·rw[e,hrt]
  exact trodAll_mk1 (shut_bool htb true)
 ·rw[e]
  exact Qfv hl hb _ _ _ _ hread hA hlt
 ·rw[e,hvars]
  rfl
end
def Zb(f:FuncId)(fn:Func):Prop:=
 ∀(H:Type) (enc:TypeId×Value→H) (W:World) (base:Nat) (args:Array Value) (ds:List (DataW H)) (ps:List MemPlace),
  (∀(j:Nat) t v,fn.params[j]? =some t→args[j]? =some v→Value.okWide Try.prog W .any base t v)→
  DataW.TrodAll enc Try.prog W 0 (fun _=>true) true fn.params.toList args.toList ds ps→(∀x∈ps,x.block<W.heap.size)→
  (DataW.weightsEach Try.prog fn.params.toList ds).all (· ≤reachBytes)=true→
  Calls Try.prog f args W fun e W'=>e= .returned (.bool true)∧Below W.heap.size W W'
set_option maxRecDepth 100000 in
theorem Zh{f:FuncId}{fn:Func}{s:ChangeSpec}{tb:TypeId}(os:Os)(started:os.Started)(H:Type)(enc:TypeId×Value→H)
 (noInit: Try.checked.prog.inits.idxOf? f=none)(hfn: Try.prog.funcs[f]? =some fn)(hread:fn.params.toList.all (fun t=> Try.prog.readableRec t && decide (t< Try.prog.types.size))=true)(hrt:fn.resultTypes= #[tb])(htb: Try.prog.underlying tb=some .bool)
 (hvars:s.vars= [])(hs: ∀ds:List (DataW H),ds.length=fn.params.size→s.fn H ds={ results:=[.lit (.bool true)],args:=ds})
 (witness: ∃(w:World) (tape:Tape) (i:Input),w.os=os∧(w.forCall tape i).Shaped Try.checked.prog∧i.vars= []∧Input.okWide Try.checked.prog (w.forCall tape i) .any w.heap.size f i∧
   s.pre6 enc Try.checked.prog fn [] false (w.forCall tape i).memory i.args∧({}:Assume).holds Try.checked.prog (lone (Frame.enter Try.checked.prog f i.args .normal) [] (w.forCall tape i)))
 (walk:Zb f fn):ReturnsInHanded {} Try.checked os f .any (s.pre6 enc Try.prog fn [] false) (s.post enc Try.prog fn false true false false):=by
 refine returnsInHanded_of_change_sized (C:= Try.checked) own started noInit hfn witness ?_
 intro W base args ds gs before hval hW _ hsz _
 have hW0:=hW
 obtain⟨p,q,hA,hV,rfl,_,_⟩:=hW
 have hV0:=hV
 rw[hvars] at hV0
 obtain⟨rfl,rfl⟩:=trodVars_none hV0
 have hlen:ds.length=fn.params.size:=by
  have: ∀(ts:List TypeId) (vs:List Value) (ds:List (DataW H)) (ps:List MemPlace),DataW.TrodAll enc Try.prog W 0 (fun _=>true) true ts vs ds ps→ds.length=ts.length:=by
   intro ts
   induction ts with
   |nil=>intro vs ds ps h;obtain⟨_,rfl,_⟩:=trodAll_nil h;rfl
   |cons t ts ih=>
    intro vs ds ps h
    obtain⟨v,vs',d,ds',p,q,_,rfl,_,_,h1⟩:=trodAll_cons h
    simp[ih _ _ _ h1]
  have h:=this _ _ _ _ hA
  simpa using h
 have hsz':(DataW.weightsEach Try.prog fn.params.toList ds).all (· ≤reachBytes)=true:=by
  have e:s.plain.varTypes Try.checked.prog= []:=by
   have:s.plain.vars= []:=hvars
   simp[DataSpec.varTypes,this]
  have hsz0:=hsz
  rw[e,List.append_nil,List.append_nil] at hsz0
  exact hsz0
 have hlt: ∀x∈p,x.block<W.heap.size:=fun x hx=>by simpa using hW0.lt x (List.mem_append.2 (.inl hx))
 refine(walk H enc W base args ds p hval hA hlt hsz').mono fun e W' ⟨he,hb⟩=>?_
 subst he
 exact⟨_,rfl,Qjt Qgm hread hrt htb hvars (hs ds hlen) hW0 hb⟩
end Go.Proofs.Ytahnegggamlkeaa
/- A law's arguments opened: slices of ints, bytes, inputs, parts; replays. -/
namespace Go.Proofs.Ytahnegggamlkeaa
open Go.ChangeShapes Go.WideShapes Go.ChangeAt Go.RowKit Go.Joins Go.Deep
theorem Qvq{α:Type}{n:Nat}{p:Nat→α→Prop}(h: ∀i,i<n→∃x,p i x): ∃l:List α,l.length=n∧∀i x,l[i]? =some x→p i x:=by
 induction n with
 |zero=>exact⟨[],rfl,fun i x hx=>by simp at hx⟩
 |succ n ih=>
  obtain⟨l,hl,hp⟩:=ih fun i hi=>h i (by omega)
  obtain⟨x,hx⟩:=h n (by omega)
  refine⟨l++ [x],by simp[hl],fun i y hy=>?_⟩
  by_cases hi:i<n
  ·rw[List.getElem?_append_left (by omega)] at hy
   exact hp i y hy
  ·rw[List.getElem?_append_right (by omega)] at hy
   have h0:i - l.length=0:=by
    have:=(List.getElem?_eq_some_iff.1 hy).1
    simp at this
    omega
   rw[h0] at hy
   simp only[List.getElem?_cons_zero,Option.some.injEq] at hy
   subst hy
   have:i=n:=by omega
   subst this
   exact hx
section
variable {H : Type} {enc : TypeId × Value → H} {w : World} {base : Nat} {spare : Nat → Bool} {held : Bool}
theorem QdP{P:Program}{α:Type}{t e:TypeId}{sz:Nat}{ec:α→List Value}{good:α→Prop}(ht:P.underlying t=some (.slice e))(hC:P.cellsOf e=sz)(hpos:0<sz)(hlen: ∀x,(ec x).length=sz)
 (helem: ∀fuel cs y,DataW.trod enc P w base spare held fuel e cs=some y→∃x,cs=ec x∧good x){A:Option Addr}{n c:Nat}{d:DataW H}{ps:List MemPlace}
 (h:DataW.Trod enc P w base spare held t (.slice A n c) d ps): ∃l:List α,Sl w sz ec A n l∧(∀x∈l,good x)∧(n≤c∧c≤9223372036854775807):=by
 obtain⟨fuel,hf⟩:=h
 rcases open_slice ht hf with⟨hcs,_⟩|⟨a,len,cap,m,k,D,Pl,hcs,_,hl,hm,hmm,_,hi⟩
 ·simp only[Value.cells,List.cons.injEq,Value.slice.injEq,and_true] at hcs
  obtain⟨rfl,rfl,rfl⟩:=hcs
  exact⟨[],Sl.nil,fun x hx=>by simp at hx,by omega,by omega⟩
 ·simp only[Value.cells,List.cons.injEq,Value.slice.injEq,and_true] at hcs
  obtain⟨rfl,rfl,rfl⟩:=hcs
  have hmn:n≤m:=by rw[hmm];split<;>omega
  have hex: ∀i,i<n→∃x:α,good x∧∀j v,(ec x)[j]? =some v→w.cell? (a.add (i*sz+j))=some v:=by
   intro i hin
   obtain⟨cs',hc,ht'⟩:=hi i (by omega)
   obtain⟨x,rfl,hg⟩:=helem _ _ _ ht'
   obtain⟨_,hcl,hat⟩:=World.cells?_some hc
   rw[hC] at hat hcl
   refine⟨x,hg,fun j v hv=>?_⟩
   rw[←Go.Deep.add_add,←hv]
   exact hat j (by have:=(List.getElem?_eq_some_iff.1 hv).1;omega)
  obtain⟨l,hll,hlp⟩:=Qvq hex
  refine⟨l,⟨hll,fun hpos2=>?_⟩,fun x hx=>?_,hl,by unfold maxLen at hm;omega⟩
  ·obtain⟨b,off,spot⟩:=a
   have hx0:l[0]? =some (l[0]'(by omega)):=List.getElem?_eq_getElem _
   have hv0:(ec (l[0]'(by omega)))[0]? =some ((ec (l[0]'(by omega)))[0]'(by rw[hlen];omega)):=List.getElem?_eq_getElem _
   have hc0:=(hlp 0 _ hx0).2 0 _ hv0
   have hadd0:(⟨b,off,spot⟩:Addr).add (0*sz+0)=⟨b,off,spot⟩:=by simp[Addr.add]
   rw[hadd0] at hc0
   have hs:spot=none:=World.cell?_spot hc0
   subst hs
   refine⟨b,off,rfl,World.block_lt_of_cell? w _ hc0,fun k x hk j v hv=>?_⟩
   have:=(hlp k x hk).2 j v hv
   rwa [add_plain,←Nat.add_assoc] at this
  ·obtain⟨i,hi'⟩:=List.getElem?_of_mem hx
   exact(hlp i x hi').1
end
section
variable {H : Type} {enc : TypeId × Value → H} {P : Program} {w : World} {base : Nat} {spare : Nat → Bool} {held : Bool} {fuel : Nat} {e : TypeId} {cs : List Value} {y : DataW H × List MemPlace}
theorem QoK(he:P.underlying e=some (.int .i64))(h:DataW.trod enc P w base spare held fuel e cs=some y): ∃x:Int,cs=Qe x∧(Lit.int .i64 x).wf=true:=by
 obtain⟨n,rfl,_,hw⟩:=DataW.trod_int he h
 exact⟨n,rfl,hw⟩
theorem QoL(he:P.underlying e=some (.int .u8))(h:DataW.trod enc P w base spare held fuel e cs=some y): ∃x:Int,cs=QD x∧(Lit.int .u8 x).wf=true:=by
 obtain⟨n,rfl,_,hw⟩:=DataW.trod_int he h
 exact⟨n,rfl,hw⟩
theorem Qej{fs:Array Field}(he:P.underlying e=some (.struct fs))(hone:oneCellFields P fs=true)(hC:P.cellsOf e=fs.size)(h:DataW.trod enc P w base spare held fuel e cs=some y):
 ∃n,cs.length=fs.size∧∀(j:Nat) (f:Field),fs[j]? =some f→∃v z,cs[j]? =some v∧DataW.trod enc P w base spare held n f.type [v]=some z:=by
 obtain⟨xs,n,_,_,hlen,hxl,hf⟩:=DataW.trod_struct he h
 refine⟨n,hlen.trans hC,fun j f hj=>?_⟩
 obtain⟨ho,hk⟩:=hone_of hone j f hj
 have hjl:j<fs.size:=(Array.getElem?_eq_some_iff.1 hj).1
 have h1:=hf j f hj
 rw[ho,hk] at h1
 have hl:j<cs.length:=by rw[hlen,hC];exact hjl
 have hone':(cs.drop j).take 1= [cs[j]'hl]:=by
  rw[List.drop_eq_getElem_cons hl]
  rfl
 rw[hone'] at h1
 exact⟨cs[j]'hl,xs[j]'(by omega),List.getElem?_eq_getElem hl,h1.trans (List.getElem?_eq_getElem (by omega))⟩
end
section
variable {H : Type} {enc : TypeId × Value → H} {w : World} {base : Nat} {spare : Nat → Bool} {held : Bool}
def QaI(x:Int):Prop:=(Lit.int .i64 x).wf=true
def Qf3(x:Inp):Prop:=QaI x.s∧QaI x.p
def Qiv(x:Prt):Prop:=QaI x.c∧QaI x.m
def Qiw(x:Int):Prop:=(Lit.int .u8 x).wf=true
theorem Q0{x:Int}(h:Qiw x):0≤x∧x<256:=by
 have:=bounds_u8 h
 omega
set_option maxRecDepth 100000 in
theorem Qth{A:Option Addr}{n c:Nat}{d:DataW H}{ps:List MemPlace}(h:DataW.Trod enc Try.prog w base spare held 22 (.slice A n c) d ps):
 ∃l:List Int,Sl w 1 Qe A n l∧(∀x∈l,QaI x)∧(n≤c∧c≤9223372036854775807):=
 QdP Try.underlying22 (by kernel_rfl) (by omega) Qi (fun _ _ _ hy=>QoK Try.underlying3 hy) h
theorem Qfg{P:Program}{t e:TypeId}{n:Nat}{v:Value}{z:DataW H×List MemPlace}(ht:P.underlying t=some (.slice e))(h:DataW.trod enc P w base spare held n t [v]=some z):
 ∃A len c,v= .slice A len c∧DataW.Trod enc P w base spare held t (.slice A len c) z.1 z.2:=by
 rcases open_slice ht h with⟨hcs,_⟩|⟨a,len,cap,_,_,_,_,hcs,_⟩
 ·simp only[List.cons.injEq,and_true] at hcs
  subst hcs
  exact⟨_,_,_,rfl,n,h⟩
 ·simp only[List.cons.injEq,and_true] at hcs
  subst hcs
  exact⟨_,_,_,rfl,n,h⟩
end
end Go.Proofs.Ytahnegggamlkeaa
/- The plain engine: vectors, boxes, levels, states, one tick, runs, hashes. No program is named here. -/
namespace Go.Proofs.Ytahnegggamlkeaa
open Go.RowKit
end Go.Proofs.Ytahnegggamlkeaa
/- A law's arguments opened: levels. (Round B) -/
namespace Go.Proofs.Ytahnegggamlkeaa
open Go.ChangeShapes Go.WideShapes Go.ChangeAt Go.RowKit Go.Joins Go.Deep
section
variable {H : Type} {enc : TypeId × Value → H} {w : World} {base : Nat} {spare : Nat → Bool} {held : Bool} {fuel : Nat} {cs : List Value} {y : DataW H × List MemPlace}
end
end Go.Proofs.Ytahnegggamlkeaa
/- Plain laws of the engine: how fast the car can be, and that a tick keeps a state valid. No program is named here. -/
namespace Go.Proofs.Ytahnegggamlkeaa
open Go.RowKit
end Go.Proofs.Ytahnegggamlkeaa
