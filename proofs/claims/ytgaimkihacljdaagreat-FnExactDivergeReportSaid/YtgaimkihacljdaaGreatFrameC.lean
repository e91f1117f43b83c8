/- From a law's walk over the stand-in program to its row: a law whose code starts goroutines. (Round C) -/
import Derived.Test.YtgaimkihacljdaaGreatZHead
import Derived.Test.YtgaimkihacljdaaGreatZPhC
import Derived.Test.YtgaimkihacljdaaGreatBprog
namespace Go.Proofs.YtgaimkihacljdaaGreat
open Go.ChangeShapes Go.WideShapes Go.ChangeAt Go.RowKit Go.Joins Go.Deep
def Qah(f:FuncId)(fn:Func):Prop:=
 ∀(H:Type) (enc:TypeId×Value→H) (W:World) (base:Nat) (args:Array Value) (ds:List (DataW H)) (ps:List MemPlace),
  (∀(j:Nat) t v,fn.params[j]? =some t→args[j]? =some v→Value.okWide Tryz.prog W .any base t v)→
  DataW.TrodAll enc Tryz.prog W 0 (fun _=>true) true fn.params.toList args.toList ds ps→(∀x∈ps,x.block<W.heap.size)→
  (DataW.weightsEach Tryz.prog fn.params.toList ds).all (· ≤reachBytes)=true→
  ∀tp,Calls Sq.prog f args (on (Zo W) tp 0) fun e W'=>e= .returned (.bool true)∧Below W.heap.size (on (Zo W) tp 0) W'
theorem Xn{α:Type}{sz:Nat}{ec:α→List Value}{A:Option Addr}{n:Nat}{l:List α}{W:World}{tp:Nat→Question→Nat}(h:Sl W sz ec A n l):Sl (on (Zo W) tp 0) sz ec A n l:=by
 refine⟨h.1,fun hp=>?_⟩
 obtain⟨b,off,e,hb,hc⟩:=h.2 hp
 refine⟨b,off,e,?_,fun k x hx j v hv=>?_⟩
 ·show b<(Zo W).heap.size
  rw[QcW]
  exact hb
 ·show(Zo W).cell? _=_
  rw[Qic]
  exact hc k x hx j v hv
theorem Jb{W:World}{tp:Nat→Question→Nat}{f:FuncId}{args:Array Value}(h:Calls Sq.prog f args (on (Zo W) tp 0) fun e W'=>e= .returned (.bool true)∧Below (on (Zo W) tp 0).heap.size (on (Zo W) tp 0) W'):
 Calls Sq.prog f args (on (Zo W) tp 0) fun e W'=>e= .returned (.bool true)∧Below W.heap.size (on (Zo W) tp 0) W':=by
 have e:(on (Zo W) tp 0).heap.size=W.heap.size:=QcW W
 rw[←e]
 exact h
set_option maxRecDepth 100000 in
theorem tyB: ∃ii ib,Ty 30 81 3 4 ⟨Tryz.prog.toTables,Sq.G⟩ ii ib:=by
 have hI:(Tryz.prog.info? 3).map (fun i=>i.size)=some 1:=by kernel_rfl
 obtain⟨ii,h1,h2⟩:=Option.map_eq_some_iff.1 hI
 obtain⟨ib,h3,hz0,hz1,hz2⟩:=info_parts Tryz.infoB
 exact⟨ii,ib,(Qbf (Q:= Tryz.prog) rfl _).trans Tryz.underlying30,(Qbf (Q:= Tryz.prog) rfl _).trans Tryz.underlying81,(Qbf (Q:= Tryz.prog) rfl _).trans Tryz.underlying3,(Qbf (Q:= Tryz.prog) rfl _).trans Tryz.underlying4,(Qcc (Q:= Tryz.prog) rfl _).trans h1,(Qcc (Q:= Tryz.prog) rfl _).trans h3,h2,hz1,hz0,hz2⟩
set_option maxRecDepth 100000 in
theorem QaL{f:FuncId}{fn:Func}{s:ChangeSpec}{tb:TypeId}{tm:Tmp}(os:Os)(started:os.Started)(H:Type)(enc:TypeId×Value→H)
 (noInit: Tryz.checked.prog.inits.idxOf? f=none)(hfn: Tryz.prog.funcs[f]? =some fn)(hgn:Sq.prog.funcs[f]? =some fn)(hfd:f≠45)(hbd:fn.body.isSome=true)(hres:fn.results= #[.tmp tm])(hread:fn.params.toList.all (fun t=> Tryz.prog.readableRec t && decide (t< Tryz.prog.types.size))=true)(hrt:fn.resultTypes= #[tb])(htb: Tryz.prog.underlying tb=some .bool)
 (hvars:s.vars= [])(hs: ∀ds:List (DataW H),ds.length=fn.params.size→s.fn H ds={ results:=[.lit (.bool true)],args:=ds})
 (witness: ∃(w:World) (tape:Tape) (i:Input),w.os=os∧(w.forCall tape i).Shaped Tryz.checked.prog∧i.vars= []∧Input.okWide Tryz.checked.prog (w.forCall tape i) .any w.heap.size f i∧
   s.pre6 enc Tryz.checked.prog fn [] false (w.forCall tape i).memory i.args∧({}:Assume).holds Tryz.checked.prog (lone (Frame.enter Tryz.checked.prog f i.args .normal) [] (w.forCall tape i)))
 (walk:Qah f fn):ReturnsInLeavingWide {} Tryz.checked os f .any (s.pre6 enc Tryz.prog fn [] false) (s.post enc Tryz.prog fn false true false false):=by
 refine returnsInLeavingWide_of_change_sized (C:= Tryz.checked) own started hfn witness ?_
 intro W base args ds gs before hval hW _ hsz _
 have hW0:=hW
 obtain⟨p,q,hA,hV,rfl,_,_⟩:=hW
 have hV0:=hV
 rw[hvars] at hV0
 obtain⟨rfl,rfl⟩:=trodVars_none hV0
 have hlen:ds.length=fn.params.size:=by
  have: ∀(ts:List TypeId) (vs:List Value) (ds:List (DataW H)) (ps:List MemPlace),DataW.TrodAll enc Tryz.prog W 0 (fun _=>true) true ts vs ds ps→ds.length=ts.length:=by
   intro ts
   induction ts with
   |nil=>intro vs ds ps h;obtain⟨_,rfl,_⟩:=trodAll_nil h;rfl
   |cons t ts ih=>
    intro vs ds ps h
    obtain⟨v,vs',d,ds',p,q,_,rfl,_,_,h1⟩:=trodAll_cons h
    simp[ih _ _ _ h1]
  have h:=this _ _ _ _ hA
  simpa using h
 have hsz':(DataW.weightsEach Tryz.prog fn.params.toList ds).all (· ≤reachBytes)=true:=by
  have e:s.plain.varTypes Tryz.checked.prog= []:=by
   have:s.plain.vars= []:=hvars
   simp[DataSpec.varTypes,this]
  have hsz0:=hsz
  rw[e,List.append_nil,List.append_nil] at hsz0
  exact hsz0
 have hlt: ∀x∈p,x.block<W.heap.size:=fun x hx=>by simpa using hW0.lt x (List.mem_append.2 (.inl hx))
 have hwalk:=walk H enc W base args ds p hval hA hlt hsz'
 obtain⟨ii,ib,hT⟩:=tyB
 have hgd:Sq.G[(45:FuncId)]? =some Sq.f45:=Sq.func45
 have E:Env Tryz.prog.toTables Sq.G Sq.G.size f (fun x W'=>x= .bool true∧∃tp,Below W.heap.size (on (Zo W) tp 0) W') (QcC Tryz.prog.toTables Sq.G f args W):=⟨Sq.self,Sq.bodies,Sq.none_,fun tp=>by
  refine Qgn ?_
  refine(hwalk tp).mono ?_
  rintro e W' ⟨rfl,hb⟩
  exact⟨.bool true,rfl,rfl,tp,hb⟩⟩
 obtain⟨M,last,o,w',t',h1,h2,h3,h4⟩:=Qjs (W0:=W) (v:= .bool true) Sq.twin Sq.bodies_d Sq.self Sq.bodies Sq.none_ hbd hfd (show Sq.G[f]? = Tryz.prog.funcs[f]? from hgn.trans hfn.symm) hfn hres noInit hwalk (Qj9 E hT hgd rfl rfl rfl)
 refine⟨M,last,o,w',t',h1,h2,h3,h4.mono fun x hx=>?_⟩
 obtain⟨rfl,hb⟩:=hx
 exact Qjt Qgm hread hrt htb hvars (hs ds hlen) hW0 hb
end Go.Proofs.YtgaimkihacljdaaGreat
