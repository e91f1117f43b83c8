/- The frame of a law of the seat with the nine sentinels. (Round C, cards) -/
import Derived.Test.YtpmjcjoeckajgaaGreatDoorFrameD
import Derived.Test.YtpmjcjoeckajgaaGreatDoorVerC
import Derived.LaidLaws
import Derived.Stop.ErrReads
import Derived.LaidMore
import Derived.LaidHandle
import Derived.SevenTiedAt
namespace Go.Proofs.YtpmjcjoeckajgaaGreatDoor
open Go.ChangeShapes Go.WideShapes Go.ChangeAt Go.RowKit
def Qla:String:=match(Rows.laid_loop_example_replayverifier_impl_errText:DataW Unit) with| .iface n _=>n|_=>default
def Qvb(d:DataW Unit):List UInt8:=match d with| .iface _ (.ptr (.agg [.lit (.string t)]))=>t|_=>[]
def Qdk:List (String×List UInt8×Nat):=(Rows.fnMakeOpenRow.laid.zip [0,1,2,3,4,5,6,7,8]).map fun x=>(x.1.1,Qvb x.1.2,x.2)
theorem Qvd:Rows.fnMakeOpenRow.laid=Qjp Qla Qdk:=rfl
theorem Qvf:Rows.fnMakeOpenSpec.vars=Qdk.map (·.1):=rfl
theorem Qvc: ∀i,i<9→∃x,Qdk[i]? =some x∧x.2.2=i:=fun i hi=>by
 rcases(show i=0∨i=1∨i=2∨i=3∨i=4∨i=5∨i=6∨i=7∨i=8 by omega) with rfl|rfl|rfl|rfl|rfl|rfl|rfl|rfl|rfl<;>exact⟨_,rfl,rfl⟩
theorem Qg2: ∀x∈Qdk, Tryz.prog.globalNamed x.1=some x.2.2∧(Tryz.prog.globals[x.2.2]?).map (·.type)=some 73:=by
 have h:Qdk.all (fun x=> Tryz.prog.globalNamed x.1 == some x.2.2 && (Tryz.prog.globals[x.2.2]?).map (·.type) == some 73)=true:=by kernel_rfl
 intro x hx
 have:=List.all_eq_true.1 h x hx
 simp only[Bool.and_eq_true,beq_iff_eq] at this
 exact this
theorem Qvh(u:TypeId)(h: Tryz.prog.typeName? 3 u=some Qla):u=245:=
 typeName_ptr_named (nm:= "errors.errorString") (by kernel_rfl) (by kernel_rfl) (by decide) u (h.trans rfl)
theorem Qvs{W:World}(h:laidMet Tryz.prog Rows.fnMakeOpenRow.laid W): ∃az:Nat→Addr,Jj az W∧∀n∈Rows.fnMakeOpenSpec.vars,IVar Tryz.prog W n:=by
 rw[Qvd] at h
 obtain⟨ps,hv,hnd,hrows⟩:=h
 have hf: ∃f:Field, Tryz.prog.underlying 269=some (.struct #[f])∧f.type=9∧f.offset=0:=⟨_, Tryz.underlying269,rfl,rfl⟩
 obtain⟨f,he,hft,hfo⟩:=hf
 obtain⟨az,h1,rfl,h3⟩:=Qjq (P:= Tryz.prog) Tryz.underlying73 Qvh Tryz.underlying245 he hft hfo Tryz.underlying9 (by kernel_rfl) (by kernel_rfl) Qg2 hv hrows
 have key: ∀i,i<9→∃x a,Qdk[i]? =some x∧x.2.2=i∧az[i]? =some a∧W.var? Tryz.prog x.1=some #[.iface 245 (.pointer (some a))]∧∃c t,W.heap[a.block]? =some (.cells c t (0,0)):=fun i hi=>by
  obtain⟨x,hx,hi2⟩:=Qvc i hi
  obtain⟨a,ha,hva,hr⟩:=h3 i x hx
  exact⟨x,a,hx,hi2,ha,hva,hr⟩
 have cell: ∀i,i<9→W.cell? ⟨i,0,none⟩=some (.iface 245 (.pointer (some (az.getD i ⟨0,0,none⟩)))):=fun i hi=>by
  obtain⟨x,a,hx,hi2,ha,hva,_⟩:=key i hi
  have hg:=(Qg2 x (List.mem_of_getElem? hx)).1
  rw[hi2] at hg
  rw[List.getD_eq_getElem?_getD,ha]
  simpa using World.var?_cell hg hva 0
 refine⟨fun i=>az.getD i ⟨0,0,none⟩,⟨cell,?_,?_,?_⟩,?_⟩
 ·have h8:=cell 8 (by omega)
  rcases Nat.lt_or_ge 8 W.heap.size with h'|h'
  ·exact h'
  ·simp[World.cell?,Array.getElem?_eq_none h'] at h8
 ·intro i j hi hj hij e
  obtain⟨_,a,_,_,ha,_⟩:=key i hi
  obtain⟨_,b,_,_,hb,_⟩:=key j hj
  simp only[List.getD_eq_getElem?_getD,ha,hb,Option.getD_some] at e
  subst e
  exact hij (Qkb h1 hnd ha hb)
 ·intro i hi
  obtain⟨_,a,_,_,ha,_,hr⟩:=key i hi
  simp only[List.getD_eq_getElem?_getD,ha,Option.getD_some]
  exact hr
 ·intro n hn
  rw[Qvf] at hn
  obtain⟨x,hx,rfl⟩:=List.mem_map.1 hn
  obtain⟨i,hi⟩:=List.getElem?_of_mem hx
  obtain⟨a,_,hva,_⟩:=h3 i x hi
  obtain⟨hg,ht⟩:=Qg2 x hx
  exact⟨_,_,_,_,hg,ht, Tryz.underlying73,hva,trivial⟩
theorem Qvi{az:Nat→Addr}{W:World}{tp:Nat→Question→Nat}(h:Jj az W):Jj az (on (Zo W) tp 0):=
 ⟨fun k hk=>(Qic W _).trans (h.c k hk),(show 9≤(Zo W).heap.size by rw[QcW];exact h.z),h.ne,fun i hi=>by
   obtain⟨c,t,hc⟩:=h.r i hi
   exact⟨c,t,Qpd hc⟩⟩
def Qbg(f:FuncId)(fn:Func):Prop:=
 ∀(H:Type) (enc:TypeId×Value→H) (W:World) (base:Nat) (args:Array Value) (ds:List (DataW H)) (ps:List MemPlace) (az:Nat→Addr),
  (∀(j:Nat) t v,fn.params[j]? =some t→args[j]? =some v→Value.okWide Tryz.prog W .any base t v)→
  DataW.TrodAll enc Tryz.prog W 0 (fun _=>true) true fn.params.toList args.toList ds ps→(∀x∈ps,x.block<W.heap.size)→
  (DataW.weightsEach Tryz.prog fn.params.toList ds).all (· ≤reachBytes)=true→(∀tp,Jj az (on (Zo W) tp 0))→
  ∀tp,Calls Sq.prog f args (on (Zo W) tp 0) fun e W'=>e= .returned (.bool true)∧Below W.heap.size (on (Zo W) tp 0) W'
section
variable {H : Type} {enc : TypeId × Value → H}
theorem QlP{P:Program}{W:World}{sp:Nat→Bool}: ∀{names:List String} {gs:List (DataW H)} {q:List MemPlace},DataW.TrodVars enc P W sp names gs q→gs.length=names.length
 |[],[],_,_=>rfl
 |[],_ :: _,_,h=>by cases h
 |n :: r,[],_,h=>by cases h
 |n :: r,g :: gs,q,h=>by
  obtain⟨_,_,_,_,_,_,_,_,_,_,h1,_⟩:=h
  simp[QlP h1]
theorem QlV{P:Program}: ∀{ts us:List TypeId} {ds gs:List (DataW H)},ds.length=ts.length→DataW.weightsEach P (ts++us) (ds++gs)=DataW.weightsEach P ts ds++DataW.weightsEach P us gs
 |[],us,[],gs,_=>rfl
 |t :: ts,us,d :: ds,gs,h=>by
  have:=QlV (P:=P) (ts:=ts) (us:=us) (ds:=ds) (gs:=gs) (by simpa using h)
  simp only[List.cons_append,DataW.weightsEach,this,List.append_assoc]
set_option maxRecDepth 100000 in
theorem Qcl{f:FuncId}{fn:Func}{s:ChangeSpec}{tb:TypeId}{tm:Tmp}(os:Os)(started:os.Started)
 (noInit: Tryz.checked.prog.inits.idxOf? f=none)(hfn: Tryz.prog.funcs[f]? =some fn)(hgn:Sq.prog.funcs[f]? =some fn)(hfd:f≠118)(hbd:fn.body.isSome=true)(hres:fn.results= #[.tmp tm])(hread:fn.params.toList.all (fun t=> Tryz.prog.readableRec t && decide (t< Tryz.prog.types.size))=true)(hrt:fn.resultTypes= #[tb])(htb: Tryz.prog.underlying tb=some .bool)
 (hvars:s.vars=Rows.fnMakeOpenSpec.vars)(hs: ∀ds gs:List (DataW H),ds.length=fn.params.size→gs.length=9→s.fn H (ds++gs)={ results:=[.lit (.bool true)],args:=ds,vars:=gs})
 (witness: ∃(w:World) (tape:Tape) (i:Input),w.os=os∧(w.forCall tape i).Shaped Tryz.checked.prog∧i.vars= []∧Input.okWide Tryz.checked.prog (w.forCall tape i) .any w.heap.size f i∧
   ((s.pre enc Tryz.checked.prog fn [] false (w.forCall tape i).memory i.args∧laidMet Tryz.prog Rows.fnMakeOpenRow.laid (w.forCall tape i).memory)∧sizedMet enc Tryz.checked.prog fn (OpenSpec.ofChange s) false (w.forCall tape i).memory i.args)∧({}:Assume).holds Tryz.checked.prog (lone (Frame.enter Tryz.checked.prog f i.args .normal) [] (w.forCall tape i)))
 (walk:Qbg f fn):ReturnsInLeavingWide {} Tryz.checked os f .any (fun w args=>(s.pre enc Tryz.prog fn [] false w args∧laidMet Tryz.prog Rows.fnMakeOpenRow.laid w)∧sizedMet enc Tryz.prog fn (OpenSpec.ofChange s) false w args) (s.post enc Tryz.prog fn false true false false):=by
 refine QrN (C:= Tryz.checked) (X:=fun w=>laidMet Tryz.prog Rows.fnMakeOpenRow.laid w) (fun hh h=>h.of_heap hh.symm) own started hfn witness ?_
 intro W base args ds gs before hval hW hsz hL
 obtain⟨az,hS,hI⟩:=Qvs hL
 have hW0:=hW
 obtain⟨p,q,hA,hV,rfl,_,_⟩:=hW
 have hlen:ds.length=fn.params.size:=by
  have: ∀(ts:List TypeId) (vs:List Value) (ds:List (DataW H)) (ps:List MemPlace),DataW.TrodAll enc Tryz.prog W 0 (fun _=>true) true ts vs ds ps→ds.length=ts.length:=by
   intro ts
   induction ts with
   |nil=>intro vs ds ps h;obtain⟨_,rfl,_⟩:=trodAll_nil h;rfl
   |cons t ts ih=>
    intro vs ds ps h
    obtain⟨v,vs',d,ds',p,q,_,rfl,_,_,h1⟩:=trodAll_cons h
    simp[ih _ _ _ h1]
  have h:=this _ _ _ _ hA
  simpa using h
 have hlg:gs.length=9:=by
  have:=QlP hV
  rw[hvars] at this
  exact this
 have hsz':(DataW.weightsEach Tryz.prog fn.params.toList ds).all (· ≤reachBytes)=true:=by
  have hsz0:=hsz
  rw[QlV (by simpa using hlen),List.all_append,Bool.and_eq_true] at hsz0
  exact hsz0.1
 have hlt: ∀x∈p,x.block<W.heap.size:=fun x hx=>by simpa using hW0.lt x (List.mem_append.2 (.inl hx))
 have hwalk:=walk H enc W base args ds p az hval hA hlt hsz' (fun tp=>Qvi hS)
 obtain⟨ii,ib,hT⟩:=tyB
 have hgd:Sq.G[(118:FuncId)]? =some Sq.f118:=Sq.func118
 have E:Env Tryz.prog.toTables Sq.G Sq.G.size f (fun x W'=>x= .bool true∧∃tp,Below W.heap.size (on (Zo W) tp 0) W') (QcC Tryz.prog.toTables Sq.G f args W):=⟨Sq.self,Sq.bodies,Sq.none_,fun tp=>by
  refine Qgn ?_
  refine(hwalk tp).mono ?_
  rintro e W' ⟨rfl,hb⟩
  exact⟨.bool true,rfl,rfl,tp,hb⟩⟩
 obtain⟨M,last,o,w',t',h1,h2,h3,h4⟩:=Qjs (W0:=W) (v:= .bool true) Sq.twin Sq.bodies_d Sq.self Sq.bodies Sq.none_ hbd hfd (show Sq.G[f]? = Tryz.prog.funcs[f]? from hgn.trans hfn.symm) hfn hres noInit hwalk (Qj9 E hT hgd rfl rfl rfl)
 refine⟨M,last,o,w',t',h1,h2,h3,h4.mono fun x hx=>?_⟩
 obtain⟨rfl,hb⟩:=hx
 exact QrL Qgm hread hrt htb (hs ds gs hlen hlg) (by rw[hvars];exact hI) hW0 hb
end
theorem QbU(os:Os)(args:Array Value):laidMet Tryz.prog Rows.fnMakeOpenRow.laid ((World.doorLaid Tryz.prog 400 os).forCall (fun _ _=>0) ⟨#[],args,[]⟩).memory:=
 laidMet_of_run' 8 (by kernel_rfl) (by kernel_rfl)
theorem QcI{p:Pinned}{s:OpenSpec}{c:OpenClaim}(kinds:List LaidKind)(tests:Bool)(har:Bool×String)(lk:Bool)
 (hc:c.holds p s)(hw:c.wfByText s=true)(htie:c.laidByTextAt .later p kinds tests)
 (hst:c.start= .entering)(hnb:c.noBlocks=false∧c.again=false)(hm:p.checked.prog.mainIs=some (har.1,har.2.toList))(hn:(!har.1 && har.2.isEmpty && !lk)=false)
 (hl: ∀f fn,p.checked.prog.funcNamed c.func=some f→p.checked.prog.funcs[f]? =some fn→lk=p.checked.prog.looks []∧∀(j:Nat) t,fn.params[j]? =some t→p.checked.prog.wantsStandIn t=false)
 (hg:true=c.goesBy p.checked.prog):
 Claim7.holds p (.plain s) { stood:={ row:=c,standIns:=[],harness:=har,looks:=lk},kinds:=[],alts:=[],goes:=true,laidByText:=true,laidKinds:=kinds,laidTests:=tests,laidLooks:= .later}:=by
 have h6: ∀r:OpenClaim,Claim7.isSixth { stood:={ row:=r,standIns:=[],harness:=har,looks:=lk},kinds:=[]}=false:=fun r=>by simpa [Claim7.isSixth] using hn
 refine⟨Claim7.tied_new_at .later kinds tests (Claim7.new_of_sixth hc har lk hst hnb hm (h6 c) hl) hw,fun D hD=>?_,htie,(fun h=>by cases h),hg⟩
 cases hD
end Go.Proofs.YtpmjcjoeckajgaaGreatDoor
