/- The frame of a law over laid sentinels that starts goroutines. (Round C, cards) -/
import Derived.Test.YtpmjcjoeckajgaaGreatDoorFrameC
import Derived.Stop.LaidErr
import Derived.LaidLaws
namespace Go.Proofs.YtpmjcjoeckajgaaGreatDoor
open Go.ChangeShapes Go.WideShapes Go.ChangeAt Go.RowKit
section
variable {H : Type} {enc : TypeId × Value → H}
open Go.Conc
theorem QrN{a:Assume}{C:Checked}{os:Os}{f:FuncId}{fn:Func}{s:ChangeSpec}{conds:List PathCond}{apart fresh handsOn again:Bool}{X:World→Prop}
 (hX: ∀{w w':World},w'.heap=w.heap→X w→X w')(own:ownKnob C.prog.godebug=none)(started:os.Started)(hfn:C.prog.funcs[f]? =some fn)
 (witness: ∃(w:World) (tape:Tape) (i:Input),w.os=os∧(w.forCall tape i).Shaped C.prog∧i.vars= []∧Input.okWide C.prog (w.forCall tape i) .any w.heap.size f i∧
   ((s.pre enc C.prog fn conds apart (w.forCall tape i).memory i.args∧X (w.forCall tape i).memory)∧sizedMet enc C.prog fn (OpenSpec.ofChange s) apart (w.forCall tape i).memory i.args)∧a.holds C.prog (lone (Frame.enter C.prog f i.args .normal) [] (w.forCall tape i)))
 (runs: ∀(W:World) (base:Nat) (args:Array Value) (ds gs:List (DataW H)) (before:List MemPlace),
   (∀(j:Nat) t v,fn.params[j]? =some t→args[j]? =some v→Value.okWide C.prog W .any base t v)→
   DataW.Whole enc C.prog fn.params.toList s.vars apart W args.toList ds gs before→
   (DataW.weightsEach C.prog (fn.params.toList++s.plain.varTypes C.prog) (ds++gs)).all (· ≤reachBytes)=true→X W→
   ∃M last o w' t',runNT C.prog (M+1) (solo (G (Frame.enter C.prog f args .normal) []) W) #[]=(.ended o w',t')∧runN C.prog M (solo (G (Frame.enter C.prog f args .normal) []) W)= .next last∧
    step C.prog last= .ended o w'∧Conc.Good C.prog (fun v W'=>s.post enc C.prog fn apart fresh handsOn again W args v W') last o w' t'):
 ReturnsInLeavingWide a C os f .any (fun w args=>(s.pre enc C.prog fn conds apart w args∧X w)∧sizedMet enc C.prog fn (OpenSpec.ofChange s) apart w args) (s.post enc C.prog fn apart fresh handsOn again):=by
 refine returnsInLeavingWide_of_good own started witness ?_
 intro w tape i _ _ _ hok hpre _
 obtain⟨_,_,_,fn',hfn',_,_,_,_,hval⟩:=hok
 have e:fn'=fn:=Option.some.inj (hfn'.symm.trans hfn)
 subst e
 obtain⟨⟨⟨ds,gs,before,hw,_⟩,hx⟩,hz⟩:=hpre
 have hw':=DataW.Whole.of_heap (w':=w.forCall tape i) (by rfl) hw
 obtain⟨M,last,o,w',t',h1,h2,h3,h4⟩:=runs (w.forCall tape i) w.heap.size i.args ds gs before hval hw' (hz.weights hw) (hX (by rfl) hx)
 exact⟨M,last,o,w',t',h1,h2,h3,h4.mono fun v hp=>ChangeSpec.post_blind hp⟩
def IVar(P:Program)(W:World)(n:String):Prop:=∃g ti ms x,P.globalNamed n=some g∧(P.globals[g]?).map (·.type)=some ti∧P.underlying ti=some (.interface ms)∧W.var? P n=some #[x]∧IsIface x
theorem QlR{P:Program}{W:World}(sp:Nat→Bool): ∀{names:List String},(∀n∈names,IVar P W n)→∃gs q,DataW.TrodVars enc P W sp names gs q∧∀(W':World) (sp':Nat→Bool),(∀n∈names,W'.var? P n=W.var? P n)→DataW.TrodVars enc P W' sp' names gs q
 |[],_=>⟨[],[],rfl,fun _ _ _=>rfl⟩
 |n :: r,h=>by
  obtain⟨g,ti,ms,x,hg,ht,hi,hv,ix⟩:=h n (List.mem_cons_self ..)
  obtain⟨gs,q,h1,h2⟩:=QlR sp (names:=r) fun m hm=>h m (List.mem_cons_of_mem _ hm)
  exact⟨tok enc x :: gs,.cell g 0 :: q,⟨g,ti,#[x],1,[],q,hg,ht,hv,trod_held hi ix 0,h1,rfl⟩,fun W' sp' hW=>⟨g,ti,#[x],1,[],q,hg,ht,(hW n (List.mem_cons_self ..)).trans hv,trod_held hi ix 0,h2 W' sp' fun m hm=>hW m (List.mem_cons_of_mem _ hm),rfl⟩⟩
theorem Qwi{P:Program}{W W':World}{n:String}{cs:Array Value}(h:W.var? P n=some cs)(hb:Below W.heap.size W W'):W'.var? P n=W.var? P n:=by
 rw[h]
 unfold World.var? at h⊢
 cases hg:P.globalNamed n with
 |none=>simp[hg] at h
 |some g=>
  simp only[hg,Option.bind_some] at h⊢
  have hlt:g<W.heap.size:=by
   rcases Nat.lt_or_ge g W.heap.size with h'|h'
   ·exact h'
   ·simp[Array.getElem?_eq_none h'] at h
  rw[hb.block g hlt]
  exact h
theorem QrL{P:Program}{fn:Func}{s:ChangeSpec}{tb:TypeId}(hl:laidOutB P=true)(hread:fn.params.toList.all (fun t=>P.readableRec t && decide (t<P.types.size))=true)(hrt:fn.resultTypes= #[tb])(htb:P.underlying tb=some .bool)
 {ds gs:List (DataW H)}(hs:s.fn H (ds++gs)={ results:=[.lit (.bool true)],args:=ds,vars:=gs}){W W':World}{args:Array Value}{before:List MemPlace}
 (hv: ∀n∈s.vars,IVar P W n)(hW:DataW.Whole enc P fn.params.toList s.vars false W args.toList ds gs before)(hb:Below W.heap.size W W'):
 s.post enc P fn false true false false W args (.bool true) W':=by
 have hW0:=hW
 obtain⟨p,q,hA,hV,rfl,_,_⟩:=hW
 have hlt: ∀x∈p,x.block<W.heap.size:=fun x hx=>by simpa using hW0.lt x (List.mem_append.2 (.inl hx))
 obtain⟨gs',q',h1,h2⟩:=QlR (enc:=enc) (P:=P) (W:=W) (fun _=>true) hv
 obtain⟨rfl,rfl⟩:=hV.unique h1
 refine⟨ds,gs,_,[],p,q,hW0,?_,?_,?_,hb.frame _,fun h=>by cases h⟩
 ·rw[hs,hrt]
  exact trodAll_mk1 (shut_bool htb true)
 ·rw[hs]
  exact Qfv hl hb _ _ _ _ hread hA hlt
 ·rw[hs]
  refine h2 W' _ fun n hn=>?_
  obtain⟨g,ti,ms,x,_,_,_,hvn,_⟩:=hv n hn
  exact Qwi hvn hb
end
section
variable {P : Program} {W : World} {nm : String} {ti tp te ts : TypeId} {ms : Array (String × TypeId)} {f : Field}
def Qjp(nm:String)(L:List (String×List UInt8×Nat)):List (String×DataW Unit):=L.map fun x=>(x.1,.iface nm (.ptr (.agg [.lit (.string x.2.1)])))
def QaO:List (String×List UInt8×Nat)→List Addr→List MemPlace
 |x :: L,a :: az=>MemPlace.cell x.2.2 0 :: MemPlace.cell a.block a.off :: QaO L az
 |_,_=>[]
theorem QgC: ∀{L:List (String×List UInt8×Nat)} {az:List Addr} {i:Nat} {a:Addr},az.length=L.length→az[i]? =some a→MemPlace.cell a.block a.off∈QaO L az
 |[],[],i,a,_,h=>by cases h
 |x :: L,b :: az,0,a,_,h=>by
  obtain rfl:b=a:=by simpa using h
  simp[QaO]
 |x :: L,b :: az,i+1,a,hl,h=>by
  have:=QgC (L:=L) (az:=az) (i:=i) (a:=a) (by simpa using hl) (by simpa using h)
  simp[QaO,this]
theorem Qkb: ∀{L:List (String×List UInt8×Nat)} {az:List Addr} {i j:Nat} {a:Addr},az.length=L.length→(QaO L az).Nodup→az[i]? =some a→az[j]? =some a→i=j
 |[],[],i,j,a,_,_,h,_=>by cases h
 |x :: L,b :: az,0,0,a,_,_,_,_=>rfl
 |x :: L,b :: az,i+1,j+1,a,hl,hn,h,h'=>by
  simp only[QaO,List.nodup_cons] at hn
  have:=Qkb (L:=L) (az:=az) (i:=i) (j:=j) (a:=a) (by simpa using hl) hn.2.2 (by simpa using h) (by simpa using h')
  omega
 |x :: L,b :: az,0,j+1,a,hl,hn,h,h'=>by
  obtain rfl:b=a:=by simpa using h
  have:=QgC (L:=L) (az:=az) (i:=j) (a:=b) (by simpa using hl) (by simpa using h')
  simp only[QaO,List.nodup_cons] at hn
  exact absurd this hn.2.1
 |x :: L,b :: az,i+1,0,a,hl,hn,h,h'=>by
  obtain rfl:b=a:=by simpa using h'
  have:=QgC (L:=L) (az:=az) (i:=i) (a:=b) (by simpa using hl) (by simpa using h)
  simp only[QaO,List.nodup_cons] at hn
  exact absurd this hn.2.1
theorem Qjq(hi:P.underlying ti=some (.interface ms))(hrow: ∀u,P.typeName? 3 u=some nm→u=tp)
 (hp:P.underlying tp=some (.pointer te))(he:P.underlying te=some (.struct #[f]))(hft:f.type=ts)(hfo:f.offset=0)(hs:P.underlying ts=some .string)(hc:P.cellsOf te=1)(hcs:P.cellsOf ts=1):
 ∀{L:List (String×List UInt8×Nat)} {ps:List MemPlace},(∀x∈L,P.globalNamed x.1=some x.2.2∧(P.globals[x.2.2]?).map (·.type)=some ti)→DataW.LaidVars P W (Qjp nm L) ps→
 (∀b off,MemPlace.cell b off∈ps→(∃c t,W.heap[b]? =some (.cells c t (0,0)))∧∀u v,W.cell? ⟨b,off,none⟩=some (.iface u v)→Value.okWide P W .any 0 u v)→
 ∃az:List Addr,az.length=L.length∧ps=QaO L az∧∀(i:Nat) (x:String×List UInt8×Nat),L[i]? =some x→∃a,az[i]? =some a∧W.var? P x.1=some #[.iface tp (.pointer (some a))]∧∃c t,W.heap[a.block]? =some (.cells c t (0,0))
 |[],ps,_,h,_=>⟨[],rfl,h,fun i x hx=>by cases hx⟩
 |x :: L,ps,hL,h,hrows=>by
  obtain⟨n,text,g0⟩:=x
  obtain⟨hg0,ht0⟩:=hL _ (List.mem_cons_self ..)
  obtain⟨g,t,cs,fuel,p,q,hg,ht,hv,hd,hq,rfl⟩:=h
  obtain rfl:=Option.some.inj (hg0.symm.trans hg)
  obtain rfl:=Option.some.inj (ht0.symm.trans ht)
  obtain⟨l⟩:=cs
  have ok: ∀u v,l= [.iface u v]→Value.okWide P W .any 0 u v:=fun u v e=>by
   subst e
   exact(hrows g0 0 (by simp[MemPlace.row])).2 u v (by simpa using World.var?_cell hg hv 0)
  obtain⟨a,s,rfl,hca,_,_,rfl⟩:=errorString_of_trod hi hrow hp he hft hfo hs hc hcs hd ok
  obtain⟨az,h1,h2,h3⟩:=Qjq hi hrow hp he hft hfo hs hc hcs (L:=L) (ps:=q) (fun y hy=>hL y (List.mem_cons_of_mem _ hy)) hq fun b off hm=>hrows b off (List.mem_append_right _ hm)
  refine⟨a :: az,by simp[h1],by rw[h2];simp[MemPlace.row,QaO],fun i y hy=>?_⟩
  cases i with
  |zero=>
   obtain rfl:(n,text,g0)=y:=by simpa using hy
   exact⟨a,rfl,hv,(hrows a.block a.off (by simp[MemPlace.row])).1⟩
  |succ i=>
   obtain⟨b,hb,hb2⟩:=h3 i y (by simpa using hy)
   exact⟨b,by simpa using hb,hb2⟩
end
end Go.Proofs.YtpmjcjoeckajgaaGreatDoor
