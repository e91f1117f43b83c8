/- Lemmas: Frame Open Eng OpenL EngP. -/
import Derived.Test.YtgaimkihacljdaaGreatZBase
import Derived.SizedLaws
import Derived.Lib.SmallJoins
import Derived.Deep.Slices
import Derived.Deep.Fields
import Derived.ChangeSame
import Derived.Conc.Holds
/- From a law's walk to its row: one theorem for every law of this seat; the arguments opened. -/
namespace Go.Proofs.YtgaimkihacljdaaGreat
open Go.ChangeShapes Go.WideShapes Go.ChangeAt Go.RowKit Go.Joins Go.Deep
theorem own:ownKnob Tryz.prog.godebug=none:=by kernel_rfl
theorem Qgm:laidOutB Tryz.prog=true:=by kernel_rfl
section
variable {H : Type} {enc : TypeId × Value → H}
theorem Qfv{P:Program}(hl:laidOutB P=true){W W':World}(hb:Below W.heap.size W W'): ∀(ts:List TypeId) (vs:List Value) (ds:List (DataW H)) (ps:List MemPlace),
 ts.all (fun t=>P.readableRec t && decide (t<P.types.size))=true→DataW.TrodAll enc P W 0 (fun _=>true) true ts vs ds ps→(∀x∈ps,x.block<W.heap.size)→
 DataW.TrodAll enc P W' 0 (fun b=>decide (b<W.heap.size)) true ts vs ds ps
 |[],vs,ds,ps,_,h,_=>by
  obtain⟨rfl,rfl,rfl⟩:=trodAll_nil h
  exact trodAll_mk0
 |t :: ts,vs,ds,ps,hr,h,hlt=>by
  obtain⟨v,vs',d,ds',p,q,rfl,rfl,rfl,h0,h1⟩:=trodAll_cons h
  simp only[List.all_cons,Bool.and_eq_true,decide_eq_true_eq] at hr
  exact trodAll_cons_mk (Below.trod hl hr.1.1 hr.1.2 h0 hb fun x hx=>hlt x (List.mem_append.2 (.inl hx)))
   (Qfv hl hb ts vs' ds' q hr.2 h1 fun x hx=>hlt x (List.mem_append.2 (.inr hx)))
theorem Qjt{P:Program}{fn:Func}{s:ChangeSpec}{tb:TypeId}(hl:laidOutB P=true)(hread:fn.params.toList.all (fun t=>P.readableRec t && decide (t<P.types.size))=true)(hrt:fn.resultTypes= #[tb])(htb:P.underlying tb=some .bool)
 (hvars:s.vars= []){ds:List (DataW H)}(hs:s.fn H ds={ results:=[.lit (.bool true)],args:=ds}){W W':World}{args:Array Value}{gs:List (DataW H)}{before:List MemPlace}
 (hW:DataW.Whole enc P fn.params.toList s.vars false W args.toList ds gs before)(hb:Below W.heap.size W W'):
 s.post enc P fn false true false false W args (.bool true) W':=by
 have hW0:=hW
 obtain⟨p,q,hA,hV,rfl,_,_⟩:=hW
 rw[hvars] at hV
 obtain⟨rfl,rfl⟩:=trodVars_none hV
 have hlt: ∀x∈p,x.block<W.heap.size:=fun x hx=>by simpa using hW0.lt x (List.mem_append.2 (.inl hx))
 have e:s.fn H (ds++ [])={ results:=[.lit (.bool true)],args:=ds}:=by rw[List.append_nil];exact hs
 refine⟨ds,[],_,[],p,[],hW0,?_,?_,?_,hb.frame _,fun h=>by cases h⟩
 ·rw[e,hrt]
  exact trodAll_mk1 (shut_bool htb true)
 ·rw[e]
  exact Qfv hl hb _ _ _ _ hread hA hlt
 ·rw[e,hvars]
  rfl
end
def Zb(f:FuncId)(fn:Func):Prop:=
 ∀(H:Type) (enc:TypeId×Value→H) (W:World) (base:Nat) (args:Array Value) (ds:List (DataW H)) (ps:List MemPlace),
  (∀(j:Nat) t v,fn.params[j]? =some t→args[j]? =some v→Value.okWide Tryz.prog W .any base t v)→
  DataW.TrodAll enc Tryz.prog W 0 (fun _=>true) true fn.params.toList args.toList ds ps→(∀x∈ps,x.block<W.heap.size)→
  (DataW.weightsEach Tryz.prog fn.params.toList ds).all (· ≤reachBytes)=true→
  Calls Tryz.prog f args W fun e W'=>e= .returned (.bool true)∧Below W.heap.size W W'
set_option maxRecDepth 100000 in
theorem Zh{f:FuncId}{fn:Func}{s:ChangeSpec}{tb:TypeId}(os:Os)(started:os.Started)(H:Type)(enc:TypeId×Value→H)
 (noInit: Tryz.checked.prog.inits.idxOf? f=none)(hfn: Tryz.prog.funcs[f]? =some fn)(hread:fn.params.toList.all (fun t=> Tryz.prog.readableRec t && decide (t< Tryz.prog.types.size))=true)(hrt:fn.resultTypes= #[tb])(htb: Tryz.prog.underlying tb=some .bool)
 (hvars:s.vars= [])(hs: ∀ds:List (DataW H),ds.length=fn.params.size→s.fn H ds={ results:=[.lit (.bool true)],args:=ds})
 (witness: ∃(w:World) (tape:Tape) (i:Input),w.os=os∧(w.forCall tape i).Shaped Tryz.checked.prog∧i.vars= []∧Input.okWide Tryz.checked.prog (w.forCall tape i) .any w.heap.size f i∧
   s.pre6 enc Tryz.checked.prog fn [] false (w.forCall tape i).memory i.args∧({}:Assume).holds Tryz.checked.prog (lone (Frame.enter Tryz.checked.prog f i.args .normal) [] (w.forCall tape i)))
 (walk:Zb f fn):ReturnsInHanded {} Tryz.checked os f .any (s.pre6 enc Tryz.prog fn [] false) (s.post enc Tryz.prog fn false true false false):=by
 refine returnsInHanded_of_change_sized (C:= Tryz.checked) own started noInit hfn witness ?_
 intro W base args ds gs before hval hW _ hsz _
 have hW0:=hW
 obtain⟨p,q,hA,hV,rfl,_,_⟩:=hW
 have hV0:=hV
 rw[hvars] at hV0
 obtain⟨rfl,rfl⟩:=trodVars_none hV0
 have hlen:ds.length=fn.params.size:=by
  have: ∀(ts:List TypeId) (vs:List Value) (ds:List (DataW H)) (ps:List MemPlace),DataW.TrodAll enc Tryz.prog W 0 (fun _=>true) true ts vs ds ps→ds.length=ts.length:=by
   intro ts
   induction ts with
   |nil=>intro vs ds ps h;obtain⟨_,rfl,_⟩:=trodAll_nil h;rfl
   |cons t ts ih=>
    intro vs ds ps h
    obtain⟨v,vs',d,ds',p,q,_,rfl,_,_,h1⟩:=trodAll_cons h
    simp[ih _ _ _ h1]
  have h:=this _ _ _ _ hA
  simpa using h
 have hsz':(DataW.weightsEach Tryz.prog fn.params.toList ds).all (· ≤reachBytes)=true:=by
  have e:s.plain.varTypes Tryz.checked.prog= []:=by
   have:s.plain.vars= []:=hvars
   simp[DataSpec.varTypes,this]
  have hsz0:=hsz
  rw[e,List.append_nil,List.append_nil] at hsz0
  exact hsz0
 have hlt: ∀x∈p,x.block<W.heap.size:=fun x hx=>by simpa using hW0.lt x (List.mem_append.2 (.inl hx))
 refine(walk H enc W base args ds p hval hA hlt hsz').mono fun e W' ⟨he,hb⟩=>?_
 subst he
 exact⟨_,rfl,Qjt Qgm hread hrt htb hvars (hs ds hlen) hW0 hb⟩
end Go.Proofs.YtgaimkihacljdaaGreat
/- A law's arguments opened: slices of ints, bytes, inputs, parts; replays. -/
namespace Go.Proofs.YtgaimkihacljdaaGreat
open Go.ChangeShapes Go.WideShapes Go.ChangeAt Go.RowKit Go.Joins Go.Deep
theorem Qvq{α:Type}{n:Nat}{p:Nat→α→Prop}(h: ∀i,i<n→∃x,p i x): ∃l:List α,l.length=n∧∀i x,l[i]? =some x→p i x:=by
 induction n with
 |zero=>exact⟨[],rfl,fun i x hx=>by simp at hx⟩
 |succ n ih=>
  obtain⟨l,hl,hp⟩:=ih fun i hi=>h i (by omega)
  obtain⟨x,hx⟩:=h n (by omega)
  refine⟨l++ [x],by simp[hl],fun i y hy=>?_⟩
  by_cases hi:i<n
  ·rw[List.getElem?_append_left (by omega)] at hy
   exact hp i y hy
  ·rw[List.getElem?_append_right (by omega)] at hy
   have h0:i - l.length=0:=by
    have:=(List.getElem?_eq_some_iff.1 hy).1
    simp at this
    omega
   rw[h0] at hy
   simp only[List.getElem?_cons_zero,Option.some.injEq] at hy
   subst hy
   have:i=n:=by omega
   subst this
   exact hx
section
variable {H : Type} {enc : TypeId × Value → H} {w : World} {base : Nat} {spare : Nat → Bool} {held : Bool}
theorem QdP{P:Program}{α:Type}{t e:TypeId}{sz:Nat}{ec:α→List Value}{good:α→Prop}(ht:P.underlying t=some (.slice e))(hC:P.cellsOf e=sz)(hpos:0<sz)(hlen: ∀x,(ec x).length=sz)
 (helem: ∀fuel cs y,DataW.trod enc P w base spare held fuel e cs=some y→∃x,cs=ec x∧good x){A:Option Addr}{n c:Nat}{d:DataW H}{ps:List MemPlace}
 (h:DataW.Trod enc P w base spare held t (.slice A n c) d ps): ∃l:List α,Sl w sz ec A n l∧(∀x∈l,good x)∧(n≤c∧c≤9223372036854775807):=by
 obtain⟨fuel,hf⟩:=h
 rcases open_slice ht hf with⟨hcs,_⟩|⟨a,len,cap,m,k,D,Pl,hcs,_,hl,hm,hmm,_,hi⟩
 ·simp only[Value.cells,List.cons.injEq,Value.slice.injEq,and_true] at hcs
  obtain⟨rfl,rfl,rfl⟩:=hcs
  exact⟨[],Sl.nil,fun x hx=>by simp at hx,by omega,by omega⟩
 ·simp only[Value.cells,List.cons.injEq,Value.slice.injEq,and_true] at hcs
  obtain⟨rfl,rfl,rfl⟩:=hcs
  have hmn:n≤m:=by rw[hmm];split<;>omega
  have hex: ∀i,i<n→∃x:α,good x∧∀j v,(ec x)[j]? =some v→w.cell? (a.add (i*sz+j))=some v:=by
   intro i hin
   obtain⟨cs',hc,ht'⟩:=hi i (by omega)
   obtain⟨x,rfl,hg⟩:=helem _ _ _ ht'
   obtain⟨_,hcl,hat⟩:=World.cells?_some hc
   rw[hC] at hat hcl
   refine⟨x,hg,fun j v hv=>?_⟩
   rw[←Go.Deep.add_add,←hv]
   exact hat j (by have:=(List.getElem?_eq_some_iff.1 hv).1;omega)
  obtain⟨l,hll,hlp⟩:=Qvq hex
  refine⟨l,⟨hll,fun hpos2=>?_⟩,fun x hx=>?_,hl,by unfold maxLen at hm;omega⟩
  ·obtain⟨b,off,spot⟩:=a
   have hx0:l[0]? =some (l[0]'(by omega)):=List.getElem?_eq_getElem _
   have hv0:(ec (l[0]'(by omega)))[0]? =some ((ec (l[0]'(by omega)))[0]'(by rw[hlen];omega)):=List.getElem?_eq_getElem _
   have hc0:=(hlp 0 _ hx0).2 0 _ hv0
   have hadd0:(⟨b,off,spot⟩:Addr).add (0*sz+0)=⟨b,off,spot⟩:=by simp[Addr.add]
   rw[hadd0] at hc0
   have hs:spot=none:=World.cell?_spot hc0
   subst hs
   refine⟨b,off,rfl,World.block_lt_of_cell? w _ hc0,fun k x hk j v hv=>?_⟩
   have:=(hlp k x hk).2 j v hv
   rwa [add_plain,←Nat.add_assoc] at this
  ·obtain⟨i,hi'⟩:=List.getElem?_of_mem hx
   exact(hlp i x hi').1
end
section
variable {H : Type} {enc : TypeId × Value → H} {P : Program} {w : World} {base : Nat} {spare : Nat → Bool} {held : Bool} {fuel : Nat} {e : TypeId} {cs : List Value} {y : DataW H × List MemPlace}
theorem QoK(he:P.underlying e=some (.int .i64))(h:DataW.trod enc P w base spare held fuel e cs=some y): ∃x:Int,cs=Qe x∧(Lit.int .i64 x).wf=true:=by
 obtain⟨n,rfl,_,hw⟩:=DataW.trod_int he h
 exact⟨n,rfl,hw⟩
theorem QoL(he:P.underlying e=some (.int .u8))(h:DataW.trod enc P w base spare held fuel e cs=some y): ∃x:Int,cs=QD x∧(Lit.int .u8 x).wf=true:=by
 obtain⟨n,rfl,_,hw⟩:=DataW.trod_int he h
 exact⟨n,rfl,hw⟩
theorem Qej{fs:Array Field}(he:P.underlying e=some (.struct fs))(hone:oneCellFields P fs=true)(hC:P.cellsOf e=fs.size)(h:DataW.trod enc P w base spare held fuel e cs=some y):
 ∃n,cs.length=fs.size∧∀(j:Nat) (f:Field),fs[j]? =some f→∃v z,cs[j]? =some v∧DataW.trod enc P w base spare held n f.type [v]=some z:=by
 obtain⟨xs,n,_,_,hlen,hxl,hf⟩:=DataW.trod_struct he h
 refine⟨n,hlen.trans hC,fun j f hj=>?_⟩
 obtain⟨ho,hk⟩:=hone_of hone j f hj
 have hjl:j<fs.size:=(Array.getElem?_eq_some_iff.1 hj).1
 have h1:=hf j f hj
 rw[ho,hk] at h1
 have hl:j<cs.length:=by rw[hlen,hC];exact hjl
 have hone':(cs.drop j).take 1= [cs[j]'hl]:=by
  rw[List.drop_eq_getElem_cons hl]
  rfl
 rw[hone'] at h1
 exact⟨cs[j]'hl,xs[j]'(by omega),List.getElem?_eq_getElem hl,h1.trans (List.getElem?_eq_getElem (by omega))⟩
end
section
variable {H : Type} {enc : TypeId × Value → H} {w : World} {base : Nat} {spare : Nat → Bool} {held : Bool}
def QaI(x:Int):Prop:=(Lit.int .i64 x).wf=true
def Qf3(x:Inp):Prop:=QaI x.s∧QaI x.p
def Qiv(x:Prt):Prop:=QaI x.c∧QaI x.m
def Qiw(x:Int):Prop:=(Lit.int .u8 x).wf=true
theorem Q0{x:Int}(h:Qiw x):0≤x∧x<256:=by
 have:=bounds_u8 h
 omega
theorem QoI{fuel:Nat}{cs:List Value}{y:DataW H×List MemPlace}(h:DataW.trod enc Tryz.prog w base spare held fuel 62 cs=some y): ∃x:Inp,cs=Qd x∧Qf3 x:=by
 obtain⟨n,hl,hf⟩:=Qej Tryz.underlying62 (by kernel_rfl) (by kernel_rfl) h
 obtain⟨v0,z0,e0,h0⟩:=hf 0 _ rfl
 obtain⟨v1,z1,e1,h1⟩:=hf 1 _ rfl
 obtain⟨v2,z2,e2,h2⟩:=hf 2 _ rfl
 obtain⟨a,ha,_,wa⟩:=DataW.trod_int Tryz.underlying3 h0
 obtain⟨b,hb,_,wb⟩:=DataW.trod_int Tryz.underlying3 h1
 obtain⟨c,hc,_⟩:=DataW.trod_bool Tryz.underlying4 h2
 simp only[List.cons.injEq,and_true] at ha hb hc
 subst ha hb hc
 match cs,hl with
 |[c0,c1,c2],_=>
  simp only[List.getElem?_cons_zero,List.getElem?_cons_succ,Option.some.injEq] at e0 e1 e2
  subst e0 e1 e2
  exact⟨⟨a,b,c⟩,rfl,wa,wb⟩
set_option maxRecDepth 100000 in
theorem Qcs{A:Option Addr}{n c:Nat}{d:DataW H}{ps:List MemPlace}(h:DataW.Trod enc Tryz.prog w base spare held 29 (.slice A n c) d ps):
 ∃l:List Inp,Sl w 3 Qd A n l∧(∀x∈l,Qf3 x)∧(n≤c∧c≤9223372036854775807):=
 QdP Tryz.underlying29 (by kernel_rfl) (by omega) Qh (fun _ _ _ hy=>QoI hy) h
set_option maxRecDepth 100000 in
theorem Qth{A:Option Addr}{n c:Nat}{d:DataW H}{ps:List MemPlace}(h:DataW.Trod enc Tryz.prog w base spare held 30 (.slice A n c) d ps):
 ∃l:List Int,Sl w 1 Qe A n l∧(∀x∈l,QaI x)∧(n≤c∧c≤9223372036854775807):=
 QdP Tryz.underlying30 (by kernel_rfl) (by omega) Qi (fun _ _ _ hy=>QoK Tryz.underlying3 hy) h
theorem Qfg{P:Program}{t e:TypeId}{n:Nat}{v:Value}{z:DataW H×List MemPlace}(ht:P.underlying t=some (.slice e))(h:DataW.trod enc P w base spare held n t [v]=some z):
 ∃A len c,v= .slice A len c∧DataW.Trod enc P w base spare held t (.slice A len c) z.1 z.2:=by
 rcases open_slice ht h with⟨hcs,_⟩|⟨a,len,cap,_,_,_,_,hcs,_⟩
 ·simp only[List.cons.injEq,and_true] at hcs
  subst hcs
  exact⟨_,_,_,rfl,n,h⟩
 ·simp only[List.cons.injEq,and_true] at hcs
  subst hcs
  exact⟨_,_,_,rfl,n,h⟩
end
end Go.Proofs.YtgaimkihacljdaaGreat
/- The plain engine: vectors, boxes, levels, states, one tick, runs, hashes. No program is named here. -/
namespace Go.Proofs.YtgaimkihacljdaaGreat
open Go.RowKit
structure V2 where
 x:Int
 y:Int
structure Bx where
 lo:V2
 hi:V2
structure Lev where
 id:Int
 ticks:Int
 start:V2
 walls:List Bx
 gates:List Bx
 fin:Bx
 bans:Int
structure St where
 t:Int
 p:V2
 f:V2
 d:Int
 g:Int
 dn:Bool
 ov:Bool
def Zr(v:V2):List Value:=[.int .i64 v.x,.int .i64 v.y]
def Qc(b:Bx):List Value:=[.int .i64 b.lo.x,.int .i64 b.lo.y,.int .i64 b.hi.x,.int .i64 b.hi.y]
theorem Qv(v:Bx):(Qc v).length=4:=rfl
/-! ### square roots -/
def isqN:Nat→Nat
 |0=>0
 |n+1=>if(isqN n+1)*(isqN n+1)≤n+1 then isqN n+1 else isqN n
theorem Qi5: ∀n,isqN n*isqN n≤n∧n<(isqN n+1)*(isqN n+1)
 |0=>by simp[isqN]
 |n+1=>by
  obtain⟨h1,h2⟩:=Qi5 n
  rw[isqN]
  split
  ·rename_i h
   refine⟨h,?_⟩
   have e:(isqN n+1+1)*(isqN n+1+1)=(isqN n+1)*(isqN n+1)+(2*isqN n+3):=by
    simp only[Nat.add_mul,Nat.mul_add,Nat.one_mul,Nat.mul_one];omega
   omega
  ·rename_i h
   exact⟨by omega,by omega⟩
def isq(n:Int):Int:=(isqN n.toNat:Nat)
theorem Qce{n:Int}(h:0≤n):0≤isq n∧isq n*isq n≤n∧n<(isq n+1)*(isq n+1):=by
 obtain⟨m,rfl⟩:=Int.eq_ofNat_of_zero_le h
 obtain⟨h1,h2⟩:=Qi5 m
 unfold isq
 rw[Int.toNat_natCast]
 refine⟨by omega,?_,?_⟩
 ·exact_mod_cast h1
 ·exact_mod_cast h2
theorem Qg4{a b:Int}(ha:0≤a)(h:a≤b):a*a≤b*b:=Int.mul_le_mul h h ha (by omega)
theorem QdN{a b:Int}(hb:0≤b)(h:a*a<b*b):a<b:=by
 rcases Int.lt_or_le a b with h1|h1
 ·exact h1
 ·have:=Qg4 hb h1;omega
theorem Qi6{n r:Int}(hr:0≤r)(h1:r*r≤n)(h2:n<(r+1)*(r+1)):isq n=r:=by
 have hn:0≤n:=Int.le_trans (Int.mul_nonneg hr hr) h1
 obtain⟨g0,g1,g2⟩:=Qce hn
 have a:=QdN (b:=r+1) (by omega) (Int.lt_of_le_of_lt g1 h2)
 have b:=QdN (b:=isq n+1) (by omega) (Int.lt_of_le_of_lt h1 g2)
 omega
theorem Qqt{a b:Int}(ha:0≤a)(h:a≤b):isq a≤isq b:=by
 obtain⟨g0,g1,g2⟩:=Qce ha
 obtain⟨k0,k1,k2⟩:=Qce (n:=b) (by omega)
 have:=QdN (a:=isq a) (b:=isq b+1) (by omega) (by omega)
 omega
theorem Qi7{n r:Int}(hn:0≤n)(hr:0≤r)(h:n<(r+1)*(r+1)):isq n≤r:=by
 obtain⟨g0,g1,g2⟩:=Qce hn
 have:=QdN (a:=isq n) (b:=r+1) (by omega) (by omega)
 omega
theorem Qju{n r:Int}(hn:0≤n)(h:r*r≤n):r≤isq n:=by
 obtain⟨g0,g1,g2⟩:=Qce hn
 have:=QdN (a:=r) (b:=isq n+1) (by omega) (by omega)
 omega
/-! ### vectors -/
def vOk(v:V2):Bool:=inR (-1000000) 1000000 v.x && inR (-1000000) 1000000 v.y
theorem ZO{v:V2}:vOk v=true↔ -1000000≤v.x∧v.x≤1000000∧ -1000000≤v.y∧v.y≤1000000:=by
 simp[vOk,Q5,and_assoc]
def mul1(a b:Int):Int:=(a*b).tdiv 1000
def QQ(v:V2)(k:Int):V2:=⟨mul1 v.x k,mul1 v.y k⟩
def len2(v:V2):Int:=v.x*v.x+v.y*v.y
def lenV(v:V2):Int:=isq (len2 v)
def dirT:List Int:=[1000,924,707,383,0, -383, -707, -924, -1000, -924, -707, -383,0,383,707,924]
def dirV(d:Int):V2:=⟨dirT.getD d.toNat 0,dirT.getD ((d+12) % 16).toNat 0⟩
def XB(v:V2)(m:Int):V2:=if lenV v≤m then v else⟨(v.x*m).tdiv (lenV v),(v.y*m).tdiv (lenV v)⟩
/-! ### boxes and levels -/
def bxOk(b:Bx):Bool:=vOk b.lo && (vOk b.hi && (decide (b.lo.x≤b.hi.x) && decide (b.lo.y≤b.hi.y)))
def hasV(b:Bx)(v:V2):Bool:=inR b.lo.x b.hi.x v.x && inR b.lo.y b.hi.y v.y
def Xi(b:Bx)(v:V2):V2:=⟨max b.lo.x (min v.x b.hi.x),max b.lo.y (min v.y b.hi.y)⟩
def Qag(b:Bx)(v:V2)(r:Int):Bool:=decide ((v.x - (Xi b v).x)*(v.x - (Xi b v).x)+(v.y - (Xi b v).y)*(v.y - (Xi b v).y)≤r*r)
def QY(l:Lev)(v:V2):Bool:=l.walls.all fun b=> !Qag b v 500
def XZ(l:List Bx):Bool:=l.all bxOk
def QE(l:Lev):Bool:=
 inR 0 99 l.id && (inR 1 60 l.ticks && (vOk l.start && (decide (l.walls.length≤4) && (XZ l.walls && (decide (l.gates.length≤3) && (XZ l.gates && (bxOk l.fin && (inR 0 3 l.bans && QY l l.start))))))))
def banB(l:Lev)(b:Int):Bool:=l.bans/b % 2 == 1
def folB(l:Lev)(s:Int)(x:Inp):Bool:=QT x && (!(x.z && banB l 2) && (!(x.p == 2 && banB l 1) && inR (-1) 1 (x.s - s)))
def bdV(v:V2):Prop:= -100000000≤v.x∧v.x≤100000000∧ -100000000≤v.y∧v.y≤100000000
def bdBx(b:Bx):Prop:=bdV b.lo∧bdV b.hi
theorem QcB{a:Int}(h: -200000000≤a∧a≤200000000):0≤a*a∧a*a≤40000000000000000:=by
 have h1:=Int.mul_le_mul_of_nonneg_right (a:= -200000000) (b:=a) (c:=200000000+a) h.1 (by omega)
 have h2:=Int.mul_nonneg (a:=200000000 - a) (b:=200000000+a) (by omega) (by omega)
 have e1:(200000000 - a)*(200000000+a)=40000000000000000 - a*a:=by
  rw[Int.sub_mul,Int.mul_add,Int.mul_add,Int.mul_comm a 200000000];omega
 have h3:0≤a*a:=by
  rcases Int.le_total 0 a with h|h
  ·exact Int.mul_nonneg h h
  ·exact Int.mul_nonneg_of_nonpos_of_nonpos h h
 omega
theorem QjM{b:Bx}{v:V2}(hb:bdBx b)(hv:bdV v):bdV (Xi b v):=by
 obtain⟨h1,h2⟩:=hb
 unfold bdV at*
 simp only[Xi]
 omega
/-! ### QC inputs -/
def J8(ins:List Inp):Int:=((ins.filter fun x=>x.z).length:Nat)
def Jq(ins:List Inp):Int:=(ins.getLast?.map (·.s)).getD 0
def Zm(l:Lev)(ins:List Inp)(k:Nat):Bool:=
 match ins[k]? with
 |none=>false
 |some x=>decide (l.ticks≤k) || (decide (3<J8 (ins.take (k+1))) || !folB l (Jq (ins.take k)) x)
def QC(l:Lev)(ins:List Inp):Int:=(((List.range ins.length).find? (Zm l ins)).map fun k=>(k:Int)).getD (-1)
theorem QaM{l:Lev}{ins:List Inp}{k:Nat}(hk:k<ins.length)(h: ∀j,j<k→Zm l ins j=false)(hb:Zm l ins k=true):QC l ins=k:=by
 unfold QC
 have:(List.range ins.length).find? (Zm l ins)=some k:=by
  rw[List.find?_range_eq_some]
  exact⟨hb,by simpa using hk,fun j hj=>by simp[h j hj]⟩
 rw[this];rfl
theorem Qgp{l:Lev}{ins:List Inp}(h: ∀j,j<ins.length→Zm l ins j=false):QC l ins= -1:=by
 unfold QC
 have:(List.range ins.length).find? (Zm l ins)=none:=by
  rw[List.find?_eq_none]
  intro j hj
  rw[List.mem_range] at hj
  simp[h j hj]
 rw[this];rfl
theorem QeI(l:Lev)(ins:List Inp):(QC l ins= -1∧∀j,j<ins.length→Zm l ins j=false)∨∃k:Nat,k<ins.length∧QC l ins=k∧Zm l ins k=true∧∀j,j<k→Zm l ins j=false:=by
 unfold QC
 cases e:(List.range ins.length).find? (Zm l ins) with
 |none=>
  left
  refine⟨rfl,fun j hj=>?_⟩
  have:=List.find?_eq_none.1 e j (List.mem_range.2 hj)
  simpa using this
 |some k=>
  right
  rw[List.find?_range_eq_some] at e
  obtain⟨h1,h2,h3⟩:=e
  exact⟨k,by simpa using h2,rfl,h1,fun j hj=>by simpa using h3 j hj⟩
def QA(l:Lev)(ins:List Inp):Bool:=QE l && decide (QC l ins<0)
/-! ### one tick -/
def st0(l:Lev):St:=⟨0,l.start,⟨0,0⟩,0,0,false,false⟩
def Zx(f:V2)(d pw:Int):V2:=
 if pw=1 then XB ⟨f.x+(QQ (dirV d) 200).x,f.y+(QQ (dirV d) 200).y⟩ 2000 else if pw=2 then QQ f 700 else QQ f 950
def Zz(l:Lev)(p f:V2):V2×V2:=if QY l ⟨p.x+f.x,p.y⟩ then(⟨p.x+f.x,p.y⟩,f) else(p,⟨-(f.x.tdiv 2),f.y⟩)
def ZY(l:Lev)(p f:V2):V2×V2:=if QY l ⟨p.x,p.y+f.y⟩ then(⟨p.x,p.y+f.y⟩,f) else(p,⟨f.x, -(f.y.tdiv 2)⟩)
def ZK(l:Lev)(p f:V2):V2×V2:=ZY l (Zz l p f).1 (Zz l p f).2
def Xg(l:Lev)(g:Int)(p:V2):Bool:=match l.gates[g.toNat]? with
 |some b=>decide (0≤g) && hasV b p
 |none=>false
def Qaz(d s:Int):Int:=(d+s+16) % 16
def QR(l:Lev)(s:St)(x:Inp):St:=
 let d:=Qaz s.d x.s
 let m:=ZK l s.p (Zx s.f d x.p)
 let g:=if Xg l s.g m.1 then s.g+1 else s.g
 if vOk m.1 then⟨s.t,m.1,m.2,d,g,g == (l.gates.length:Int) && hasV l.fin m.1,false⟩ else⟨s.t,s.p,s.f,s.d,s.g,s.dn,true⟩
def Qr(l:Lev)(s:St)(x:Inp):St:=
 if s.dn || s.ov then s else if x.z then⟨s.t+1,s.p,s.f,s.d,s.g,s.dn,s.ov⟩ else QR l ⟨s.t+1,s.p,s.f,s.d,s.g,s.dn,s.ov⟩ x
def Qg(l:Lev)(ins:List Inp)(n:Nat):St:=(ins.take n).foldl (Qr l) (st0 l)
theorem QdT(l:Lev)(ins:List Inp):Qg l ins 0=st0 l:=rfl
theorem Qbd{l:Lev}{ins:List Inp}{k:Nat}{x:Inp}(hx:ins[k]? =some x):Qg l ins (k+1)=Qr l (Qg l ins k) x:=by
 unfold Qg
 rw[List.take_add_one,hx,List.foldl_append];rfl
def Jf(h n:Int):Int:=(8191*h+n % 1000003+1) % 1000003
def ZU(h:Int)(l:List Int):Int:=l.foldl Jf h
def Qeo(s:St):Int:=(if s.dn then 1 else 0)+(if s.ov then 2 else 0)
def XE(s:St):Int:=ZU 17 [s.t,s.p.x,s.p.y,s.f.x,s.f.y,s.d,s.g,Qeo s]
theorem Qf8(h n:Int):0≤Jf h n∧Jf h n≤1000002:=by unfold Jf;omega
theorem QiB{h:Int}{l:List Int}{k:Nat}{x:Int}(hx:l[k]? =some x):ZU h (l.take (k+1))=Jf (ZU h (l.take k)) x:=by
 unfold ZU
 rw[List.take_add_one,hx,List.foldl_append];rfl
theorem Qb9{h:Int}(h0:0≤h∧h≤1000002): ∀(l:List Int),0≤ZU h l∧ZU h l≤1000002
 |[]=>h0
 |x :: l=>Qb9 (Qf8 h x) l
def Xs(l:Lev)(ins:List Inp)(k:Nat):List Int:=(List.range k).map fun i=>XE (Qg l ins (5*(i+1)))
def Qq(l:Lev)(ins:List Inp):List Int:=if QA l ins then Xs l ins (ins.length/5) else []
theorem QiE(l:Lev)(ins:List Inp)(k:Nat):Xs l ins (k+1)=Xs l ins k++ [XE (Qg l ins (5*(k+1)))]:=by
 unfold Xs;rw[List.range_succ,List.map_append];rfl
theorem Qca(l:Lev)(ins:List Inp)(k:Nat):(Xs l ins k).length=k:=by simp[Xs]
end Go.Proofs.YtgaimkihacljdaaGreat
/- A law's arguments opened: levels. (Round B) -/
namespace Go.Proofs.YtgaimkihacljdaaGreat
open Go.ChangeShapes Go.WideShapes Go.ChangeAt Go.RowKit Go.Joins Go.Deep
section
variable {H : Type} {enc : TypeId × Value → H} {w : World} {base : Nat} {spare : Nat → Bool} {held : Bool} {fuel : Nat} {cs : List Value} {y : DataW H × List MemPlace}
theorem Qlv{P:Program}{e:TypeId}{fs:Array Field}(he:P.underlying e=some (.struct fs))(h:DataW.trod enc P w base spare held fuel e cs=some y):
 ∃n,cs.length=P.cellsOf e∧∀(j:Nat) (f:Field),fs[j]? =some f→∃z,DataW.trod enc P w base spare held n f.type ((cs.drop f.offset).take (P.cellsOf f.type))=some z:=by
 obtain⟨xs,n,_,_,hlen,hxl,hf⟩:=DataW.trod_struct he h
 refine⟨n,hlen,fun j f hj=>?_⟩
 have hjl:j<fs.size:=(Array.getElem?_eq_some_iff.1 hj).1
 exact⟨xs[j]'(by omega),(hf j f hj).trans (List.getElem?_eq_getElem (by omega))⟩
theorem QfO(h:DataW.trod enc Tryz.prog w base spare held fuel 23 cs=some y): ∃v:V2,cs=Zr v:=by
 obtain⟨n,hl,hf⟩:=Qej Tryz.underlying23 (by kernel_rfl) (by kernel_rfl) h
 obtain⟨v0,z0,e0,h0⟩:=hf 0 _ rfl
 obtain⟨v1,z1,e1,h1⟩:=hf 1 _ rfl
 obtain⟨a,ha,_,_⟩:=DataW.trod_int Tryz.underlying3 h0
 obtain⟨b,hb,_,_⟩:=DataW.trod_int Tryz.underlying3 h1
 simp only[List.cons.injEq,and_true] at ha hb
 subst ha hb
 match cs,hl with
 |[c0,c1],_=>
  simp only[List.getElem?_cons_zero,List.getElem?_cons_succ,Option.some.injEq] at e0 e1
  subst e0 e1
  exact⟨⟨a,b⟩,rfl⟩
theorem QfB: Tryz.prog.cellsOf 23=2:=by kernel_rfl
theorem QhH: Tryz.prog.cellsOf 26=4:=by kernel_rfl
theorem Qnb: Tryz.prog.cellsOf 28=11:=by kernel_rfl
theorem QfA: Tryz.prog.cellsOf 3=1:=by kernel_rfl
theorem QhI: Tryz.prog.cellsOf 24=1:=by kernel_rfl
theorem Qh0(h:DataW.trod enc Tryz.prog w base spare held fuel 26 cs=some y): ∃b:Bx,cs=Qc b:=by
 obtain⟨n,hl,hf⟩:=Qlv Tryz.underlying26 h
 rw[QhH] at hl
 obtain⟨z0,h0⟩:=hf 0 _ rfl
 obtain⟨z1,h1⟩:=hf 1 _ rfl
 have g0:DataW.trod enc Tryz.prog w base spare held n 23 ((cs.drop 0).take (Tryz.prog.cellsOf 23))=some z0:=h0
 rw[QfB] at g0
 have g1:DataW.trod enc Tryz.prog w base spare held n 23 ((cs.drop 2).take (Tryz.prog.cellsOf 23))=some z1:=h1
 rw[QfB] at g1
 clear h0 h1 hf h
 match cs,hl with
 |[c0,c1,c2,c3],_=>
  simp only[List.drop_zero,List.drop_succ_cons,List.take_succ_cons,List.take_zero] at g0 g1
  obtain⟨u,hu⟩:=QfO g0
  obtain⟨v,hv⟩:=QfO g1
  simp only[Zr,List.cons.injEq,and_true] at hu hv
  obtain⟨rfl,rfl⟩:=hu
  obtain⟨rfl,rfl⟩:=hv
  exact⟨⟨u,v⟩,rfl⟩
set_option maxRecDepth 100000 in
theorem QjW{A:Option Addr}{n c:Nat}{d:DataW H}{ps:List MemPlace}(h:DataW.Trod enc Tryz.prog w base spare held 24 (.slice A n c) d ps):
 ∃l:List Bx,Sl w 4 Qc A n l∧(∀x∈l,True)∧(n≤c∧c≤9223372036854775807):=
 QdP (good:=fun _=>True) Tryz.underlying24 (by kernel_rfl) (by omega) Qv (fun _ _ _ hy=>by obtain⟨b,hb⟩:=Qh0 hy;exact⟨b,hb,trivial⟩) h
set_option maxRecDepth 100000 in
theorem Qct{r:Reach}{b0:Nat}{v:Value}{d:DataW H}{ps:List MemPlace}(hv:Value.okWide Tryz.prog w r b0 28 v)(h:DataW.Trod enc Tryz.prog w base spare held 28 v d ps):
 ∃(l:Lev) (A A':Option Addr) (c c':Nat),v= .agg #[.int .i64 l.id,.int .i64 l.ticks,.int .i64 l.start.x,.int .i64 l.start.y,.slice A l.walls.length c,.slice A' l.gates.length c',.int .i64 l.fin.lo.x,.int .i64 l.fin.lo.y,.int .i64 l.fin.hi.x,.int .i64 l.fin.hi.y,.int .i64 l.bans]∧Sl w 4 Qc A l.walls.length l.walls∧Sl w 4 Qc A' l.gates.length l.gates∧l.walls.length≤9223372036854775807∧l.gates.length≤9223372036854775807:=by
 obtain⟨cs,rfl,hsz⟩:=okWide_struct Tryz.underlying28 hv
 obtain⟨l⟩:=cs
 obtain⟨fuel,hf0⟩:=h
 obtain⟨n,hl,hf⟩:=Qlv Tryz.underlying28 hf0
 rw[Qnb] at hl
 have hl':l.length=11:=by simpa [Value.cells] using hl
 obtain⟨z0,h0⟩:=hf 0 _ rfl
 obtain⟨z1,h1⟩:=hf 1 _ rfl
 obtain⟨z2,h2⟩:=hf 2 _ rfl
 obtain⟨z3,h3⟩:=hf 3 _ rfl
 obtain⟨z4,h4⟩:=hf 4 _ rfl
 obtain⟨z5,h5⟩:=hf 5 _ rfl
 obtain⟨z6,h6⟩:=hf 6 _ rfl
 have g0:DataW.trod enc Tryz.prog w base spare held n 3 ((l.drop 0).take (Tryz.prog.cellsOf 3))=some z0:=h0
 rw[QfA] at g0
 have g1:DataW.trod enc Tryz.prog w base spare held n 3 ((l.drop 1).take (Tryz.prog.cellsOf 3))=some z1:=h1
 rw[QfA] at g1
 have g2:DataW.trod enc Tryz.prog w base spare held n 23 ((l.drop 2).take (Tryz.prog.cellsOf 23))=some z2:=h2
 rw[QfB] at g2
 have g3:DataW.trod enc Tryz.prog w base spare held n 24 ((l.drop 4).take (Tryz.prog.cellsOf 24))=some z3:=h3
 rw[QhI] at g3
 have g4:DataW.trod enc Tryz.prog w base spare held n 24 ((l.drop 5).take (Tryz.prog.cellsOf 24))=some z4:=h4
 rw[QhI] at g4
 have g5:DataW.trod enc Tryz.prog w base spare held n 26 ((l.drop 6).take (Tryz.prog.cellsOf 26))=some z5:=h5
 rw[QhH] at g5
 have g6:DataW.trod enc Tryz.prog w base spare held n 3 ((l.drop 10).take (Tryz.prog.cellsOf 3))=some z6:=h6
 rw[QfA] at g6
 clear h0 h1 h2 h3 h4 h5 h6 hf hf0
 match l,hl' with
 |[c0,c1,c2,c3,c4,c5,c6,c7,c8,c9,c10],_=>
  simp only[List.drop_zero,List.drop_succ_cons,List.take_succ_cons,List.take_zero] at g0 g1 g2 g3 g4 g5 g6
  obtain⟨a0,i0,_,_⟩:=DataW.trod_int Tryz.underlying3 g0
  obtain⟨a1,i1,_,_⟩:=DataW.trod_int Tryz.underlying3 g1
  obtain⟨u2,i2⟩:=QfO g2
  obtain⟨A,n3,c,i3,t3⟩:=Qfg Tryz.underlying24 g3
  obtain⟨A',n4,c',i4,t4⟩:=Qfg Tryz.underlying24 g4
  obtain⟨b5,i5⟩:=Qh0 g5
  obtain⟨a6,i6,_,_⟩:=DataW.trod_int Tryz.underlying3 g6
  simp only[Zr,Qc,List.cons.injEq,and_true] at i0 i1 i2 i5 i6
  subst i0 i1 i3 i4 i6
  obtain⟨rfl,rfl⟩:=i2
  obtain⟨rfl,rfl,rfl,rfl⟩:=i5
  obtain⟨ws,s3,_,m3⟩:=QjW t3
  obtain⟨gs,s4,_,m4⟩:=QjW t4
  obtain rfl:=s3.len
  obtain rfl:=s4.len
  exact⟨⟨a0,a1,u2,ws,gs,b5,a6⟩,A,A',c,c',rfl,s3,s4,Nat.le_trans m3.1 m3.2,Nat.le_trans m4.1 m4.2⟩
end
end Go.Proofs.YtgaimkihacljdaaGreat
/- Plain laws of the engine: how fast the car can be, and that a tick keeps a state valid. No program is named here. -/
namespace Go.Proofs.YtgaimkihacljdaaGreat
open Go.RowKit
theorem QbN{a c:Int}(h:a.natAbs≤c.natAbs):a*a≤c*c:=by
 have h1:=Nat.mul_le_mul h h
 rw[←Int.natAbs_mul_self (a:=a),←Int.natAbs_mul_self (a:=c)]
 exact_mod_cast h1
theorem Qbe(a:Int):0≤a*a:=by
 rw[←Int.natAbs_mul_self (a:=a)]
 exact Int.natCast_nonneg _
theorem Qfd(a b:Int):(a.tdiv b).natAbs≤a.natAbs:=by
 rw[Int.natAbs_tdiv]
 exact Nat.div_le_self _ _
theorem QeP{a k:Int}(h0:0≤k)(h1:k≤1000):(mul1 a k).natAbs≤a.natAbs:=by
 unfold mul1
 rw[Int.natAbs_tdiv,Int.natAbs_mul]
 refine Nat.div_le_of_le_mul ?_
 have h2:k.natAbs≤1000:=by omega
 have h3:=Nat.mul_le_mul_left a.natAbs h2
 have h4:(1000:Int).natAbs=1000:=rfl
 rw[h4,Nat.mul_comm 1000]
 exact h3
theorem QjL(a:Int):(a.natAbs:Int)*(a.natAbs:Int)=a*a:=by
 rw[←Int.natAbs_mul_self (a:=a)]
 exact_mod_cast rfl
theorem mmmm(a b c d:Int):(a*b)*(c*d)=(a*c)*(b*d):=by
 rw[Int.mul_assoc,←Int.mul_assoc b c d,Int.mul_comm b c,Int.mul_assoc c b d,←Int.mul_assoc]
theorem Qda(v:V2):0≤len2 v:=by
 have:=Qbe v.x;have:=Qbe v.y;unfold len2;omega
theorem Qjv{u v:V2}(hx:u.x.natAbs≤v.x.natAbs)(hy:u.y.natAbs≤v.y.natAbs):lenV u≤lenV v:=by
 refine Qqt (Qda u) ?_
 have:=QbN hx;have:=QbN hy;unfold len2;omega
theorem QeJ(v:V2):0≤lenV v:=(Qce (Qda v)).1
theorem Qol(v:V2):(v.x.natAbs:Int)≤lenV v∧(v.y.natAbs:Int)≤lenV v:=by
 have h1:=Qbe v.x
 have h2:=Qbe v.y
 constructor
 ·refine Qju (Qda v) ?_
  rw[QjL];unfold len2;omega
 ·refine Qju (Qda v) ?_
  rw[QjL];unfold len2;omega
def fOk(f:V2):Prop:=lenV f≤2000
theorem JN{f:V2}(h:fOk f): -2000≤f.x∧f.x≤2000∧ -2000≤f.y∧f.y≤2000:=by
 have:=Qol f
 unfold fOk at h
 omega
theorem Qdy{u v:V2}(h:fOk v)(hx:u.x.natAbs≤v.x.natAbs)(hy:u.y.natAbs≤v.y.natAbs):fOk u:=Int.le_trans (Qjv hx hy) h
theorem Qe4{v:V2}{k:Int}(h0:0≤k)(h1:k≤1000)(h:fOk v):fOk (QQ v k):=Qdy h (QeP h0 h1) (QeP h0 h1)
theorem QhN(a m n:Int):((a*m).tdiv n).natAbs*n.natAbs≤a.natAbs*m.natAbs:=by
 rw[Int.natAbs_tdiv,Int.natAbs_mul]
 exact Nat.div_mul_le_self _ _
theorem Qng(v:V2):fOk (XB v 2000):=by
 unfold XB
 split
 ·rename_i h;exact h
 ·rename_i h
  have hn:2001≤lenV v:=by omega
  obtain⟨_,_,h2⟩:=Qce (Qda v)
  have h3:len2 v<(lenV v+1)*(lenV v+1):=h2
  generalize hN:lenV v=n at*
  have hx:=QhN v.x 2000 n
  have hy:=QhN v.y 2000 n
  unfold fOk
  refine Qi7 (Qda _) (by omega) ?_
  unfold len2
  unfold len2 at h3
  simp only
  generalize ha:(v.x*2000).tdiv n=a at*
  generalize hb:(v.y*2000).tdiv n=b at*
  have e1:(a*n)*(a*n)≤(v.x*2000)*(v.x*2000):=QbN (by rw[Int.natAbs_mul,Int.natAbs_mul];exact hx)
  have e2:(b*n)*(b*n)≤(v.y*2000)*(v.y*2000):=QbN (by rw[Int.natAbs_mul,Int.natAbs_mul];exact hy)
  have e3:(a*n)*(a*n)=(a*a)*(n*n):=by rw[mmmm]
  have e4:(b*n)*(b*n)=(b*b)*(n*n):=by rw[mmmm]
  have e5:(v.x*2000)*(v.x*2000)=(v.x*v.x)*4000000:=by rw[mmmm];rfl
  have e6:(v.y*2000)*(v.y*2000)=(v.y*v.y)*4000000:=by rw[mmmm];rfl
  have e7:(n+1)*(n+1)=n*n+2*n+1:=by
   rw[Int.add_mul,Int.mul_add,Int.one_mul,Int.mul_one];omega
  rw[e3,e5] at e1
  rw[e4,e6] at e2
  rw[e7] at h3
  have e8:(a*a+b*b)*(n*n)=(a*a)*(n*n)+(b*b)*(n*n):=Int.add_mul ..
  rcases Int.lt_or_le (a*a+b*b) ((2000+1)*(2000+1)) with hlt|hge
  ·exact hlt
  ·exfalso
   have hnn:2001*n≤n*n:=Int.mul_le_mul_of_nonneg_right hn (by omega)
   have h4:4004001*(n*n)≤(a*a+b*b)*(n*n):=Int.mul_le_mul_of_nonneg_right (by omega) (Qbe n)
   omega
theorem QhS: ∀k:Fin 16, -1000≤dirT.getD k.val 0∧dirT.getD k.val 0≤1000:=by decide
theorem QfH{d:Int}(h0:0≤d)(h1:d≤15): -1000≤(dirV d).x∧(dirV d).x≤1000∧ -1000≤(dirV d).y∧(dirV d).y≤1000:=by
 have a:=QhS ⟨d.toNat,by omega⟩
 have b:=QhS ⟨((d+12) % 16).toNat,by omega⟩
 exact⟨a.1,a.2,b.1,b.2⟩
theorem Qen{f:V2}(d pw:Int)(h:fOk f):fOk (Zx f d pw):=by
 unfold Zx
 split
 ·exact Qng _
 ·split
  ·exact Qe4 (by omega) (by omega) h
  ·exact Qe4 (by omega) (by omega) h
theorem QiA(a:Int):(-(a.tdiv 2)).natAbs≤a.natAbs:=by
 have:=Qfd a 2
 omega
theorem QjH{l:Lev}{p f:V2}(h:fOk f):fOk (Zz l p f).2:=by
 unfold Zz
 split
 ·exact h
 ·exact Qdy h (QiA _) (Nat.le_refl _)
theorem Qs5{l:Lev}{p f:V2}(h:fOk f):fOk (ZY l p f).2:=by
 unfold ZY
 split
 ·exact h
 ·exact Qdy h (Nat.le_refl _) (QiA _)
theorem Qs0{l:Lev}{p f:V2}(h:fOk f):fOk (ZK l p f).2:=Qs5 (QjH h)
structure sOk(l:Lev)(s:St):Prop where
 p:vOk s.p=true
 f:fOk s.f
 d0:0≤s.d
 d1:s.d≤15
 g0:0≤s.g
 g1:s.g≤l.gates.length
 ex:(s.dn && s.ov)=false
 dg:s.dn=true→s.g=l.gates.length
theorem Qpc:fOk ⟨0,0⟩:=Qi7 (by simp[len2]) (by omega) (by simp[len2])
theorem Qt4{l:Lev}(h:vOk l.start=true):sOk l (st0 l):=
 ⟨h,Qpc,by simp[st0],by simp[st0],by simp[st0],by simp[st0],rfl,by intro h;cases h⟩
theorem QlQ(d s:Int):0≤Qaz d s∧Qaz d s≤15:=by unfold Qaz;omega
theorem QpI{l:Lev}{g:Int}{p:V2}(h:Xg l g p=true):g+1≤l.gates.length:=by
 unfold Xg at h
 split at h
 ·rename_i b hb
  have:=(List.getElem?_eq_some_iff.1 hb).1
  simp at h
  omega
 ·cases h
theorem QoG{l:Lev}{s:St}(x:Inp)(h:sOk l s)(h1:s.dn=false):sOk l (QR l s x):=by
 unfold QR
 simp only
 split
 ·rename_i hv
  have ht:=QlQ s.d x.s
  refine⟨hv,Qs0 (Qen _ _ h.f),ht.1,ht.2,?_,?_,by simp,?_⟩
  ·have:=h.g0;simp only;split<;>omega
  ·have:=h.g1
   simp only
   split
   ·rename_i hg;exact QpI hg
   ·exact this
  ·intro hd
   simp only[Bool.and_eq_true,beq_iff_eq] at hd
   exact hd.1
 ·exact⟨h.p,h.f,h.d0,h.d1,h.g0,h.g1,by simp[h1],by simp[h1]⟩
theorem Qlt{l:Lev}{s:St}(x:Inp)(h:sOk l s):sOk l (Qr l s x):=by
 unfold Qr
 split
 ·exact h
 ·rename_i hd
  split
  ·exact⟨h.p,h.f,h.d0,h.d1,h.g0,h.g1,h.ex,h.dg⟩
  ·refine QoG x ⟨h.p,h.f,h.d0,h.d1,h.g0,h.g1,h.ex,h.dg⟩ ?_
   cases hdn:s.dn with
   |false=>rfl
   |true=>rw[hdn] at hd;simp at hd
theorem Qil{l:Lev}: ∀(ins:List Inp) (s:St),sOk l s→sOk l (ins.foldl (Qr l) s)
 |[],_,h=>h
 |x :: ins,_,h=>Qil ins _ (Qlt x h)
theorem Qav{l:Lev}(ins:List Inp)(n:Nat)(h:vOk l.start=true):sOk l (Qg l ins n):=Qil _ _ (Qt4 h)
theorem Qg8(l:Lev)(s:St)(x:Inp):(s.dn=true∨s.ov=true)∧Qr l s x=s∨s.dn=false∧s.ov=false∧(Qr l s x).t=s.t+1:=by
 unfold Qr
 cases hd:s.dn<;>cases ho:s.ov<;>simp
 split
 ·simp
 ·unfold QR
  simp only
  split<;>rfl
theorem Qaa(l:Lev)(ins:List Inp): ∀n:Nat,n≤ins.length→0≤(Qg l ins n).t∧((Qg l ins n).t=n∨(Qg l ins n).t<n∧((Qg l ins n).dn=true∨(Qg l ins n).ov=true))
 |0,_=>by simp[QdT,st0]
 |n+1,h=>by
  obtain⟨h1,h2⟩:=Qaa l ins n (by omega)
  have hx:ins[n]? =some (ins[n]'(by omega)):=List.getElem?_eq_getElem _
  rw[Qbd hx]
  rcases Qg8 l (Qg l ins n) (ins[n]'(by omega)) with⟨ha,hb⟩|⟨ha,hb,hc⟩
  ·rw[hb]
   exact⟨h1,.inr ⟨by omega,ha⟩⟩
  ·rw[hc]
   rw[ha,hb] at h2
   simp only[Bool.false_eq_true,or_self,and_false,or_false] at h2
   exact⟨by omega,.inl (by omega)⟩
theorem XP{l:Lev}:QE l=true↔(0≤l.id∧l.id≤99)∧(1≤l.ticks∧l.ticks≤60)∧vOk l.start=true∧l.walls.length≤4∧(∀b∈l.walls,bxOk b=true)∧l.gates.length≤3∧(∀b∈l.gates,bxOk b=true)∧bxOk l.fin=true∧(0≤l.bans∧l.bans≤3)∧QY l l.start=true:=by
 simp[QE,XZ,Q5,and_assoc]
theorem Qm6{b:Bx}(h:bxOk b=true):(-1000000≤b.lo.x∧b.lo.x≤b.hi.x∧b.hi.x≤1000000)∧(-1000000≤b.lo.y∧b.lo.y≤b.hi.y∧b.hi.y≤1000000):=by
 simp only[bxOk,Bool.and_eq_true,ZO,decide_eq_true_eq] at h
 omega
end Go.Proofs.YtgaimkihacljdaaGreat
