/- Lemmas: PhL PhC PhD PhE PhF PhG PhH PhI SimZ SimZB PhJ. -/
import Derived.Test.YtpmjcjoeckajgaaGreatDoorChecked
import Derived.Conc.FxGenDone
import Derived.Conc.FxGenWait
import Derived.Conc.FxGenLone
import Derived.Conc.BesideWords
import Derived.Conc.CompanyMem
import Derived.Laws.MakeOwn
import Derived.Conc.CompanyWords
import Derived.Conc.FxBegin
import Derived.Conc.Beside
/- The numbers that package sync's functions and types bear here; the payload. (Round C) -/
namespace Go.Proofs
abbrev Tryz.link:Go.Conc.Lib.WgLink:={ add:=138,done:=140,wait:=141,relMerge:=153,disable:=154,enable:=155,inBubble:=156,associate:=157,fatal:=158,uOr:=159,uAdd:=160,raceRead:=161,uLoad:=162,uStore:=163,disassociate:=164,semrelease:=165,acquire:=166,isAssociated:=167,uCas:=168,raceWrite:=169,semacquire:=170,orU64:=179,addU64:=180,loadU64:=181,storeU64:=182,casU64:=183,tWgP:=208,tUP:=210,tAssoc:=211,tWg:=194,tAU:=191,tU64:=189,tUint:=215,tU32:=192,tPU32:=216,tPAU:=231,tPU64:=233,tNoCopy:=186,tANoCopy:=187,tAlign64:=188}
theorem Tryz.wgLib:Go.Conc.Lib.WgLib Tryz.prog Tryz.link:=
 ⟨Tryz.func138, Tryz.func140, Tryz.func141, Tryz.func153, Tryz.func154, Tryz.func155, Tryz.func156, Tryz.func157, Tryz.func158, Tryz.func159, Tryz.func160, Tryz.func161, Tryz.func162, Tryz.func163, Tryz.func164, Tryz.func165, Tryz.func166, Tryz.func167, Tryz.func168, Tryz.func169, Tryz.func170, Tryz.func179, Tryz.func180, Tryz.func181, Tryz.func182, Tryz.func183, Tryz.underlying208, Tryz.runUnderlying208, Tryz.sizeOf208, Tryz.isAgg208, Tryz.zeroValue208, Tryz.underlying210, Tryz.runUnderlying210, Tryz.sizeOf210, Tryz.isAgg210, Tryz.zeroValue210, Tryz.underlying211, Tryz.runUnderlying211, Tryz.sizeOf211, Tryz.isAgg211, Tryz.zeroValue211, Tryz.underlying194, Tryz.runUnderlying194, Tryz.sizeOf194, Tryz.isAgg194, Tryz.zeroValue194, Tryz.underlying191, Tryz.runUnderlying191, Tryz.sizeOf191, Tryz.isAgg191, Tryz.zeroValue191, Tryz.underlying189, Tryz.runUnderlying189, Tryz.sizeOf189, Tryz.isAgg189, Tryz.zeroValue189, Tryz.underlying215, Tryz.runUnderlying215, Tryz.sizeOf215, Tryz.isAgg215, Tryz.zeroValue215, Tryz.underlying192, Tryz.runUnderlying192, Tryz.sizeOf192, Tryz.isAgg192, Tryz.zeroValue192, Tryz.underlying216, Tryz.runUnderlying216, Tryz.sizeOf216, Tryz.isAgg216, Tryz.zeroValue216, Tryz.underlying231, Tryz.runUnderlying231, Tryz.sizeOf231, Tryz.isAgg231, Tryz.zeroValue231, Tryz.underlying233, Tryz.runUnderlying233, Tryz.sizeOf233, Tryz.isAgg233, Tryz.zeroValue233, Tryz.underlying0, Tryz.runUnderlying0, Tryz.sizeOf0, Tryz.isAgg0, Tryz.zeroValue0, Tryz.underlying3, Tryz.runUnderlying3, Tryz.sizeOf3, Tryz.isAgg3, Tryz.zeroValue3, Tryz.underlying4, Tryz.runUnderlying4, Tryz.sizeOf4, Tryz.isAgg4, Tryz.zeroValue4, Tryz.underlying9, Tryz.runUnderlying9, Tryz.sizeOf9, Tryz.isAgg9, Tryz.zeroValue9, Tryz.underlying20, Tryz.runUnderlying20, Tryz.sizeOf20, Tryz.isAgg20, Tryz.zeroValue20, Tryz.underlying21, Tryz.runUnderlying21, Tryz.sizeOf21, Tryz.isAgg21, Tryz.zeroValue21,(by kernel_rfl),(by kernel_rfl)⟩
end Go.Proofs
namespace Go.Proofs.YtpmjcjoeckajgaaGreatDoor
open Go.Conc Go.ConcX Go.RowKit Go.Conc.Lib Go.ConcX.Gen
instance:Payload:=⟨4⟩
class ShyD (N:Nat) (A B:Option Addr) [Shy (N+4) (N+2)]:Prop where
 own: ∀(a:Addr) (wr:Bool),N≤a.block→a.block<N+7→a.block≠N+4→Shy.ok (N+4) (N+2) (.access ⟨.cell a,wr,false⟩)
end Go.Proofs.YtpmjcjoeckajgaaGreatDoor
/- What the worker of one call of impl.differences knows of the world; its writes. (Round C) -/
namespace Go.Proofs.YtpmjcjoeckajgaaGreatDoor
set_option linter.unusedSectionVars false
open Go.Conc Go.ConcX Go.RowKit Go.Conc.Lib Go.ConcX.Gen
def bW:Frame:=baseD 139
noncomputable def botW:Frame:={ (default:Frame) with fn:= Tryz.prog.funcs.size,defers:=[],mode:= .panicking [goexitEntry]}
noncomputable def bodyW:Code:= Tryz.f139.body.getD .skip
noncomputable def LW:Code:=match bodyW with| .seq _ (.seq _ (.block _ (.loop c)))=>c|_=> .skip
def Mine(N:Nat):Loc→Prop:=fun l=>∃a,l= .cell a∧N+6≤a.block
def QcQ(N:Nat):Deferred:={ target:= .fn (.func 139) #[.pointer (some ⟨N+4,0,none⟩),.pointer (some ⟨N+5,0,none⟩),.pointer (some ⟨N+3,0,none⟩),.pointer (some ⟨N,0,none⟩),.pointer (some ⟨N+1,0,none⟩)],args:=#[]}
structure Job(N:Nat)(A:Option Addr)(la:Nat)(B:Option Addr)(lb n:Nat)(arr:Array Value)(xs ys:Nat→Int) [Shy (N+4) (N+2)]:Prop where
 size:arr.size=n
 max:n=max la lb
 le:n≤64
 a: ∀i,i<la→i<lb→∃ad,A=some ad∧ad.block<N
 b: ∀i,i<la→i<lb→∃ad,B=some ad∧ad.block<N
 okA: ∀i ad,i<la→i<lb→A=some ad→Shy.ok (N+4) (N+2) (.access ⟨.cell (ad.add i),false,false⟩)
 okB: ∀i ad,i<la→i<lb→B=some ad→Shy.ok (N+4) (N+2) (.access ⟨.cell (ad.add i),false,false⟩)
 v: ∀i,i<n→arr[i]? =some (.bool (decide (la≤i) || decide (lb≤i) || (xs i != ys i)))
structure CK(N:Nat)(A:Option Addr)(la ca:Nat)(B:Option Addr)(lb cb n:Nat)(arr:Array Value)(xs ys:Nat→Int)(j:Nat)(w:World):Prop where
 xa:w.cell? ⟨N,0,none⟩=some (.slice A la ca)
 xb:w.cell? ⟨N+1,0,none⟩=some (.slice B lb cb)
 out:w.cell? ⟨N+3,0,none⟩=some (.slice (some ⟨N+2,0,none⟩) n n)
 frm:w.cell? ⟨N+5,0,none⟩=some (.int .i64 0)
 ea: ∀i ad,i<la→i<lb→A=some ad→w.cell? (ad.add i)=some (.int .i64 (xs i))
 eb: ∀i ad,i<la→i<lb→B=some ad→w.cell? (ad.add i)=some (.int .i64 (ys i))
 k:KCa 194 (N+4) w
 fill: ∃arr':Array Value,w.heap[N+2]? =some (.cells arr' 4)∧arr'.size=n∧∀i,i<j→arr'[i]? =arr[i]?
section
variable {N : Nat} {A B : Option Addr} [Shy (N + 4) (N + 2)] [ShyD N A B] {la ca lb cb n : Nat} {arr : Array Value} {xs ys : Nat → Int} {j : Nat} {w w₁ : World}
theorem CK.rely(hJ:Job N A la B lb n arr xs ys)(h:CK N A la ca B lb cb n arr xs ys j w)(r:RCa 194 (N+4) (N+6) w w₁):CK N A la ca B lb cb n arr xs ys j w₁:=by
 have hl: ∀b,b<N+6→b≠N+4→w₁.heap[b]? =w.heap[b]? :=fun b hb hb'=>r.low b (by omega) (by omega)
 obtain⟨arr',h1,h2,h3⟩:=h.fill
 refine⟨(World.cell?_of_block (hl N (by omega) (by omega))).trans h.xa,(World.cell?_of_block (hl (N+1) (by omega) (by omega))).trans h.xb,(World.cell?_of_block (hl (N+3) (by omega) (by omega))).trans h.out,(World.cell?_of_block (hl (N+5) (by omega) (by omega))).trans h.frm,
  fun i ad h1 h2 ha=>?_,fun i ad h1 h2 ha=>?_,r.k h.k,arr',(hl (N+2) (by omega) (by omega)).trans h1,h2,h3⟩
 ·obtain⟨ad',e,hlt⟩:=hJ.a i h1 h2
  obtain rfl:=Option.some.inj (ha.symm.trans e)
  exact(World.cell?_of_block (hl (ad.add i).block (by rw[add_block];omega) (by rw[add_block];omega))).trans (h.ea i ad h1 h2 ha)
 ·obtain⟨ad',e,hlt⟩:=hJ.b i h1 h2
  obtain rfl:=Option.some.inj (ha.symm.trans e)
  exact(World.cell?_of_block (hl (ad.add i).block (by rw[add_block];omega) (by rw[add_block];omega))).trans (h.eb i ad h1 h2 ha)
theorem CK.cellAt(h:CK N A la ca B lb cb n arr xs ys j w)(hj:j<n): ∃u,w.cell? ⟨N+2,j,none⟩=some u∧w.frozen? ⟨N+2,j,none⟩=false:=by
 obtain⟨arr',h1,h2,_⟩:=h.fill
 exact⟨arr'[j]'(by omega),by simp[World.cell?,h1,h2,hj],by simp[World.frozen?,h1]⟩
theorem CK.less(h:CK N A la ca B lb cb n arr xs ys (j+1) w):CK N A la ca B lb cb n arr xs ys j w:=
 ⟨h.xa,h.xb,h.out,h.frm,h.ea,h.eb,h.k,let⟨arr',a,b,c⟩:=h.fill;⟨arr',a,b,fun i hi=>c i (by omega)⟩⟩
theorem CK.store(hJ:Job N A la B lb n arr xs ys)(h:CK N A la ca B lb cb n arr xs ys j w)(hj:j<n){v:Value}(hv:arr[j]? =some v):CK N A la ca B lb cb n arr xs ys (j+1) (w.setCell ⟨N+2,j,none⟩ v):=by
 have hA:=aside_setCell w ⟨N+2,j,none⟩ v
 obtain⟨arr',h1,h2,h3⟩:=h.fill
 refine⟨(World.cell?_of_block (hA.block N (by simp))).trans h.xa,(World.cell?_of_block (hA.block (N+1) (by simp))).trans h.xb,(World.cell?_of_block (hA.block (N+3) (by simp))).trans h.out,(World.cell?_of_block (hA.block (N+5) (by simp))).trans h.frm,
  fun i ad h1 h2 ha=>?_,fun i ad h1 h2 ha=>?_,h.k.imp (fun x=>x.of_block (hA.block _ (by simp))) (fun x=>x.of_block (hA.block _ (by simp))),arr'.setIfInBounds j v,?_,by simpa using h2,fun i hi=>?_⟩
 ·obtain⟨ad',e,hlt⟩:=hJ.a i h1 h2
  obtain rfl:=Option.some.inj (ha.symm.trans e)
  exact(World.cell?_of_block (hA.block (ad.add i).block (by rw[add_block];simp;omega))).trans (h.ea i ad h1 h2 ha)
 ·obtain⟨ad',e,hlt⟩:=hJ.b i h1 h2
  obtain rfl:=Option.some.inj (ha.symm.trans e)
  exact(World.cell?_of_block (hA.block (ad.add i).block (by rw[add_block];simp;omega))).trans (h.eb i ad h1 h2 ha)
 ·rw[setCell_eq_setRow w (N+2) j arr' 4 (0,0) _ h1,setRow_heap w (N+2) _ _ 4 _ h1]
 ·rcases Nat.lt_or_ge i j with hlt|hge
  ·rw[Array.getElem?_setIfInBounds_ne (by omega)];exact h3 i hlt
  ·obtain rfl:i=j:=by omega
   rw[Array.getElem?_setIfInBounds_self_of_lt (by omega),hv]
theorem CK.full(hJ:Job N A la B lb n arr xs ys)(h:CK N A la ca B lb cb n arr xs ys n w):Full (N+2) arr.toList w:=by
 obtain⟨arr',h1,h2,h3⟩:=h.fill
 intro _
 rw[h1]
 have:arr'=arr:=by
  apply Array.ext_getElem?
  intro i
  rcases Nat.lt_or_ge i n with hlt|hge
  ·exact h3 i hlt
  ·rw[Array.getElem?_eq_none (by omega),Array.getElem?_eq_none (by rw[hJ.size];omega)]
 rw[this]
 rfl
theorem Je(a:Addr)(s:Bool)(h:a.block<N+6)(hw:a.block≠N+4)(h':a.block≠N+2)(hk:Shy.ok (N+4) (N+2) (.access ⟨.cell a,false,s⟩)):EvQ (Mine N) (N+4) (N+2) 1 ⟨.cell a,false,s⟩:=by
 refine⟨fun fn pos=>⟨rfl,fun x hx=>?_,by rw[ofEvent_cell];simp,by rw[ofEvent_cell];exact hk⟩,by simp,by simp,by simp⟩
 simp only[ofEvent_cell,MemAct.touch?,Option.some.injEq] at hx
 subst hx
 refine⟨.inr (.inr ⟨rfl,rfl,fun⟨y,hy,hyb⟩=>?_⟩),fun hs=>?_,fun⟨y,hy,hyb,_⟩=>?_⟩
 ·cases hy;omega
 ·rcases hs with⟨y,hy,hyb⟩|hs
  ·cases hy;omega
  ·cases hs
 ·cases hy;exact absurd hyb h'
theorem Qo1(j:Nat):EvQ (Mine N) (N+4) (N+2) 1 ⟨.cell ⟨N+2,j,none⟩,true,false⟩:=
 ⟨fun fn pos=>by rw[ofEvent_cell];exact okOp_theirs rfl (show N+2≠N+4 by omega) _,by simp,by simp,by simp⟩
theorem Qt(N:Nat) [Shy (N+4) (N+2)]:Terms (RCa 194 (N+4) (N+6)) (DCs (Mine N) (N+4) (N+2)):=
 ⟨fun _ _ _ h k=>⟨fun x h1 h2=>(k.low x h1 h2).trans (h.low x h1 h2),fun z=>k.k (h.k z)⟩,fun _=>⟨Aside.refl _ _,by simp⟩⟩
end
theorem Qgr:(Tryz.prog.funcs[bW.fn]?).any (·.norace)=false:=by kernel_rfl
end Go.Proofs.YtpmjcjoeckajgaaGreatDoor
/- The worker's comparison: a region that draws its order. (Round C) -/
namespace Go.Proofs.YtpmjcjoeckajgaaGreatDoor
set_option linter.unusedSectionVars false
open Go.Conc Go.ConcX Go.RowKit Go.Conc.Lib Go.ConcX.Gen
theorem Qfr(T:Array Value)(h:T.size=40): ∃v0 v1 v2 v3 v4 v5 v6 v7 v8 v9 v10 v11 v12 v13 v14 v15 v16 v17 v18 v19 v20 v21 v22 v23 v24 v25 v26 v27 v28 v29 v30 v31 v32 v33 v34 v35 v36 v37 v38 v39:Value,T= #[v0,v1,v2,v3,v4,v5,v6,v7,v8,v9,v10,v11,v12,v13,v14,v15,v16,v17,v18,v19,v20,v21,v22,v23,v24,v25,v26,v27,v28,v29,v30,v31,v32,v33,v34,v35,v36,v37,v38,v39]:=by
 obtain⟨l⟩:=T
 simp only[List.size_toArray] at h
 rcases l with _|⟨v0,l⟩
 ·simp at h
 rcases l with _|⟨v1,l⟩
 ·simp at h
 rcases l with _|⟨v2,l⟩
 ·simp at h
 rcases l with _|⟨v3,l⟩
 ·simp at h
 rcases l with _|⟨v4,l⟩
 ·simp at h
 rcases l with _|⟨v5,l⟩
 ·simp at h
 rcases l with _|⟨v6,l⟩
 ·simp at h
 rcases l with _|⟨v7,l⟩
 ·simp at h
 rcases l with _|⟨v8,l⟩
 ·simp at h
 rcases l with _|⟨v9,l⟩
 ·simp at h
 rcases l with _|⟨v10,l⟩
 ·simp at h
 rcases l with _|⟨v11,l⟩
 ·simp at h
 rcases l with _|⟨v12,l⟩
 ·simp at h
 rcases l with _|⟨v13,l⟩
 ·simp at h
 rcases l with _|⟨v14,l⟩
 ·simp at h
 rcases l with _|⟨v15,l⟩
 ·simp at h
 rcases l with _|⟨v16,l⟩
 ·simp at h
 rcases l with _|⟨v17,l⟩
 ·simp at h
 rcases l with _|⟨v18,l⟩
 ·simp at h
 rcases l with _|⟨v19,l⟩
 ·simp at h
 rcases l with _|⟨v20,l⟩
 ·simp at h
 rcases l with _|⟨v21,l⟩
 ·simp at h
 rcases l with _|⟨v22,l⟩
 ·simp at h
 rcases l with _|⟨v23,l⟩
 ·simp at h
 rcases l with _|⟨v24,l⟩
 ·simp at h
 rcases l with _|⟨v25,l⟩
 ·simp at h
 rcases l with _|⟨v26,l⟩
 ·simp at h
 rcases l with _|⟨v27,l⟩
 ·simp at h
 rcases l with _|⟨v28,l⟩
 ·simp at h
 rcases l with _|⟨v29,l⟩
 ·simp at h
 rcases l with _|⟨v30,l⟩
 ·simp at h
 rcases l with _|⟨v31,l⟩
 ·simp at h
 rcases l with _|⟨v32,l⟩
 ·simp at h
 rcases l with _|⟨v33,l⟩
 ·simp at h
 rcases l with _|⟨v34,l⟩
 ·simp at h
 rcases l with _|⟨v35,l⟩
 ·simp at h
 rcases l with _|⟨v36,l⟩
 ·simp at h
 rcases l with _|⟨v37,l⟩
 ·simp at h
 rcases l with _|⟨v38,l⟩
 ·simp at h
 rcases l with _|⟨v39,l⟩
 ·simp at h
 rcases l with _|⟨x,l⟩
 ·exact⟨v0,v1,v2,v3,v4,v5,v6,v7,v8,v9,v10,v11,v12,v13,v14,v15,v16,v17,v18,v19,v20,v21,v22,v23,v24,v25,v26,v27,v28,v29,v30,v31,v32,v33,v34,v35,v36,v37,v38,v39,rfl⟩
 ·simp at h
noncomputable def R4:Code:=match LW with| .seq _ (.seq (.block _ c) _)=>c|_=> .skip
section
variable {N : Nat} {A B : Option Addr} [Shy (N + 4) (N + 2)] [ShyD N A B] {la ca lb cb n : Nat} {arr : Array Value} {xs ys : Nat → Int} {j : Nat} {w w₁ : World}
theorem QfJ:LetsDraw (DCs (Mine N) (N+4) (N+2)):=fun w=>⟨⟨rfl,rfl,rfl,rfl,fun _ _=>rfl⟩,by simp⟩
theorem QfK(w:World):RCa 194 (N+4) (N+6) w { w with drawn:=w.drawn+1}:=RCa.at w _
theorem Qg9{ops:Array Oper}{o:Oper}{a:Act}{x y:Operand}{q:Bool}{K:Act→World→Prop}(ho:ops[24]? =some o)(hop:o.op= .store 4 x y)(hg:o.guard=none)(hx:a.eval x= .pointer (some ⟨N+2,j,none⟩))(hy:a.eval y= .bool q)(hv:arr[j]? =some (.bool q))
 (hJ:Job N A la B lb n arr xs ys)(hF:CK N A la ca B lb cb n arr xs ys j w)(hj:j<n)(hK: ∀w',CK N A la ca B lb cb n arr xs ys (j+1) w'→K (a.put o.dst undef) w'):
 OpC Tryz.prog (RCa 194 (N+4) (N+6)) (DCs (Mine N) (N+4) (N+2)) 139 ops 24 K a w:=by
 unfold OpC
 rw[ho]
 dsimp only
 rw[if_pos (by unfold Region.wanted;rw[hg])]
 intro w₁ r
 replace hF:=hF.rely hJ r
 obtain⟨u,hc,hz⟩:=hF.cellAt hj
 have hr:(execOp a.eval o).run Tryz.prog w₁= .ok .skip (w₁.setCell ⟨N+2,j,none⟩ (.bool q)):=by
  unfold execOp
  simp only[hop,hx,hy]
  simp[go_sem,stored,hc,hz]
 have he:(execOp a.eval o).events Tryz.prog w₁ #[]= #[⟨.cell ⟨N+2,j,none⟩,true,false⟩]:=by
  unfold execOp
  simp only[hop,hx,hy]
  simp[go_sem]
  rw[events_store _ _ _ _ _ _ rfl]
  simp[hc,hz]
 rw[hr]
 refine⟨⟨aside_setCell _ ⟨N+2,j,none⟩ _,fun e hm=>?_⟩,hK _ (hF.store hJ hj hv)⟩
 unfold listed at hm
 change e∈seen Tryz.prog bW.fn _ at hm
 rw[he,seen_eq Qgr (by simp),Array.mem_singleton] at hm
 subst hm
 exact Qo1 j
set_option maxRecDepth 100000 in
set_option maxHeartbeats 4000000 in
theorem QtC(hJ:Job N A la B lb n arr xs ys)(hj:j<n)(hla:la≤j)(w:World)(ds:List Deferred)(v6 v7 v8 v9 v10 v11 v12 v13 v14 v15 v16 v17 v18 v19 v20 v21 v22 v23 v24 v25 v26 v27 v28 v29 v30 v31 v32 v33 v34 v35 v36 v37 v38 v39:Value)(hF:CK N A la ca B lb cb n arr xs ys j w):
 R4.wpC Tryz.prog false (RCa 194 (N+4) (N+6)) (DCs (Mine N) (N+4) (N+2)) 139 27
  (fun e a' w'=>e= .normal∧a'.defers=ds∧a'.tmps.size=40∧(∀i,i<6→a'.tmps[i]? =(#[.pointer (some ⟨N+4,0,none⟩),.pointer (some ⟨N+5,0,none⟩),.pointer (some ⟨N+3,0,none⟩),.pointer (some ⟨N,0,none⟩),.pointer (some ⟨N+1,0,none⟩),.int .i64 j,v6,v7,v8,v9,v10,v11,v12,v13,v14,v15,v16,v17,v18,v19,v20,v21,v22,v23,v24,v25,v26,v27,v28,v29,v30,v31,v32,v33,v34,v35,v36,v37,v38,v39]:Array Value)[i]?)∧CK N A la ca B lb cb n arr xs ys (j+1) w') ⟨#[.pointer (some ⟨N+4,0,none⟩),.pointer (some ⟨N+5,0,none⟩),.pointer (some ⟨N+3,0,none⟩),.pointer (some ⟨N,0,none⟩),.pointer (some ⟨N+1,0,none⟩),.int .i64 j,v6,v7,v8,v9,v10,v11,v12,v13,v14,v15,v16,v17,v18,v19,v20,v21,v22,v23,v24,v25,v26,v27,v28,v29,v30,v31,v32,v33,v34,v35,v36,v37,v38,v39],ds⟩ w:=by
 have hjn:(j:Int)<(n:Int):=by omega
 have hj0:(0:Int)≤(j:Int):=by omega
 have hge:(la:Int)≤(j:Int):=by omega
 have hv:=hJ.v j hj
 simp only[R4,LW,bodyW, Tryz.f139,Option.getD_some]
 co_held (Qt N) QfJ QfK (CK N _ la ca _ lb cb n arr xs ys j) (CK.rely hJ) hF
 (co_applyP anyCH_take (Qt N) (fun _ _ h r=>CK.rely hJ h r) (fun _ _ _ h r=>⟨h.1,h.2.1,h.2.2.1,h.2.2.2.1,CK.rely hJ h.2.2.2.2 r⟩) (i:=0) rfl (by first|kernel_rfl|decide+kernel) (by first|kernel_rfl|decide+kernel) (by first|kernel_rfl|decide+kernel) (.inl ⟨by rfl,fun _ hw=>⟨run_eq_of ?run0,?guar0⟩⟩) hF ?rest0;(case run0=>(intro K hK;(have hc:=hw.out);go_simp;exact hK));(case guar0=>((have hc:=hw.out);(refine⟨Aside.refl _ _,?_⟩;co_evs (exact Je _ _ (by simp) (by simp) (by simp) (‹ShyD _ _ _›.own _ _ (by simp) (by simp<;>omega) (by simp))))));try walk_nrm)
 (co_applyP anyCH_take (Qt N) (fun _ _ h r=>CK.rely hJ h r) (fun _ _ _ h r=>⟨h.1,h.2.1,h.2.2.1,h.2.2.2.1,CK.rely hJ h.2.2.2.2 r⟩) (i:=1) rfl (by first|kernel_rfl|decide+kernel) (by first|kernel_rfl|decide+kernel) (by first|kernel_rfl|decide+kernel) (.inl ⟨by rfl,fun _ hw=>⟨run_eq_of ?run1,?guar1⟩⟩) hF ?rest1;(case run1=>(intro K hK;(skip);go_simp;exact hK));(case guar1=>((skip);(co_quiet (Qt N))));try walk_nrm)
 (co_applyP anyCH_take (Qt N) (fun _ _ h r=>CK.rely hJ h r) (fun _ _ _ h r=>⟨h.1,h.2.1,h.2.2.1,h.2.2.2.1,CK.rely hJ h.2.2.2.2 r⟩) (i:=2) rfl (by first|kernel_rfl|decide+kernel) (by first|kernel_rfl|decide+kernel) (by first|kernel_rfl|decide+kernel) (.inl ⟨by rfl,fun _ hw=>⟨run_eq_of ?run2,?guar2⟩⟩) hF ?rest2;(case run2=>(intro K hK;(skip);go_simp;exact hK));(case guar2=>((skip);(co_quiet (Qt N))));try walk_nrm)
 (co_applyP anyCH_take (Qt N) (fun _ _ h r=>CK.rely hJ h r) (fun _ _ _ h r=>⟨h.1,h.2.1,h.2.2.1,h.2.2.2.1,CK.rely hJ h.2.2.2.2 r⟩) (i:=3) rfl (by first|kernel_rfl|decide+kernel) (by first|kernel_rfl|decide+kernel) (by first|kernel_rfl|decide+kernel) (.inl ⟨by rfl,fun _ hw=>⟨run_eq_of ?run3,?guar3⟩⟩) hF ?rest3;(case run3=>(intro K hK;(have hc:=hw.xa);go_simp;exact hK));(case guar3=>((have hc:=hw.xa);(refine⟨Aside.refl _ _,?_⟩;co_evs (exact Je _ _ (by simp) (by simp) (by simp) (‹ShyD _ _ _›.own _ _ (by simp) (by simp<;>omega) (by simp))))));try walk_nrm)
 (co_applyP anyCH_take (Qt N) (fun _ _ h r=>CK.rely hJ h r) (fun _ _ _ h r=>⟨h.1,h.2.1,h.2.2.1,h.2.2.2.1,CK.rely hJ h.2.2.2.2 r⟩) (i:=4) rfl (by first|kernel_rfl|decide+kernel) (by first|kernel_rfl|decide+kernel) (by first|kernel_rfl|decide+kernel) (.inl ⟨by rfl,fun _ hw=>⟨run_eq_of ?run4,?guar4⟩⟩) hF ?rest4;(case run4=>(intro K hK;(skip);go_simp;exact hK));(case guar4=>((skip);(co_quiet (Qt N))));try walk_nrm)
 (co_applyP anyCH_take (Qt N) (fun _ _ h r=>CK.rely hJ h r) (fun _ _ _ h r=>⟨h.1,h.2.1,h.2.2.1,h.2.2.2.1,CK.rely hJ h.2.2.2.2 r⟩) (i:=5) rfl (by first|kernel_rfl|decide+kernel) (by first|kernel_rfl|decide+kernel) (by first|kernel_rfl|decide+kernel) (.inl ⟨by rfl,fun _ hw=>⟨run_eq_of ?run5,?guar5⟩⟩) hF ?rest5;(case run5=>(intro K hK;(skip);go_simp;exact hK));(case guar5=>((skip);(co_quiet (Qt N))));try walk_nrm)
 (co_applyP anyCH_take (Qt N) (fun _ _ h r=>CK.rely hJ h r) (fun _ _ _ h r=>⟨h.1,h.2.1,h.2.2.1,h.2.2.2.1,CK.rely hJ h.2.2.2.2 r⟩) (i:=6) rfl (by first|kernel_rfl|decide+kernel) (by first|kernel_rfl|decide+kernel) (by first|kernel_rfl|decide+kernel) (.inl ⟨by rfl,fun _ hw=>⟨run_eq_of ?run6,?guar6⟩⟩) hF ?rest6;(case run6=>(intro K hK;(skip);go_simp;exact hK));(case guar6=>((skip);(co_quiet (Qt N))));try walk_nrm)
 (co_applyP anyCH_take (Qt N) (fun _ _ h r=>CK.rely hJ h r) (fun _ _ _ h r=>⟨h.1,h.2.1,h.2.2.1,h.2.2.2.1,CK.rely hJ h.2.2.2.2 r⟩) (i:=7) rfl (by first|kernel_rfl|decide+kernel) (by first|kernel_rfl|decide+kernel) (by first|kernel_rfl|decide+kernel) (.inr ⟨by rfl,rfl⟩) hF ?rest7;try walk_nrm)
 (co_applyP anyCH_take (Qt N) (fun _ _ h r=>CK.rely hJ h r) (fun _ _ _ h r=>⟨h.1,h.2.1,h.2.2.1,h.2.2.2.1,CK.rely hJ h.2.2.2.2 r⟩) (i:=8) rfl (by first|kernel_rfl|decide+kernel) (by first|kernel_rfl|decide+kernel) (by first|kernel_rfl|decide+kernel) (.inr ⟨by rfl,rfl⟩) hF ?rest8;try walk_nrm)
 (co_applyP anyCH_take (Qt N) (fun _ _ h r=>CK.rely hJ h r) (fun _ _ _ h r=>⟨h.1,h.2.1,h.2.2.1,h.2.2.2.1,CK.rely hJ h.2.2.2.2 r⟩) (i:=9) rfl (by first|kernel_rfl|decide+kernel) (by first|kernel_rfl|decide+kernel) (by first|kernel_rfl|decide+kernel) (.inr ⟨by rfl,rfl⟩) hF ?rest9;try walk_nrm)
 (co_applyP anyCH_take (Qt N) (fun _ _ h r=>CK.rely hJ h r) (fun _ _ _ h r=>⟨h.1,h.2.1,h.2.2.1,h.2.2.2.1,CK.rely hJ h.2.2.2.2 r⟩) (i:=10) rfl (by first|kernel_rfl|decide+kernel) (by first|kernel_rfl|decide+kernel) (by first|kernel_rfl|decide+kernel) (.inr ⟨by rfl,rfl⟩) hF ?rest10;try walk_nrm)
 (co_applyP anyCH_take (Qt N) (fun _ _ h r=>CK.rely hJ h r) (fun _ _ _ h r=>⟨h.1,h.2.1,h.2.2.1,h.2.2.2.1,CK.rely hJ h.2.2.2.2 r⟩) (i:=11) rfl (by first|kernel_rfl|decide+kernel) (by first|kernel_rfl|decide+kernel) (by first|kernel_rfl|decide+kernel) (.inl ⟨by rfl,fun _ hw=>⟨run_eq_of ?run11,?guar11⟩⟩) hF ?rest11;(case run11=>(intro K hK;(skip);go_simp;exact hK));(case guar11=>((skip);(co_quiet (Qt N))));try walk_nrm)
 (co_applyP anyCH_take (Qt N) (fun _ _ h r=>CK.rely hJ h r) (fun _ _ _ h r=>⟨h.1,h.2.1,h.2.2.1,h.2.2.2.1,CK.rely hJ h.2.2.2.2 r⟩) (i:=12) rfl (by first|kernel_rfl|decide+kernel) (by first|kernel_rfl|decide+kernel) (by first|kernel_rfl|decide+kernel) (.inl ⟨by rfl,fun _ hw=>⟨run_eq_of ?run12,?guar12⟩⟩) hF ?rest12;(case run12=>(intro K hK;(skip);go_simp;exact hK));(case guar12=>((skip);(co_quiet (Qt N))));try walk_nrm)
 (co_applyP anyCH_take (Qt N) (fun _ _ h r=>CK.rely hJ h r) (fun _ _ _ h r=>⟨h.1,h.2.1,h.2.2.1,h.2.2.2.1,CK.rely hJ h.2.2.2.2 r⟩) (i:=13) rfl (by first|kernel_rfl|decide+kernel) (by first|kernel_rfl|decide+kernel) (by first|kernel_rfl|decide+kernel) (.inr ⟨by rfl,rfl⟩) hF ?rest13;try walk_nrm)
 (co_applyP anyCH_take (Qt N) (fun _ _ h r=>CK.rely hJ h r) (fun _ _ _ h r=>⟨h.1,h.2.1,h.2.2.1,h.2.2.2.1,CK.rely hJ h.2.2.2.2 r⟩) (i:=14) rfl (by first|kernel_rfl|decide+kernel) (by first|kernel_rfl|decide+kernel) (by first|kernel_rfl|decide+kernel) (.inr ⟨by rfl,rfl⟩) hF ?rest14;try walk_nrm)
 (co_applyP anyCH_take (Qt N) (fun _ _ h r=>CK.rely hJ h r) (fun _ _ _ h r=>⟨h.1,h.2.1,h.2.2.1,h.2.2.2.1,CK.rely hJ h.2.2.2.2 r⟩) (i:=15) rfl (by first|kernel_rfl|decide+kernel) (by first|kernel_rfl|decide+kernel) (by first|kernel_rfl|decide+kernel) (.inr ⟨by rfl,rfl⟩) hF ?rest15;try walk_nrm)
 (co_applyP anyCH_take (Qt N) (fun _ _ h r=>CK.rely hJ h r) (fun _ _ _ h r=>⟨h.1,h.2.1,h.2.2.1,h.2.2.2.1,CK.rely hJ h.2.2.2.2 r⟩) (i:=16) rfl (by first|kernel_rfl|decide+kernel) (by first|kernel_rfl|decide+kernel) (by first|kernel_rfl|decide+kernel) (.inr ⟨by rfl,rfl⟩) hF ?rest16;try walk_nrm)
 (co_applyP anyCH_take (Qt N) (fun _ _ h r=>CK.rely hJ h r) (fun _ _ _ h r=>⟨h.1,h.2.1,h.2.2.1,h.2.2.2.1,CK.rely hJ h.2.2.2.2 r⟩) (i:=17) rfl (by first|kernel_rfl|decide+kernel) (by first|kernel_rfl|decide+kernel) (by first|kernel_rfl|decide+kernel) (.inr ⟨by rfl,rfl⟩) hF ?rest17;try walk_nrm)
 (co_applyP anyCH_take (Qt N) (fun _ _ h r=>CK.rely hJ h r) (fun _ _ _ h r=>⟨h.1,h.2.1,h.2.2.1,h.2.2.2.1,CK.rely hJ h.2.2.2.2 r⟩) (i:=18) rfl (by first|kernel_rfl|decide+kernel) (by first|kernel_rfl|decide+kernel) (by first|kernel_rfl|decide+kernel) (.inr ⟨by rfl,rfl⟩) hF ?rest18;try walk_nrm)
 (co_applyP anyCH_take (Qt N) (fun _ _ h r=>CK.rely hJ h r) (fun _ _ _ h r=>⟨h.1,h.2.1,h.2.2.1,h.2.2.2.1,CK.rely hJ h.2.2.2.2 r⟩) (i:=19) rfl (by first|kernel_rfl|decide+kernel) (by first|kernel_rfl|decide+kernel) (by first|kernel_rfl|decide+kernel) (.inr ⟨by rfl,rfl⟩) hF ?rest19;try walk_nrm)
 (co_applyP anyCH_take (Qt N) (fun _ _ h r=>CK.rely hJ h r) (fun _ _ _ h r=>⟨h.1,h.2.1,h.2.2.1,h.2.2.2.1,CK.rely hJ h.2.2.2.2 r⟩) (i:=20) rfl (by first|kernel_rfl|decide+kernel) (by first|kernel_rfl|decide+kernel) (by first|kernel_rfl|decide+kernel) (.inr ⟨by rfl,rfl⟩) hF ?rest20;try walk_nrm)
 (co_applyP anyCH_take (Qt N) (fun _ _ h r=>CK.rely hJ h r) (fun _ _ _ h r=>⟨h.1,h.2.1,h.2.2.1,h.2.2.2.1,CK.rely hJ h.2.2.2.2 r⟩) (i:=21) rfl (by first|kernel_rfl|decide+kernel) (by first|kernel_rfl|decide+kernel) (by first|kernel_rfl|decide+kernel) (.inr ⟨by rfl,rfl⟩) hF ?rest21;try walk_nrm)
 (co_applyP anyCH_take (Qt N) (fun _ _ h r=>CK.rely hJ h r) (fun _ _ _ h r=>⟨h.1,h.2.1,h.2.2.1,h.2.2.2.1,CK.rely hJ h.2.2.2.2 r⟩) (i:=22) rfl (by first|kernel_rfl|decide+kernel) (by first|kernel_rfl|decide+kernel) (by first|kernel_rfl|decide+kernel) (.inl ⟨by rfl,fun _ hw=>⟨run_eq_of ?run22,?guar22⟩⟩) hF ?rest22;(case run22=>(intro K hK;(skip);go_simp;exact hK));(case guar22=>((skip);(co_quiet (Qt N))));try walk_nrm)
 (co_applyP anyCH_take (Qt N) (fun _ _ h r=>CK.rely hJ h r) (fun _ _ _ h r=>⟨h.1,h.2.1,h.2.2.1,h.2.2.2.1,CK.rely hJ h.2.2.2.2 r⟩) (i:=23) rfl (by first|kernel_rfl|decide+kernel) (by first|kernel_rfl|decide+kernel) (by first|kernel_rfl|decide+kernel) (.inl ⟨by rfl,fun _ hw=>⟨run_eq_of ?run23,?guar23⟩⟩) hF ?rest23;(case run23=>(intro K hK;(skip);go_simp;exact hK));(case guar23=>((skip);(co_still (Qt N))));try walk_nrm)
 refine anyCH_all (rs:=[24]) (by kernel_rfl) (by simp) (fun i hi=>?_)
 obtain rfl:=List.mem_singleton.1 hi
 refine Qg9 (q:=true) rfl rfl rfl rfl rfl ?_ hJ hF hj (fun w' hw'=>⟨hw'.less,anyCH_done (by kernel_rfl) ⟨rfl,rfl,rfl,?_,hw'⟩ _⟩)
 ·rw[hv];simp;omega
 ·intro i hi
  match i,hi with
  |0,_=>rfl
  |1,_=>rfl
  |2,_=>rfl
  |3,_=>rfl
  |4,_=>rfl
  |5,_=>rfl
set_option maxRecDepth 100000 in
set_option maxHeartbeats 4000000 in
theorem QtD(hJ:Job N A la B lb n arr xs ys)(hj:j<n)(hla:j<la)(hlb:lb≤j)(w:World)(ds:List Deferred)(v6 v7 v8 v9 v10 v11 v12 v13 v14 v15 v16 v17 v18 v19 v20 v21 v22 v23 v24 v25 v26 v27 v28 v29 v30 v31 v32 v33 v34 v35 v36 v37 v38 v39:Value)(hF:CK N A la ca B lb cb n arr xs ys j w):
 R4.wpC Tryz.prog false (RCa 194 (N+4) (N+6)) (DCs (Mine N) (N+4) (N+2)) 139 27
  (fun e a' w'=>e= .normal∧a'.defers=ds∧a'.tmps.size=40∧(∀i,i<6→a'.tmps[i]? =(#[.pointer (some ⟨N+4,0,none⟩),.pointer (some ⟨N+5,0,none⟩),.pointer (some ⟨N+3,0,none⟩),.pointer (some ⟨N,0,none⟩),.pointer (some ⟨N+1,0,none⟩),.int .i64 j,v6,v7,v8,v9,v10,v11,v12,v13,v14,v15,v16,v17,v18,v19,v20,v21,v22,v23,v24,v25,v26,v27,v28,v29,v30,v31,v32,v33,v34,v35,v36,v37,v38,v39]:Array Value)[i]?)∧CK N A la ca B lb cb n arr xs ys (j+1) w') ⟨#[.pointer (some ⟨N+4,0,none⟩),.pointer (some ⟨N+5,0,none⟩),.pointer (some ⟨N+3,0,none⟩),.pointer (some ⟨N,0,none⟩),.pointer (some ⟨N+1,0,none⟩),.int .i64 j,v6,v7,v8,v9,v10,v11,v12,v13,v14,v15,v16,v17,v18,v19,v20,v21,v22,v23,v24,v25,v26,v27,v28,v29,v30,v31,v32,v33,v34,v35,v36,v37,v38,v39],ds⟩ w:=by
 have hjn:(j:Int)<(n:Int):=by omega
 have hj0:(0:Int)≤(j:Int):=by omega
 have hge: ¬((la:Int)≤(j:Int)):=by omega
 have hge2:(lb:Int)≤(j:Int):=by omega
 have hv:=hJ.v j hj
 simp only[R4,LW,bodyW, Tryz.f139,Option.getD_some]
 co_held (Qt N) QfJ QfK (CK N _ la ca _ lb cb n arr xs ys j) (CK.rely hJ) hF
 (co_applyP anyCH_take (Qt N) (fun _ _ h r=>CK.rely hJ h r) (fun _ _ _ h r=>⟨h.1,h.2.1,h.2.2.1,h.2.2.2.1,CK.rely hJ h.2.2.2.2 r⟩) (i:=0) rfl (by first|kernel_rfl|decide+kernel) (by first|kernel_rfl|decide+kernel) (by first|kernel_rfl|decide+kernel) (.inl ⟨by rfl,fun _ hw=>⟨run_eq_of ?run0,?guar0⟩⟩) hF ?rest0;(case run0=>(intro K hK;(have hc:=hw.out);go_simp;exact hK));(case guar0=>((have hc:=hw.out);(refine⟨Aside.refl _ _,?_⟩;co_evs (exact Je _ _ (by simp) (by simp) (by simp) (‹ShyD _ _ _›.own _ _ (by simp) (by simp<;>omega) (by simp))))));try walk_nrm)
 (co_applyP anyCH_take (Qt N) (fun _ _ h r=>CK.rely hJ h r) (fun _ _ _ h r=>⟨h.1,h.2.1,h.2.2.1,h.2.2.2.1,CK.rely hJ h.2.2.2.2 r⟩) (i:=1) rfl (by first|kernel_rfl|decide+kernel) (by first|kernel_rfl|decide+kernel) (by first|kernel_rfl|decide+kernel) (.inl ⟨by rfl,fun _ hw=>⟨run_eq_of ?run1,?guar1⟩⟩) hF ?rest1;(case run1=>(intro K hK;(skip);go_simp;exact hK));(case guar1=>((skip);(co_quiet (Qt N))));try walk_nrm)
 (co_applyP anyCH_take (Qt N) (fun _ _ h r=>CK.rely hJ h r) (fun _ _ _ h r=>⟨h.1,h.2.1,h.2.2.1,h.2.2.2.1,CK.rely hJ h.2.2.2.2 r⟩) (i:=2) rfl (by first|kernel_rfl|decide+kernel) (by first|kernel_rfl|decide+kernel) (by first|kernel_rfl|decide+kernel) (.inl ⟨by rfl,fun _ hw=>⟨run_eq_of ?run2,?guar2⟩⟩) hF ?rest2;(case run2=>(intro K hK;(skip);go_simp;exact hK));(case guar2=>((skip);(co_quiet (Qt N))));try walk_nrm)
 (co_applyP anyCH_take (Qt N) (fun _ _ h r=>CK.rely hJ h r) (fun _ _ _ h r=>⟨h.1,h.2.1,h.2.2.1,h.2.2.2.1,CK.rely hJ h.2.2.2.2 r⟩) (i:=3) rfl (by first|kernel_rfl|decide+kernel) (by first|kernel_rfl|decide+kernel) (by first|kernel_rfl|decide+kernel) (.inl ⟨by rfl,fun _ hw=>⟨run_eq_of ?run3,?guar3⟩⟩) hF ?rest3;(case run3=>(intro K hK;(have hc:=hw.xa);go_simp;exact hK));(case guar3=>((have hc:=hw.xa);(refine⟨Aside.refl _ _,?_⟩;co_evs (exact Je _ _ (by simp) (by simp) (by simp) (‹ShyD _ _ _›.own _ _ (by simp) (by simp<;>omega) (by simp))))));try walk_nrm)
 (co_applyP anyCH_take (Qt N) (fun _ _ h r=>CK.rely hJ h r) (fun _ _ _ h r=>⟨h.1,h.2.1,h.2.2.1,h.2.2.2.1,CK.rely hJ h.2.2.2.2 r⟩) (i:=4) rfl (by first|kernel_rfl|decide+kernel) (by first|kernel_rfl|decide+kernel) (by first|kernel_rfl|decide+kernel) (.inl ⟨by rfl,fun _ hw=>⟨run_eq_of ?run4,?guar4⟩⟩) hF ?rest4;(case run4=>(intro K hK;(skip);go_simp;exact hK));(case guar4=>((skip);(co_quiet (Qt N))));try walk_nrm)
 (co_applyP anyCH_take (Qt N) (fun _ _ h r=>CK.rely hJ h r) (fun _ _ _ h r=>⟨h.1,h.2.1,h.2.2.1,h.2.2.2.1,CK.rely hJ h.2.2.2.2 r⟩) (i:=5) rfl (by first|kernel_rfl|decide+kernel) (by first|kernel_rfl|decide+kernel) (by first|kernel_rfl|decide+kernel) (.inl ⟨by rfl,fun _ hw=>⟨run_eq_of ?run5,?guar5⟩⟩) hF ?rest5;(case run5=>(intro K hK;(skip);go_simp;exact hK));(case guar5=>((skip);(co_quiet (Qt N))));try walk_nrm)
 (co_applyP anyCH_take (Qt N) (fun _ _ h r=>CK.rely hJ h r) (fun _ _ _ h r=>⟨h.1,h.2.1,h.2.2.1,h.2.2.2.1,CK.rely hJ h.2.2.2.2 r⟩) (i:=6) rfl (by first|kernel_rfl|decide+kernel) (by first|kernel_rfl|decide+kernel) (by first|kernel_rfl|decide+kernel) (.inl ⟨by rfl,fun _ hw=>⟨run_eq_of ?run6,?guar6⟩⟩) hF ?rest6;(case run6=>(intro K hK;(skip);go_simp;exact hK));(case guar6=>((skip);(co_quiet (Qt N))));try walk_nrm)
 (co_applyP anyCH_take (Qt N) (fun _ _ h r=>CK.rely hJ h r) (fun _ _ _ h r=>⟨h.1,h.2.1,h.2.2.1,h.2.2.2.1,CK.rely hJ h.2.2.2.2 r⟩) (i:=7) rfl (by first|kernel_rfl|decide+kernel) (by first|kernel_rfl|decide+kernel) (by first|kernel_rfl|decide+kernel) (.inl ⟨by rfl,fun _ hw=>⟨run_eq_of ?run7,?guar7⟩⟩) hF ?rest7;(case run7=>(intro K hK;(skip);go_simp;exact hK));(case guar7=>((skip);(co_quiet (Qt N))));try walk_nrm)
 (co_applyP anyCH_take (Qt N) (fun _ _ h r=>CK.rely hJ h r) (fun _ _ _ h r=>⟨h.1,h.2.1,h.2.2.1,h.2.2.2.1,CK.rely hJ h.2.2.2.2 r⟩) (i:=8) rfl (by first|kernel_rfl|decide+kernel) (by first|kernel_rfl|decide+kernel) (by first|kernel_rfl|decide+kernel) (.inl ⟨by rfl,fun _ hw=>⟨run_eq_of ?run8,?guar8⟩⟩) hF ?rest8;(case run8=>(intro K hK;(have hc:=hw.xb);go_simp;exact hK));(case guar8=>((have hc:=hw.xb);(refine⟨Aside.refl _ _,?_⟩;co_evs (exact Je _ _ (by simp) (by simp) (by simp) (‹ShyD _ _ _›.own _ _ (by simp) (by simp<;>omega) (by simp))))));try walk_nrm)
 (co_applyP anyCH_take (Qt N) (fun _ _ h r=>CK.rely hJ h r) (fun _ _ _ h r=>⟨h.1,h.2.1,h.2.2.1,h.2.2.2.1,CK.rely hJ h.2.2.2.2 r⟩) (i:=9) rfl (by first|kernel_rfl|decide+kernel) (by first|kernel_rfl|decide+kernel) (by first|kernel_rfl|decide+kernel) (.inl ⟨by rfl,fun _ hw=>⟨run_eq_of ?run9,?guar9⟩⟩) hF ?rest9;(case run9=>(intro K hK;(skip);go_simp;exact hK));(case guar9=>((skip);(co_quiet (Qt N))));try walk_nrm)
 (co_applyP anyCH_take (Qt N) (fun _ _ h r=>CK.rely hJ h r) (fun _ _ _ h r=>⟨h.1,h.2.1,h.2.2.1,h.2.2.2.1,CK.rely hJ h.2.2.2.2 r⟩) (i:=10) rfl (by first|kernel_rfl|decide+kernel) (by first|kernel_rfl|decide+kernel) (by first|kernel_rfl|decide+kernel) (.inl ⟨by rfl,fun _ hw=>⟨run_eq_of ?run10,?guar10⟩⟩) hF ?rest10;(case run10=>(intro K hK;(skip);go_simp;exact hK));(case guar10=>((skip);(co_quiet (Qt N))));try walk_nrm)
 (co_applyP anyCH_take (Qt N) (fun _ _ h r=>CK.rely hJ h r) (fun _ _ _ h r=>⟨h.1,h.2.1,h.2.2.1,h.2.2.2.1,CK.rely hJ h.2.2.2.2 r⟩) (i:=11) rfl (by first|kernel_rfl|decide+kernel) (by first|kernel_rfl|decide+kernel) (by first|kernel_rfl|decide+kernel) (.inl ⟨by rfl,fun _ hw=>⟨run_eq_of ?run11,?guar11⟩⟩) hF ?rest11;(case run11=>(intro K hK;(skip);go_simp;exact hK));(case guar11=>((skip);(co_quiet (Qt N))));try walk_nrm)
 (co_applyP anyCH_take (Qt N) (fun _ _ h r=>CK.rely hJ h r) (fun _ _ _ h r=>⟨h.1,h.2.1,h.2.2.1,h.2.2.2.1,CK.rely hJ h.2.2.2.2 r⟩) (i:=12) rfl (by first|kernel_rfl|decide+kernel) (by first|kernel_rfl|decide+kernel) (by first|kernel_rfl|decide+kernel) (.inl ⟨by rfl,fun _ hw=>⟨run_eq_of ?run12,?guar12⟩⟩) hF ?rest12;(case run12=>(intro K hK;(skip);go_simp;exact hK));(case guar12=>((skip);(co_quiet (Qt N))));try walk_nrm)
 (co_applyP anyCH_take (Qt N) (fun _ _ h r=>CK.rely hJ h r) (fun _ _ _ h r=>⟨h.1,h.2.1,h.2.2.1,h.2.2.2.1,CK.rely hJ h.2.2.2.2 r⟩) (i:=13) rfl (by first|kernel_rfl|decide+kernel) (by first|kernel_rfl|decide+kernel) (by first|kernel_rfl|decide+kernel) (.inr ⟨by rfl,rfl⟩) hF ?rest13;try walk_nrm)
 (co_applyP anyCH_take (Qt N) (fun _ _ h r=>CK.rely hJ h r) (fun _ _ _ h r=>⟨h.1,h.2.1,h.2.2.1,h.2.2.2.1,CK.rely hJ h.2.2.2.2 r⟩) (i:=14) rfl (by first|kernel_rfl|decide+kernel) (by first|kernel_rfl|decide+kernel) (by first|kernel_rfl|decide+kernel) (.inr ⟨by rfl,rfl⟩) hF ?rest14;try walk_nrm)
 (co_applyP anyCH_take (Qt N) (fun _ _ h r=>CK.rely hJ h r) (fun _ _ _ h r=>⟨h.1,h.2.1,h.2.2.1,h.2.2.2.1,CK.rely hJ h.2.2.2.2 r⟩) (i:=15) rfl (by first|kernel_rfl|decide+kernel) (by first|kernel_rfl|decide+kernel) (by first|kernel_rfl|decide+kernel) (.inr ⟨by rfl,rfl⟩) hF ?rest15;try walk_nrm)
 (co_applyP anyCH_take (Qt N) (fun _ _ h r=>CK.rely hJ h r) (fun _ _ _ h r=>⟨h.1,h.2.1,h.2.2.1,h.2.2.2.1,CK.rely hJ h.2.2.2.2 r⟩) (i:=16) rfl (by first|kernel_rfl|decide+kernel) (by first|kernel_rfl|decide+kernel) (by first|kernel_rfl|decide+kernel) (.inr ⟨by rfl,rfl⟩) hF ?rest16;try walk_nrm)
 (co_applyP anyCH_take (Qt N) (fun _ _ h r=>CK.rely hJ h r) (fun _ _ _ h r=>⟨h.1,h.2.1,h.2.2.1,h.2.2.2.1,CK.rely hJ h.2.2.2.2 r⟩) (i:=17) rfl (by first|kernel_rfl|decide+kernel) (by first|kernel_rfl|decide+kernel) (by first|kernel_rfl|decide+kernel) (.inr ⟨by rfl,rfl⟩) hF ?rest17;try walk_nrm)
 (co_applyP anyCH_take (Qt N) (fun _ _ h r=>CK.rely hJ h r) (fun _ _ _ h r=>⟨h.1,h.2.1,h.2.2.1,h.2.2.2.1,CK.rely hJ h.2.2.2.2 r⟩) (i:=18) rfl (by first|kernel_rfl|decide+kernel) (by first|kernel_rfl|decide+kernel) (by first|kernel_rfl|decide+kernel) (.inr ⟨by rfl,rfl⟩) hF ?rest18;try walk_nrm)
 (co_applyP anyCH_take (Qt N) (fun _ _ h r=>CK.rely hJ h r) (fun _ _ _ h r=>⟨h.1,h.2.1,h.2.2.1,h.2.2.2.1,CK.rely hJ h.2.2.2.2 r⟩) (i:=19) rfl (by first|kernel_rfl|decide+kernel) (by first|kernel_rfl|decide+kernel) (by first|kernel_rfl|decide+kernel) (.inr ⟨by rfl,rfl⟩) hF ?rest19;try walk_nrm)
 (co_applyP anyCH_take (Qt N) (fun _ _ h r=>CK.rely hJ h r) (fun _ _ _ h r=>⟨h.1,h.2.1,h.2.2.1,h.2.2.2.1,CK.rely hJ h.2.2.2.2 r⟩) (i:=20) rfl (by first|kernel_rfl|decide+kernel) (by first|kernel_rfl|decide+kernel) (by first|kernel_rfl|decide+kernel) (.inr ⟨by rfl,rfl⟩) hF ?rest20;try walk_nrm)
 (co_applyP anyCH_take (Qt N) (fun _ _ h r=>CK.rely hJ h r) (fun _ _ _ h r=>⟨h.1,h.2.1,h.2.2.1,h.2.2.2.1,CK.rely hJ h.2.2.2.2 r⟩) (i:=21) rfl (by first|kernel_rfl|decide+kernel) (by first|kernel_rfl|decide+kernel) (by first|kernel_rfl|decide+kernel) (.inr ⟨by rfl,rfl⟩) hF ?rest21;try walk_nrm)
 (co_applyP anyCH_take (Qt N) (fun _ _ h r=>CK.rely hJ h r) (fun _ _ _ h r=>⟨h.1,h.2.1,h.2.2.1,h.2.2.2.1,CK.rely hJ h.2.2.2.2 r⟩) (i:=22) rfl (by first|kernel_rfl|decide+kernel) (by first|kernel_rfl|decide+kernel) (by first|kernel_rfl|decide+kernel) (.inl ⟨by rfl,fun _ hw=>⟨run_eq_of ?run22,?guar22⟩⟩) hF ?rest22;(case run22=>(intro K hK;(skip);go_simp;exact hK));(case guar22=>((skip);(co_quiet (Qt N))));try walk_nrm)
 (co_applyP anyCH_take (Qt N) (fun _ _ h r=>CK.rely hJ h r) (fun _ _ _ h r=>⟨h.1,h.2.1,h.2.2.1,h.2.2.2.1,CK.rely hJ h.2.2.2.2 r⟩) (i:=23) rfl (by first|kernel_rfl|decide+kernel) (by first|kernel_rfl|decide+kernel) (by first|kernel_rfl|decide+kernel) (.inl ⟨by rfl,fun _ hw=>⟨run_eq_of ?run23,?guar23⟩⟩) hF ?rest23;(case run23=>(intro K hK;(skip);go_simp;exact hK));(case guar23=>((skip);(co_still (Qt N))));try walk_nrm)
 refine anyCH_all (rs:=[24]) (by kernel_rfl) (by simp) (fun i hi=>?_)
 obtain rfl:=List.mem_singleton.1 hi
 refine Qg9 (q:=true) rfl rfl rfl rfl rfl ?_ hJ hF hj (fun w' hw'=>⟨hw'.less,anyCH_done (by kernel_rfl) ⟨rfl,rfl,rfl,?_,hw'⟩ _⟩)
 ·rw[hv];simp;omega
 ·intro i hi
  match i,hi with
  |0,_=>rfl
  |1,_=>rfl
  |2,_=>rfl
  |3,_=>rfl
  |4,_=>rfl
  |5,_=>rfl
set_option maxRecDepth 100000 in
set_option maxHeartbeats 4000000 in
theorem QtE(hJ:Job N A la B lb n arr xs ys)(hj:j<n)(hla:j<la)(hlb:j<lb)(w:World)(ds:List Deferred)(v6 v7 v8 v9 v10 v11 v12 v13 v14 v15 v16 v17 v18 v19 v20 v21 v22 v23 v24 v25 v26 v27 v28 v29 v30 v31 v32 v33 v34 v35 v36 v37 v38 v39:Value)(hF:CK N A la ca B lb cb n arr xs ys j w):
 R4.wpC Tryz.prog false (RCa 194 (N+4) (N+6)) (DCs (Mine N) (N+4) (N+2)) 139 27
  (fun e a' w'=>e= .normal∧a'.defers=ds∧a'.tmps.size=40∧(∀i,i<6→a'.tmps[i]? =(#[.pointer (some ⟨N+4,0,none⟩),.pointer (some ⟨N+5,0,none⟩),.pointer (some ⟨N+3,0,none⟩),.pointer (some ⟨N,0,none⟩),.pointer (some ⟨N+1,0,none⟩),.int .i64 j,v6,v7,v8,v9,v10,v11,v12,v13,v14,v15,v16,v17,v18,v19,v20,v21,v22,v23,v24,v25,v26,v27,v28,v29,v30,v31,v32,v33,v34,v35,v36,v37,v38,v39]:Array Value)[i]?)∧CK N A la ca B lb cb n arr xs ys (j+1) w') ⟨#[.pointer (some ⟨N+4,0,none⟩),.pointer (some ⟨N+5,0,none⟩),.pointer (some ⟨N+3,0,none⟩),.pointer (some ⟨N,0,none⟩),.pointer (some ⟨N+1,0,none⟩),.int .i64 j,v6,v7,v8,v9,v10,v11,v12,v13,v14,v15,v16,v17,v18,v19,v20,v21,v22,v23,v24,v25,v26,v27,v28,v29,v30,v31,v32,v33,v34,v35,v36,v37,v38,v39],ds⟩ w:=by
 have hjn:(j:Int)<(n:Int):=by omega
 have hj0:(0:Int)≤(j:Int):=by omega
 have hge: ¬((la:Int)≤(j:Int)):=by omega
 have hge2: ¬((lb:Int)≤(j:Int)):=by omega
 have hl1:(j:Int)<(la:Int):=by omega
 have hl2:(j:Int)<(lb:Int):=by omega
 obtain⟨ad,rfl,hba⟩:=hJ.a j hla hlb
 obtain⟨bd,rfl,hbb⟩:=hJ.b j hla hlb
 have hv:=hJ.v j hj
 simp only[R4,LW,bodyW, Tryz.f139,Option.getD_some]
 co_held (Qt N) QfJ QfK (CK N _ la ca _ lb cb n arr xs ys j) (CK.rely hJ) hF
 (co_applyP anyCH_take (Qt N) (fun _ _ h r=>CK.rely hJ h r) (fun _ _ _ h r=>⟨h.1,h.2.1,h.2.2.1,h.2.2.2.1,CK.rely hJ h.2.2.2.2 r⟩) (i:=0) rfl (by first|kernel_rfl|decide+kernel) (by first|kernel_rfl|decide+kernel) (by first|kernel_rfl|decide+kernel) (.inl ⟨by rfl,fun _ hw=>⟨run_eq_of ?run0,?guar0⟩⟩) hF ?rest0;(case run0=>(intro K hK;(have hc:=hw.out);go_simp;exact hK));(case guar0=>((have hc:=hw.out);(refine⟨Aside.refl _ _,?_⟩;co_evs (exact Je _ _ (by simp) (by simp) (by simp) (‹ShyD _ _ _›.own _ _ (by simp) (by simp<;>omega) (by simp))))));try walk_nrm)
 (co_applyP anyCH_take (Qt N) (fun _ _ h r=>CK.rely hJ h r) (fun _ _ _ h r=>⟨h.1,h.2.1,h.2.2.1,h.2.2.2.1,CK.rely hJ h.2.2.2.2 r⟩) (i:=1) rfl (by first|kernel_rfl|decide+kernel) (by first|kernel_rfl|decide+kernel) (by first|kernel_rfl|decide+kernel) (.inl ⟨by rfl,fun _ hw=>⟨run_eq_of ?run1,?guar1⟩⟩) hF ?rest1;(case run1=>(intro K hK;(skip);go_simp;exact hK));(case guar1=>((skip);(co_quiet (Qt N))));try walk_nrm)
 (co_applyP anyCH_take (Qt N) (fun _ _ h r=>CK.rely hJ h r) (fun _ _ _ h r=>⟨h.1,h.2.1,h.2.2.1,h.2.2.2.1,CK.rely hJ h.2.2.2.2 r⟩) (i:=2) rfl (by first|kernel_rfl|decide+kernel) (by first|kernel_rfl|decide+kernel) (by first|kernel_rfl|decide+kernel) (.inl ⟨by rfl,fun _ hw=>⟨run_eq_of ?run2,?guar2⟩⟩) hF ?rest2;(case run2=>(intro K hK;(skip);go_simp;exact hK));(case guar2=>((skip);(co_quiet (Qt N))));try walk_nrm)
 (co_applyP anyCH_take (Qt N) (fun _ _ h r=>CK.rely hJ h r) (fun _ _ _ h r=>⟨h.1,h.2.1,h.2.2.1,h.2.2.2.1,CK.rely hJ h.2.2.2.2 r⟩) (i:=3) rfl (by first|kernel_rfl|decide+kernel) (by first|kernel_rfl|decide+kernel) (by first|kernel_rfl|decide+kernel) (.inl ⟨by rfl,fun _ hw=>⟨run_eq_of ?run3,?guar3⟩⟩) hF ?rest3;(case run3=>(intro K hK;(have hc:=hw.xa);go_simp;exact hK));(case guar3=>((have hc:=hw.xa);(refine⟨Aside.refl _ _,?_⟩;co_evs (exact Je _ _ (by simp) (by simp) (by simp) (‹ShyD _ _ _›.own _ _ (by simp) (by simp<;>omega) (by simp))))));try walk_nrm)
 (co_applyP anyCH_take (Qt N) (fun _ _ h r=>CK.rely hJ h r) (fun _ _ _ h r=>⟨h.1,h.2.1,h.2.2.1,h.2.2.2.1,CK.rely hJ h.2.2.2.2 r⟩) (i:=4) rfl (by first|kernel_rfl|decide+kernel) (by first|kernel_rfl|decide+kernel) (by first|kernel_rfl|decide+kernel) (.inl ⟨by rfl,fun _ hw=>⟨run_eq_of ?run4,?guar4⟩⟩) hF ?rest4;(case run4=>(intro K hK;(skip);go_simp;exact hK));(case guar4=>((skip);(co_quiet (Qt N))));try walk_nrm)
 (co_applyP anyCH_take (Qt N) (fun _ _ h r=>CK.rely hJ h r) (fun _ _ _ h r=>⟨h.1,h.2.1,h.2.2.1,h.2.2.2.1,CK.rely hJ h.2.2.2.2 r⟩) (i:=5) rfl (by first|kernel_rfl|decide+kernel) (by first|kernel_rfl|decide+kernel) (by first|kernel_rfl|decide+kernel) (.inl ⟨by rfl,fun _ hw=>⟨run_eq_of ?run5,?guar5⟩⟩) hF ?rest5;(case run5=>(intro K hK;(skip);go_simp;exact hK));(case guar5=>((skip);(co_quiet (Qt N))));try walk_nrm)
 (co_applyP anyCH_take (Qt N) (fun _ _ h r=>CK.rely hJ h r) (fun _ _ _ h r=>⟨h.1,h.2.1,h.2.2.1,h.2.2.2.1,CK.rely hJ h.2.2.2.2 r⟩) (i:=6) rfl (by first|kernel_rfl|decide+kernel) (by first|kernel_rfl|decide+kernel) (by first|kernel_rfl|decide+kernel) (.inl ⟨by rfl,fun _ hw=>⟨run_eq_of ?run6,?guar6⟩⟩) hF ?rest6;(case run6=>(intro K hK;(skip);go_simp;exact hK));(case guar6=>((skip);(co_quiet (Qt N))));try walk_nrm)
 (co_applyP anyCH_take (Qt N) (fun _ _ h r=>CK.rely hJ h r) (fun _ _ _ h r=>⟨h.1,h.2.1,h.2.2.1,h.2.2.2.1,CK.rely hJ h.2.2.2.2 r⟩) (i:=7) rfl (by first|kernel_rfl|decide+kernel) (by first|kernel_rfl|decide+kernel) (by first|kernel_rfl|decide+kernel) (.inl ⟨by rfl,fun _ hw=>⟨run_eq_of ?run7,?guar7⟩⟩) hF ?rest7;(case run7=>(intro K hK;(skip);go_simp;exact hK));(case guar7=>((skip);(co_quiet (Qt N))));try walk_nrm)
 (co_applyP anyCH_take (Qt N) (fun _ _ h r=>CK.rely hJ h r) (fun _ _ _ h r=>⟨h.1,h.2.1,h.2.2.1,h.2.2.2.1,CK.rely hJ h.2.2.2.2 r⟩) (i:=8) rfl (by first|kernel_rfl|decide+kernel) (by first|kernel_rfl|decide+kernel) (by first|kernel_rfl|decide+kernel) (.inl ⟨by rfl,fun _ hw=>⟨run_eq_of ?run8,?guar8⟩⟩) hF ?rest8;(case run8=>(intro K hK;(have hc:=hw.xb);go_simp;exact hK));(case guar8=>((have hc:=hw.xb);(refine⟨Aside.refl _ _,?_⟩;co_evs (exact Je _ _ (by simp) (by simp) (by simp) (‹ShyD _ _ _›.own _ _ (by simp) (by simp<;>omega) (by simp))))));try walk_nrm)
 (co_applyP anyCH_take (Qt N) (fun _ _ h r=>CK.rely hJ h r) (fun _ _ _ h r=>⟨h.1,h.2.1,h.2.2.1,h.2.2.2.1,CK.rely hJ h.2.2.2.2 r⟩) (i:=9) rfl (by first|kernel_rfl|decide+kernel) (by first|kernel_rfl|decide+kernel) (by first|kernel_rfl|decide+kernel) (.inl ⟨by rfl,fun _ hw=>⟨run_eq_of ?run9,?guar9⟩⟩) hF ?rest9;(case run9=>(intro K hK;(skip);go_simp;exact hK));(case guar9=>((skip);(co_quiet (Qt N))));try walk_nrm)
 (co_applyP anyCH_take (Qt N) (fun _ _ h r=>CK.rely hJ h r) (fun _ _ _ h r=>⟨h.1,h.2.1,h.2.2.1,h.2.2.2.1,CK.rely hJ h.2.2.2.2 r⟩) (i:=10) rfl (by first|kernel_rfl|decide+kernel) (by first|kernel_rfl|decide+kernel) (by first|kernel_rfl|decide+kernel) (.inl ⟨by rfl,fun _ hw=>⟨run_eq_of ?run10,?guar10⟩⟩) hF ?rest10;(case run10=>(intro K hK;(skip);go_simp;exact hK));(case guar10=>((skip);(co_quiet (Qt N))));try walk_nrm)
 (co_applyP anyCH_take (Qt N) (fun _ _ h r=>CK.rely hJ h r) (fun _ _ _ h r=>⟨h.1,h.2.1,h.2.2.1,h.2.2.2.1,CK.rely hJ h.2.2.2.2 r⟩) (i:=11) rfl (by first|kernel_rfl|decide+kernel) (by first|kernel_rfl|decide+kernel) (by first|kernel_rfl|decide+kernel) (.inl ⟨by rfl,fun _ hw=>⟨run_eq_of ?run11,?guar11⟩⟩) hF ?rest11;(case run11=>(intro K hK;(skip);go_simp;exact hK));(case guar11=>((skip);(co_quiet (Qt N))));try walk_nrm)
 (co_applyP anyCH_take (Qt N) (fun _ _ h r=>CK.rely hJ h r) (fun _ _ _ h r=>⟨h.1,h.2.1,h.2.2.1,h.2.2.2.1,CK.rely hJ h.2.2.2.2 r⟩) (i:=12) rfl (by first|kernel_rfl|decide+kernel) (by first|kernel_rfl|decide+kernel) (by first|kernel_rfl|decide+kernel) (.inl ⟨by rfl,fun _ hw=>⟨run_eq_of ?run12,?guar12⟩⟩) hF ?rest12;(case run12=>(intro K hK;(skip);go_simp;exact hK));(case guar12=>((skip);(co_quiet (Qt N))));try walk_nrm)
 (co_applyP anyCH_take (Qt N) (fun _ _ h r=>CK.rely hJ h r) (fun _ _ _ h r=>⟨h.1,h.2.1,h.2.2.1,h.2.2.2.1,CK.rely hJ h.2.2.2.2 r⟩) (i:=13) rfl (by first|kernel_rfl|decide+kernel) (by first|kernel_rfl|decide+kernel) (by first|kernel_rfl|decide+kernel) (.inl ⟨by rfl,fun _ hw=>⟨run_eq_of ?run13,?guar13⟩⟩) hF ?rest13;(case run13=>(intro K hK;(have hc:=hw.xa);go_simp;exact hK));(case guar13=>((have hc:=hw.xa);(refine⟨Aside.refl _ _,?_⟩;co_evs (exact Je _ _ (by simp) (by simp) (by simp) (‹ShyD _ _ _›.own _ _ (by simp) (by simp<;>omega) (by simp))))));try walk_nrm)
 (co_applyP anyCH_take (Qt N) (fun _ _ h r=>CK.rely hJ h r) (fun _ _ _ h r=>⟨h.1,h.2.1,h.2.2.1,h.2.2.2.1,CK.rely hJ h.2.2.2.2 r⟩) (i:=14) rfl (by first|kernel_rfl|decide+kernel) (by first|kernel_rfl|decide+kernel) (by first|kernel_rfl|decide+kernel) (.inl ⟨by rfl,fun _ hw=>⟨run_eq_of ?run14,?guar14⟩⟩) hF ?rest14;(case run14=>(intro K hK;(skip);go_simp;exact hK));(case guar14=>((skip);(co_quiet (Qt N))));try walk_nrm)
 (co_applyP anyCH_take (Qt N) (fun _ _ h r=>CK.rely hJ h r) (fun _ _ _ h r=>⟨h.1,h.2.1,h.2.2.1,h.2.2.2.1,CK.rely hJ h.2.2.2.2 r⟩) (i:=15) rfl (by first|kernel_rfl|decide+kernel) (by first|kernel_rfl|decide+kernel) (by first|kernel_rfl|decide+kernel) (.inl ⟨by rfl,fun _ hw=>⟨run_eq_of ?run15,?guar15⟩⟩) hF ?rest15;(case run15=>(intro K hK;(skip);go_simp;exact hK));(case guar15=>((skip);(co_still (Qt N))));try walk_nrm)
 (co_applyP anyCH_take (Qt N) (fun _ _ h r=>CK.rely hJ h r) (fun _ _ _ h r=>⟨h.1,h.2.1,h.2.2.1,h.2.2.2.1,CK.rely hJ h.2.2.2.2 r⟩) (i:=16) rfl (by first|kernel_rfl|decide+kernel) (by first|kernel_rfl|decide+kernel) (by first|kernel_rfl|decide+kernel) (.inl ⟨by rfl,fun _ hw=>⟨run_eq_of ?run16,?guar16⟩⟩) hF ?rest16;(case run16=>(intro K hK;(have hc:=hw.ea j ad hla hlb rfl);go_simp;exact hK));(case guar16=>((have hc:=hw.ea j ad hla hlb rfl);(refine⟨Aside.refl _ _,?_⟩;co_evs (exact Je _ _ (by rw[add_block];omega) (by rw[add_block];omega) (by rw[add_block];omega) (hJ.okA j ad hla hlb rfl)))));try walk_nrm)
 (co_applyP anyCH_take (Qt N) (fun _ _ h r=>CK.rely hJ h r) (fun _ _ _ h r=>⟨h.1,h.2.1,h.2.2.1,h.2.2.2.1,CK.rely hJ h.2.2.2.2 r⟩) (i:=17) rfl (by first|kernel_rfl|decide+kernel) (by first|kernel_rfl|decide+kernel) (by first|kernel_rfl|decide+kernel) (.inl ⟨by rfl,fun _ hw=>⟨run_eq_of ?run17,?guar17⟩⟩) hF ?rest17;(case run17=>(intro K hK;(have hc:=hw.xb);go_simp;exact hK));(case guar17=>((have hc:=hw.xb);(refine⟨Aside.refl _ _,?_⟩;co_evs (exact Je _ _ (by simp) (by simp) (by simp) (‹ShyD _ _ _›.own _ _ (by simp) (by simp<;>omega) (by simp))))));try walk_nrm)
 (co_applyP anyCH_take (Qt N) (fun _ _ h r=>CK.rely hJ h r) (fun _ _ _ h r=>⟨h.1,h.2.1,h.2.2.1,h.2.2.2.1,CK.rely hJ h.2.2.2.2 r⟩) (i:=18) rfl (by first|kernel_rfl|decide+kernel) (by first|kernel_rfl|decide+kernel) (by first|kernel_rfl|decide+kernel) (.inl ⟨by rfl,fun _ hw=>⟨run_eq_of ?run18,?guar18⟩⟩) hF ?rest18;(case run18=>(intro K hK;(skip);go_simp;exact hK));(case guar18=>((skip);(co_quiet (Qt N))));try walk_nrm)
 (co_applyP anyCH_take (Qt N) (fun _ _ h r=>CK.rely hJ h r) (fun _ _ _ h r=>⟨h.1,h.2.1,h.2.2.1,h.2.2.2.1,CK.rely hJ h.2.2.2.2 r⟩) (i:=19) rfl (by first|kernel_rfl|decide+kernel) (by first|kernel_rfl|decide+kernel) (by first|kernel_rfl|decide+kernel) (.inl ⟨by rfl,fun _ hw=>⟨run_eq_of ?run19,?guar19⟩⟩) hF ?rest19;(case run19=>(intro K hK;(skip);go_simp;exact hK));(case guar19=>((skip);(co_still (Qt N))));try walk_nrm)
 (co_applyP anyCH_take (Qt N) (fun _ _ h r=>CK.rely hJ h r) (fun _ _ _ h r=>⟨h.1,h.2.1,h.2.2.1,h.2.2.2.1,CK.rely hJ h.2.2.2.2 r⟩) (i:=20) rfl (by first|kernel_rfl|decide+kernel) (by first|kernel_rfl|decide+kernel) (by first|kernel_rfl|decide+kernel) (.inl ⟨by rfl,fun _ hw=>⟨run_eq_of ?run20,?guar20⟩⟩) hF ?rest20;(case run20=>(intro K hK;(have hc:=hw.eb j bd hla hlb rfl);go_simp;exact hK));(case guar20=>((have hc:=hw.eb j bd hla hlb rfl);(refine⟨Aside.refl _ _,?_⟩;co_evs (exact Je _ _ (by rw[add_block];omega) (by rw[add_block];omega) (by rw[add_block];omega) (hJ.okB j bd hla hlb rfl)))));try walk_nrm)
 (co_applyP anyCH_take (Qt N) (fun _ _ h r=>CK.rely hJ h r) (fun _ _ _ h r=>⟨h.1,h.2.1,h.2.2.1,h.2.2.2.1,CK.rely hJ h.2.2.2.2 r⟩) (i:=21) rfl (by first|kernel_rfl|decide+kernel) (by first|kernel_rfl|decide+kernel) (by first|kernel_rfl|decide+kernel) (.inl ⟨by rfl,fun _ hw=>⟨run_eq_of ?run21,?guar21⟩⟩) hF ?rest21;(case run21=>(intro K hK;(skip);go_simp;exact hK));(case guar21=>((skip);(co_quiet (Qt N))));try walk_nrm)
 (co_applyP anyCH_take (Qt N) (fun _ _ h r=>CK.rely hJ h r) (fun _ _ _ h r=>⟨h.1,h.2.1,h.2.2.1,h.2.2.2.1,CK.rely hJ h.2.2.2.2 r⟩) (i:=22) rfl (by first|kernel_rfl|decide+kernel) (by first|kernel_rfl|decide+kernel) (by first|kernel_rfl|decide+kernel) (.inl ⟨by rfl,fun _ hw=>⟨run_eq_of ?run22,?guar22⟩⟩) hF ?rest22;(case run22=>(intro K hK;(skip);go_simp;exact hK));(case guar22=>((skip);(co_quiet (Qt N))));try walk_nrm)
 (co_applyP anyCH_take (Qt N) (fun _ _ h r=>CK.rely hJ h r) (fun _ _ _ h r=>⟨h.1,h.2.1,h.2.2.1,h.2.2.2.1,CK.rely hJ h.2.2.2.2 r⟩) (i:=23) rfl (by first|kernel_rfl|decide+kernel) (by first|kernel_rfl|decide+kernel) (by first|kernel_rfl|decide+kernel) (.inl ⟨by rfl,fun _ hw=>⟨run_eq_of ?run23,?guar23⟩⟩) hF ?rest23;(case run23=>(intro K hK;(skip);go_simp;exact hK));(case guar23=>((skip);(co_still (Qt N))));try walk_nrm)
 refine anyCH_all (rs:=[24]) (by kernel_rfl) (by simp) (fun i hi=>?_)
 obtain rfl:=List.mem_singleton.1 hi
 refine Qg9 (q:=(xs j != ys j)) rfl rfl rfl rfl rfl ?_ hJ hF hj (fun w' hw'=>⟨hw'.less,anyCH_done (by kernel_rfl) ⟨rfl,rfl,rfl,?_,hw'⟩ _⟩)
 ·rw[hv];simp;omega
 ·intro i hi
  match i,hi with
  |0,_=>rfl
  |1,_=>rfl
  |2,_=>rfl
  |3,_=>rfl
  |4,_=>rfl
  |5,_=>rfl
end
end Go.Proofs.YtpmjcjoeckajgaaGreatDoor
/- The worker of one call of impl.differences: its birth, its loop, its Done. (Round C) -/
namespace Go.Proofs.YtpmjcjoeckajgaaGreatDoor
set_option linter.unusedSectionVars false
open Go.Conc Go.ConcX Go.RowKit Go.Conc.Lib Go.ConcX.Gen
section
variable (N : Nat) (A B : Option Addr) [Shy (N + 4) (N + 2)] [ShyD N A B] (arr : Array Value)
abbrev GC(m:Nat)(g:Goroutine)(w:World):Prop:=Goes Tryz.prog false (RCa 194 (N+4) (N+6)) (DCs (Mine N) (N+4) (N+2)) (AtR0 Tryz.prog 194 (N+4) (N+2) (N+6) arr.toList) m g w
def Qd7(j:Nat)(g:Goroutine):Prop:=
 ∃T:Array Value,g=G (bW.at ⟨T,[dcall 140 #[.pointer (some ⟨N+4,0,none⟩)]]⟩ [.code LW,.inLoop LW,.inBlock 0]) [botW]∧T.size=40∧T[0]? =some (.pointer (some ⟨N+4,0,none⟩))∧T[1]? =some (.pointer (some ⟨N+5,0,none⟩))∧
  T[2]? =some (.pointer (some ⟨N+3,0,none⟩))∧T[3]? =some (.pointer (some ⟨N,0,none⟩))∧T[4]? =some (.pointer (some ⟨N+1,0,none⟩))∧T[5]? =some (.int .i64 j)
end
section
variable {P : Program} {main : Bool} {b : Frame} {a : Act} {kk : List Item} {cs : List Frame} {w : World} {ops : Array Oper} {i : Nat} {rest : List Nat} {o : Oper}
theorem Qo3(ρ:Operand→Value){ts:Array TypeId}{x y:Operand}(hop:o.op= .call ⟨.builtin .min,#[x,y],ts⟩):execOp ρ o=(do pure (.value (←Builtin.min_ ts o.type #[ρ x,ρ y]))):=by
 have e:(#[x,y].map ρ)= #[ρ x,ρ y]:=by simp
 unfold execOp
 rw[hop]
 show(do let d←resolve ρ ⟨.builtin .min,#[x,y],ts⟩ o.type;invoke d.target d.args:Sem Next)=_
 unfold resolve
 simp only[e]
 rfl
theorem Qlp{x y:Operand}{ts:Array TypeId}{p q:Int}(ho:ops[i]? =some o)(hw:Region.wanted o (yielded ops a.tmps)=true)(hk:b.kind≠ .early)(hop:o.op= .call ⟨.builtin .min,#[x,y],ts⟩)
 (hx:a.eval x= .int .i64 p)(hy:a.eval y= .int .i64 q)(hq:(P.funcs[b.fn]?).any (·.norace)=false):
 stepG P main (G (b.at a (.inRegion ops (i :: rest) :: kk)) cs) w= .go (G (b.at (a.put o.dst (.int .i64 (if q<p then q else p))) (.inRegion ops rest :: kk)) cs) w #[]:=by
 have h0:=Qo3 (o:=o) a.eval hop
 rw[hx,hy] at h0
 have hr:(execOp a.eval o).run P w= .ok (.value (.int .i64 (if q<p then q else p))) w:=by rw[h0];rfl
 have he:(execOp a.eval o).events P w #[]= #[]:=by rw[h0];rfl
 rw[stepG_value ho hw hk hr]
 unfold listed
 rw[he,seen_eq hq (by simp)]
end
theorem QtA(T:Array Value):QuitsD Tryz.prog 2 0 (G { bW.at ⟨T,[]⟩ [] with mode:= .returning} [botW]):=by
 refine QuitsD.ctl (g':=G botW []) rfl (fun w=>?_) ?_
 ·simp[G,stepG,unwind,doReturn,results,Frame.at,bW,baseD,botW, Tryz.func139, Tryz.f139,seen,GStep.after,goexitEntry]
 refine QuitsD.ctl (g':={ G botW [] with status:= .finished}) rfl (fun w=>?_) ⟨rfl,rfl⟩
 simp[G,stepG,unwind,botW,goexitEntry,Frame.catches]
 rfl
section
variable {N : Nat} {A B : Option Addr} [Shy (N + 4) (N + 2)] [ShyD N A B] {la ca lb cb n : Nat} {arr : Array Value} {xs ys : Nat → Int}
set_option maxRecDepth 100000 in
set_option maxHeartbeats 4000000 in
theorem Qxi(hJ:Job N A la B lb n arr xs ys): ∀(g:Goroutine) (w:World),Qd7 N n g→CK N A la ca B lb cb n arr xs ys n w→GC N arr (40+23) g w:=by
 rintro g w ⟨T,rfl,hT,t0,t1,t2,t3,t4,t5⟩ hF
 obtain⟨v0,v1,v2,v3,v4,v5,v6,v7,v8,v9,v10,v11,v12,v13,v14,v15,v16,v17,v18,v19,v20,v21,v22,v23,v24,v25,v26,v27,v28,v29,v30,v31,v32,v33,v34,v35,v36,v37,v38,v39,rfl⟩:=Qfr T hT
 simp only[List.getElem?_toArray,List.getElem?_cons_succ,List.getElem?_cons_zero,Option.some.injEq] at t0 t1 t2 t3 t4 t5
 subst t0 t1 t2 t3 t4 t5
 have hle:=hJ.le
 have hmin:(if(n:Int)<64 then(n:Int) else 64)=(n:Int):=by split<;>omega
 have hnl: ¬((n:Int)<(n:Int)):=by omega
 simp only[LW,bodyW, Tryz.f139,Option.getD_some]
 u_c stepG_seq (CK.rely hJ) hF
 u_c stepG_seq (CK.rely hJ) hF
 u_reg (CK.rely hJ) hF
 u_op (CK.rely hJ) hF
 u_opw (CK.rely hJ) hF [CK.frm hF] (Aside.refl _ _) (Je _ _ (by simp) (by simp) (by simp) (‹ShyD _ _ _›.own _ _ (by simp) (by simp<;>omega) (by simp)))
 u_op (CK.rely hJ) hF
 u_opw (CK.rely hJ) hF [CK.out hF] (Aside.refl _ _) (Je _ _ (by simp) (by simp) (by simp) (‹ShyD _ _ _›.own _ _ (by simp) (by simp<;>omega) (by simp)))
 u_op (CK.rely hJ) hF
 u_in (CK.rely hJ) hF
 rw[Qlp rfl rfl (by decide) rfl rfl rfl Qgr,show IntKind.i64.wrap 64=64 from rfl,hmin]
 simp only[goes_go]
 refine⟨by u_nil,?_⟩
 walk_nrm
 u_op (CK.rely hJ) hF
 u_c stepG_region_end (CK.rely hJ) hF
 u_cond false (CK.rely hJ) hF
 u_exit (CK.rely hJ) hF
 u_c stepG_end (CK.rely hJ) hF
 u_unwB (CK.rely hJ) hF Tryz.func140 (nm_done Tryz.link) Tryz.f140
 have hA:= @doneD _ Tryz.link Tryz.prog Tryz.wgLib (Mine N) (N+4) (N+2) (N+6) _ arr.toList (by omega) (by omega) (by omega)
 simp only[body_done,doneFn,Option.getD_some] at hA
 exact Goes.mono (hA rfl (QtA _) _ ⟨hF.k,hF.full hJ⟩) (by omega)
set_option maxRecDepth 100000 in
set_option maxHeartbeats 4000000 in
theorem Qxj(hJ:Job N A la B lb n arr xs ys){j f₁:Nat}(hj:j<n)(h₁: ∀(g:Goroutine) (w:World),Qd7 N (j+1) g→CK N A la ca B lb cb n arr xs ys (j+1) w→GC N arr f₁ g w):
 ∀(g:Goroutine) (w:World),Qd7 N j g→CK N A la ca B lb cb n arr xs ys j w→GC N arr (((f₁+15)+27)+25) g w:=by
 rintro g w ⟨T,rfl,hT,t0,t1,t2,t3,t4,t5⟩ hF
 obtain⟨v0,v1,v2,v3,v4,v5,v6,v7,v8,v9,v10,v11,v12,v13,v14,v15,v16,v17,v18,v19,v20,v21,v22,v23,v24,v25,v26,v27,v28,v29,v30,v31,v32,v33,v34,v35,v36,v37,v38,v39,rfl⟩:=Qfr T hT
 simp only[List.getElem?_toArray,List.getElem?_cons_succ,List.getElem?_cons_zero,Option.some.injEq] at t0 t1 t2 t3 t4 t5
 subst t0 t1 t2 t3 t4 t5
 have hle:=hJ.le
 have hmin:(if(n:Int)<64 then(n:Int) else 64)=(n:Int):=by split<;>omega
 have hlt:(j:Int)<(n:Int):=by omega
 simp only[LW,bodyW, Tryz.f139,Option.getD_some]
 u_c stepG_seq (CK.rely hJ) hF
 u_c stepG_seq (CK.rely hJ) hF
 u_reg (CK.rely hJ) hF
 u_op (CK.rely hJ) hF
 u_opw (CK.rely hJ) hF [CK.frm hF] (Aside.refl _ _) (Je _ _ (by simp) (by simp) (by simp) (‹ShyD _ _ _›.own _ _ (by simp) (by simp<;>omega) (by simp)))
 u_op (CK.rely hJ) hF
 u_opw (CK.rely hJ) hF [CK.out hF] (Aside.refl _ _) (Je _ _ (by simp) (by simp) (by simp) (‹ShyD _ _ _›.own _ _ (by simp) (by simp<;>omega) (by simp)))
 u_op (CK.rely hJ) hF
 u_in (CK.rely hJ) hF
 rw[Qlp rfl rfl (by decide) rfl rfl rfl Qgr,show IntKind.i64.wrap 64=64 from rfl,hmin]
 simp only[goes_go]
 refine⟨by u_nil,?_⟩
 walk_nrm
 u_op (CK.rely hJ) hF
 u_c stepG_region_end (CK.rely hJ) hF
 u_cond true (CK.rely hJ) hF
 u_c stepG_skip (CK.rely hJ) hF
 u_c stepG_seq (CK.rely hJ) hF
 u_c stepG_block (CK.rely hJ) hF
 refine Goes.mono (n:=(f₁+15)+27) ?_ (by omega)
 have hreg: ∀(w:World) (ds:List Deferred) (u6 u7 u8 u9 u10 u11 u12 u13 u14 u15 u16 u17 u18 u19 u20 u21 u22 u23 u24 u25 u26 u27 u28 u29 u30 u31 u32 u33 u34 u35 u36 u37 u38 u39:Value),CK N A la ca B lb cb n arr xs ys j w→_:=
  if hla:j<la then if hlb:j<lb then QtE hJ hj hla hlb else QtD hJ hj hla (by omega) else QtC hJ hj (by omega)
 simp only[R4,LW,bodyW, Tryz.f139,Option.getD_some] at hreg
 refine hreg _ _ _ _ _ _ _ _ _ _ _ _ _ _ _ _ _ _ _ _ _ _ _ _ _ _ _ _ _ _ _ _ _ _ _ _ hF bW _ [botW] _ (f₁+15) rfl (by decide) ?_
 rintro e ⟨T',ds⟩ w' ⟨rfl,rfl,hT',hget,hF⟩
 have t0:=hget 0 (by omega)
 have t1:=hget 1 (by omega)
 have t2:=hget 2 (by omega)
 have t3:=hget 3 (by omega)
 have t4:=hget 4 (by omega)
 have t5:=hget 5 (by omega)
 clear hget hreg
 dsimp only at hT' t0 t1 t2 t3 t4 t5
 obtain⟨u0,u1,u2,u3,u4,u5,u6,u7,u8,u9,u10,u11,u12,u13,u14,u15,u16,u17,u18,u19,u20,u21,u22,u23,u24,u25,u26,u27,u28,u29,u30,u31,u32,u33,u34,u35,u36,u37,u38,u39,rfl⟩:=Qfr T' hT'
 simp only[List.getElem?_toArray,List.getElem?_cons_succ,List.getElem?_cons_zero,Option.some.injEq] at t0 t1 t2 t3 t4 t5
 subst t0 t1 t2 t3 t4 t5
 have hi64:IntKind.i64.wrap ((j:Int)+1)=((j+1:Nat):Int):=by rw[IntKind.wrap_i64];omega
 simp only[After]
 u_c stepG_inBlock (CK.rely hJ) hF
 u_reg (CK.rely hJ) hF
 u_op (CK.rely hJ) hF
 u_op (CK.rely hJ) hF
 u_op (CK.rely hJ) hF
 u_c stepG_region_end (CK.rely hJ) hF
 u_c stepG_inLoop (CK.rely hJ) hF
 refine Goes.mono (h₁ _ _ ?_ hF) (by omega)
 exact⟨_,rfl,by simp,by simp,by simp,by simp,by simp,by simp,by simp⟩
theorem QlW(hJ:Job N A la B lb n arr xs ys): ∀(m j:Nat),j+m=n→∃f,∀(g:Goroutine) (w:World),Qd7 N j g→CK N A la ca B lb cb n arr xs ys j w→GC N arr f g w
 |0,j,hj=>by
  obtain rfl:j=n:=by omega
  exact⟨_,Qxi hJ⟩
 |m+1,j,hj=>by
  obtain⟨f₁,h₁⟩:=QlW hJ m (j+1) (by omega)
  exact⟨_,Qxj hJ (by omega) h₁⟩
theorem QmY(N:Nat)(w:World):stepG Tryz.prog false (born Tryz.prog (QcQ N)) w=
 .go (G (bW.at ⟨#[.pointer (some ⟨N+4,0,none⟩),.pointer (some ⟨N+5,0,none⟩),.pointer (some ⟨N+3,0,none⟩),.pointer (some ⟨N,0,none⟩),.pointer (some ⟨N+1,0,none⟩),undef,undef,undef,undef,undef,undef,undef,undef,undef,undef,undef,undef,undef,undef,undef,undef,undef,undef,undef,undef,undef,undef,undef,undef,undef,undef,undef,undef,undef,undef,undef,undef,undef,undef,undef],[]⟩ [.code bodyW]) [botW]) w #[]:=by
 simp[born,QcQ,stepG,unwind,callDeferred,invoke,callFunc, Tryz.func139, Tryz.f139,seen,GStep.after,G,Frame.enter,Frame.at,bW,baseD,botW,bodyW]
set_option maxRecDepth 100000 in
set_option maxHeartbeats 4000000 in
theorem Qxh(hJ:Job N A la B lb n arr xs ys)(w:World)(hF:CK N A la ca B lb cb n arr xs ys 0 w): ∃m,GC N arr m (born Tryz.prog (QcQ N)) w:=by
 obtain⟨f,hf⟩:=QlW (ca:=ca) (cb:=cb) hJ n 0 (by omega)
 refine⟨f+20,Goes.step rfl fun w₁ r₁=>?_⟩
 rw[QmY]
 refine⟨⟨Aside.refl _ _,by simp⟩,?_⟩
 replace hF:=CK.rely hJ hF r₁
 clear r₁
 simp only[bodyW, Tryz.f139,Option.getD_some]
 u_c stepG_seq (CK.rely hJ) hF
 u_reg (CK.rely hJ) hF
 u_defer (CK.rely hJ) hF
 u_c stepG_region_end (CK.rely hJ) hF
 u_c stepG_seq (CK.rely hJ) hF
 u_reg (CK.rely hJ) hF
 u_opw (CK.rely hJ) hF [CK.frm hF] (Aside.refl _ _) (Je _ _ (by simp) (by simp) (by simp) (‹ShyD _ _ _›.own _ _ (by simp) (by simp<;>omega) (by simp)))
 u_op (CK.rely hJ) hF
 u_c stepG_region_end (CK.rely hJ) hF
 u_c stepG_block (CK.rely hJ) hF
 u_c stepG_loop (CK.rely hJ) hF
 exact Goes.mono (hf _ _ ⟨_,rfl,by simp,by simp,by simp,by simp,by simp,by simp,by simp⟩ hF) (by omega)
end
end Go.Proofs.YtpmjcjoeckajgaaGreatDoor
/- The caller's side of one call of impl.differences: from its entry to the go statement. (Round C) -/
namespace Go.Proofs.YtpmjcjoeckajgaaGreatDoor
set_option linter.unusedSectionVars false
set_option linter.unusedSimpArgs false
open Go.Conc Go.ConcX Go.RowKit Go.Conc.Lib Go.ConcX.Gen
@[go_sem] theorem run_makeFunc' (P:Program) (fn:Fn) (first cap:Array Value) (w:World):(Instr.makeFunc fn first cap).run P w= .ok (.func fn first cap) w:=rfl
@[go_sem] theorem events_makeFunc' (P:Program) (fn:Fn) (first cap:Array Value) (w:World) (es:Array Event):(Instr.makeFunc fn first cap).events P w es=es:=rfl
@[go_sem] theorem events_store_slice (P:Program) (w:World) (es:Array Event) (a:Addr) (m:Mode) (b:Option Addr) (l c:Nat):(store a (.slice b l c) m).events P w es=storedEv P w es a (.slice b l c) m:=events_store P w es a _ m rfl
theorem Tryz.infoB:(Tryz.prog.info? 4).map (fun i=>(i.zero,i.size,i.bytes))=some (some (.bool false),1,1):=by kernel_rfl
noncomputable def bodyD:Code:= Tryz.f118.body.getD .skip
theorem nmD:(Tryz.f118.name == "runtime.NumGoroutine")=false:=by kernel_rfl
section
variable {P : Program} {main : Bool} {b : Frame} {a : Act} {kk : List Item} {cs : List Frame} {w : World} {ops : Array Oper} {i : Nat} {rest : List Nat} {o : Oper}
theorem Qo2(ρ:Operand→Value){ts:Array TypeId}{x y:Operand}(hop:o.op= .call ⟨.builtin .max,#[x,y],ts⟩):execOp ρ o=(do pure (.value (←Builtin.max_ ts o.type #[ρ x,ρ y]))):=by
 have e:(#[x,y].map ρ)= #[ρ x,ρ y]:=by simp
 unfold execOp
 rw[hop]
 show(do let d←resolve ρ ⟨.builtin .max,#[x,y],ts⟩ o.type;invoke d.target d.args:Sem Next)=_
 unfold resolve
 simp only[e]
 rfl
theorem Qlo{x y:Operand}{ts:Array TypeId}{p q:Int}(ho:ops[i]? =some o)(hw:Region.wanted o (yielded ops a.tmps)=true)(hk:b.kind≠ .early)(hop:o.op= .call ⟨.builtin .max,#[x,y],ts⟩)
 (hx:a.eval x= .int .i64 p)(hy:a.eval y= .int .i64 q)(hq:(P.funcs[b.fn]?).any (·.norace)=false):
 stepG P main (G (b.at a (.inRegion ops (i :: rest) :: kk)) cs) w= .go (G (b.at (a.put o.dst (.int .i64 (if q>p then q else p))) (.inRegion ops rest :: kk)) cs) w #[]:=by
 have h0:=Qo2 (o:=o) a.eval hop
 rw[hx,hy] at h0
 have hr:(execOp a.eval o).run P w= .ok (.value (.int .i64 (if q>p then q else p))) w:=by rw[h0];rfl
 have he:(execOp a.eval o).events P w #[]= #[]:=by rw[h0];rfl
 rw[stepG_value ho hw hk hr]
 unfold listed
 rw[he,seen_eq hq (by simp)]
end
theorem QjA:(Tryz.prog.funcs[(base 118).fn]?).any (·.norace)=false:=by kernel_rfl
section
variable (W : World) (A : Option Addr) (la ca : Nat) (B : Option Addr) (lb cb n : Nat)
def w6:World:=(((((W.alloc (.cells #[.slice A la ca] 31)).alloc (.cells #[.slice B lb cb] 31)).alloc (.cells (madeCells #[.bool false] n) 4)).alloc (.cells #[.slice (some ⟨W.heap.size+2,0,none⟩) n n] 150)).alloc (.cells #[.int .u64 0,.int .u32 0] 194)).alloc (.cells #[.int .i64 0] 3)
def w7:World:=(w6 W A la ca B lb cb n).setCell (stA (W.heap.size+4)) (.int .u64 KK)
theorem Qbw(x:Nat):(w6 W A la ca B lb cb n).heap[W.heap.size+x]? =(#[.cells #[.slice A la ca] 31,.cells #[.slice B lb cb] 31,.cells (madeCells #[.bool false] n) 4,.cells #[.slice (some ⟨W.heap.size+2,0,none⟩) n n] 150,.cells #[.int .u64 0,.int .u32 0] 194,.cells #[.int .i64 0] 3]:Array Obj)[x]? :=by
 have e:(w6 W A la ca B lb cb n).heap=W.heap++ #[.cells #[.slice A la ca] 31,.cells #[.slice B lb cb] 31,.cells (madeCells #[.bool false] n) 4,.cells #[.slice (some ⟨W.heap.size+2,0,none⟩) n n] 150,.cells #[.int .u64 0,.int .u32 0] 194,.cells #[.int .i64 0] 3]:=by
  apply Array.ext'
  show((((((W.heap.push _).push _).push _).push _).push _).push _).toList=_
  simp
 rw[e,Array.getElem?_append_right (by omega)]
 congr 1
 omega
theorem Qf6{b:Nat}(h:b<W.heap.size):(w6 W A la ca B lb cb n).heap[b]? =W.heap[b]? :=by
 unfold w6
 rw[Below.heap_alloc _ _ _ (by simp only[World.size_alloc];omega),Below.heap_alloc _ _ _ (by simp only[World.size_alloc];omega),Below.heap_alloc _ _ _ (by simp only[World.size_alloc];omega),Below.heap_alloc _ _ _ (by simp only[World.size_alloc];omega),Below.heap_alloc _ _ _ (by simp only[World.size_alloc];omega),Below.heap_alloc _ _ _ h]
theorem Qlh:(w6 W A la ca B lb cb n).heap.size=W.heap.size+6:=by simp[w6,World.size_alloc]
theorem as67:Aside (W.heap.size+4) (w6 W A la ca B lb cb n) (w7 W A la ca B lb cb n):=aside_setCell _ (stA (W.heap.size+4)) _
theorem wg6:WgAt 194 (W.heap.size+4) (w6 W A la ca B lb cb n) 0 0:=Qbw W A la ca B lb cb n 4
theorem wg7:WgAt 194 (W.heap.size+4) (w7 W A la ca B lb cb n) KK 0:=(wg6 W A la ca B lb cb n).setSt KK
theorem Qex(x:Nat)(hx:x≠4):(w7 W A la ca B lb cb n).heap[W.heap.size+x]? =(w6 W A la ca B lb cb n).heap[W.heap.size+x]? :=(as67 W A la ca B lb cb n).block _ (by omega)
theorem Qvp:(w7 W A la ca B lb cb n).heap.size=W.heap.size+6:=(as67 W A la ca B lb cb n).size.trans (Qlh W A la ca B lb cb n)
end
noncomputable def LD:Code:=match bodyD with| .seq _ (.seq _ (.seq _ (.seq (.seq _ (.block _ (.loop c))) _)))=>c|_=> .skip
noncomputable def ops7D:Array Oper:=match LD with| .seq _ (.seq (.block _ (.seq _ (.region _ ops _))) _)=>ops|_=>#[]
noncomputable def stepD:Code:=match LD with| .seq _ (.seq _ c)=>c|_=> .skip
noncomputable def tailD:Code:=match bodyD with| .seq _ (.seq _ (.seq _ (.seq _ c)))=>c|_=> .skip
noncomputable def gP (N:Nat) (A:Option Addr) (la ca:Nat) (B:Option Addr) (lb cb n:Nat) (v18 v19 v22 v23 v24:Value) (cs:List Frame):Goroutine:=
 G ((base 118).at ⟨#[.slice A la ca,.slice B lb cb,.pointer (some ⟨N,0,none⟩),.pointer (some ⟨N+1,0,none⟩),.slice none 0 0,.pointer (some ⟨N+3,0,none⟩),.pointer (some ⟨N+4,0,none⟩),.pointer (some ⟨N+5,0,none⟩),.slice A la ca,.int .i64 la,.slice B lb cb,.int .i64 lb,.int .i64 n,
   .slice (some ⟨N+2,0,none⟩) n n,.int .i64 0,.slice (some ⟨N+2,0,none⟩) n n,.int .i64 n,.bool true,v18,v19,.tuple #[],.func (.func 139) #[] #[.pointer (some ⟨N+4,0,none⟩),.pointer (some ⟨N+5,0,none⟩),.pointer (some ⟨N+3,0,none⟩),.pointer (some ⟨N,0,none⟩),.pointer (some ⟨N+1,0,none⟩)],v22,v23,v24],[]⟩
   [.inRegion ops7D [],.inBlock 1,.code stepD,.inLoop LD,.inBlock 0,.code tailD]) cs
noncomputable def gD (A:Option Addr) (la ca:Nat) (B:Option Addr) (lb cb:Nat) (v2 v3 v4 v5 v6 v7 v8 v9 v10 v11 v12 v13 v14 v15 v16 v17 v18 v19 v20 v21 v22 v23 v24:Value) (cs:List Frame):Goroutine:=G ((base 118).at ⟨#[.slice A la ca,.slice B lb cb,v2,v3,v4,v5,v6,v7,v8,v9,v10,v11,v12,v13,v14,v15,v16,v17,v18,v19,v20,v21,v22,v23,v24],[]⟩ [.code bodyD]) cs
section
variable {W : World} {A B : Option Addr} [Shy (W.heap.size + 4) (W.heap.size + 2)] [ShyD W.heap.size A B] {la ca lb cb n : Nat} {arr : Array Value} {xs ys : Nat → Int} {cs : List Frame}
theorem ck7(hJ:Job W.heap.size A la B lb n arr xs ys)(ha: ∀i ad,i<la→i<lb→A=some ad→W.cell? (ad.add i)=some (.int .i64 (xs i)))(hb: ∀i ad,i<la→i<lb→B=some ad→W.cell? (ad.add i)=some (.int .i64 (ys i)))(d:Nat):
 CK W.heap.size A la ca B lb cb n arr xs ys 0 ((w7 W A la ca B lb cb n).at d):=by
 have h: ∀x,x≠4→((w7 W A la ca B lb cb n).at d).heap[W.heap.size+x]? =_:=fun x hx=>(Qex W A la ca B lb cb n x hx).trans (Qbw W A la ca B lb cb n x)
 have hlo: ∀(a:Addr) v,a.block<W.heap.size→W.cell? a=some v→((w7 W A la ca B lb cb n).at d).cell? a=some v:=fun a v hlt hv=>
  (World.cell?_of_block (((as67 W A la ca B lb cb n).block a.block (by omega)).trans (Qf6 W A la ca B lb cb n hlt))).trans hv
 refine⟨?_,?_,?_,?_,fun i ad h1 h2 e=>?_,fun i ad h1 h2 e=>?_,.inl (wg7 W A la ca B lb cb n),madeCells #[.bool false] n,h 2 (by omega),size_madeCells _ _,fun i hi=>absurd hi (Nat.not_lt_zero _)⟩
 ·unfold World.cell?
  rw[show W.heap.size=W.heap.size+0 from rfl,h 0 (by omega)]
  rfl
 ·unfold World.cell?
  rw[h 1 (by omega)]
  rfl
 ·unfold World.cell?
  rw[h 3 (by omega)]
  rfl
 ·unfold World.cell?
  rw[h 5 (by omega)]
  rfl
 ·obtain⟨ad',e',hlt⟩:=hJ.a i h1 h2
  obtain rfl:=Option.some.inj (e.symm.trans e')
  exact hlo _ _ (by rw[add_block];exact hlt) (ha i ad h1 h2 e)
 ·obtain⟨ad',e',hlt⟩:=hJ.b i h1 h2
  obtain rfl:=Option.some.inj (e.symm.trans e')
  exact hlo _ _ (by rw[add_block];exact hlt) (hb i ad h1 h2 e)
set_option maxRecDepth 100000 in
set_option maxHeartbeats 4000000 in
theorem Qpi(AnW:Goroutine→World→Prop)(hJ:Job W.heap.size A la B lb n arr xs ys)(hn:0<n)(ha: ∀i ad,i<la→i<lb→A=some ad→W.cell? (ad.add i)=some (.int .i64 (xs i)))(hb: ∀i ad,i<la→i<lb→B=some ad→W.cell? (ad.add i)=some (.int .i64 (ys i)))(v2 v3 v4 v5 v6 v7 v8 v9 v10 v11 v12 v13 v14 v15 v16 v17 v18 v19 v20 v21 v22 v23 v24:Value)
 (hCS: ∀w,Aside2 (W.heap.size+2) (W.heap.size+4) (w7 W A la ca B lb cb n) w∧KPa 194 (W.heap.size+4) (W.heap.size+2) arr.toList w→
   ∃k,Goes Tryz.prog true (RPa 194 (W.heap.size+4) (W.heap.size+2) arr.toList) (DPi (Mine W.heap.size) (W.heap.size+4) (W.heap.size+2) (W.heap.size+6)) (AtKd Tryz.prog 194 (W.heap.size+4) (W.heap.size+2) (W.heap.size+6) arr.toList (Mine W.heap.size) AnW) k (gP W.heap.size A la ca B lb cb n v18 v19 v22 v23 v24 cs) w):
 LoneR Tryz.prog 194 (W.heap.size+4) (W.heap.size+2) (W.heap.size+6) arr.toList (Mine W.heap.size) AnW (gD A la ca B lb cb v2 v3 v4 v5 v6 v7 v8 v9 v10 v11 v12 v13 v14 v15 v16 v17 v18 v19 v20 v21 v22 v23 v24 cs) W:=by
 refine⟨44+12,?_⟩
 have hn':(0:Int)<(n:Int):=by omega
 have hle:=hJ.le
 have hmax:=hJ.max
 have hmx:(if(lb:Int)> (la:Int) then(lb:Int) else la)=(n:Int):=by split<;>omega
 clear hmax
 obtain⟨i0,hi,hz0,hz1,hz2⟩:=info_parts Tryz.infoB
 have hmk:=fun w=>run_make (P:= Tryz.prog) w 150 4 i0 (.bool false) Tryz.underlying150 hi hz0 .i64 .i64 n n (by omega) (by omega) (by rw[hz2];omega) (by omega)
 have hme:=fun w es=>events_make (P:= Tryz.prog) w 150 4 i0 (.bool false) Tryz.underlying150 hi hz0 .i64 .i64 n n (by omega) (by omega) (by rw[hz2];omega) (by omega) (by rw[hz2];simp;omega) es
 have hA:= @addPos Tryz.link (W.heap.size+4) (W.heap.size+2)
 simp only[gD,bodyD,body_add, Tryz.f118,addFn,Option.getD_some] at hA⊢
 l_c stepG_seq
 l_reg
 l_opw (‹ShyD _ _ _›.own _ _ (by simp<;>omega) (by simp<;>omega) (by simp<;>omega))
 l_opw (‹ShyD _ _ _›.own _ _ (by simp<;>omega) (by simp<;>omega) (by simp<;>omega))
 l_op
 l_c stepG_region_end
 l_c stepG_seq
 l_reg
 l_opw (‹ShyD _ _ _›.own _ _ (by simp<;>omega) (by simp<;>omega) (by simp<;>omega))
 l_op
 l_opw (‹ShyD _ _ _›.own _ _ (by simp<;>omega) (by simp<;>omega) (by simp<;>omega))
 l_op
 l_in
 rw[Qlo rfl rfl (by decide) rfl rfl rfl QjA,hmx]
 simp only[goes_go]
 refine⟨by u_nil,?_⟩
 walk_nrm
 l_opw (‹ShyD _ _ _›.own _ _ (by simp<;>omega) (by simp<;>omega) (by simp<;>omega))
 l_opw (‹ShyD _ _ _›.own _ _ (by simp<;>omega) (by simp<;>omega) (by simp<;>omega))
 l_opw (‹ShyD _ _ _›.own _ _ (by simp<;>omega) (by simp<;>omega) (by simp<;>omega))
 l_c stepG_region_end
 l_c stepG_seq
 l_reg
 l_opw (‹ShyD _ _ _›.own _ _ (by simp<;>omega) (by simp<;>omega) (by simp<;>omega))
 l_c stepG_region_end
 l_c stepG_seq
 l_c stepG_seq
 l_reg
 l_opw (‹ShyD _ _ _›.own _ _ (by simp<;>omega) (by simp<;>omega) (by simp<;>omega))
 l_opw (‹ShyD _ _ _›.own _ _ (by simp<;>omega) (by simp<;>omega) (by simp<;>omega))
 l_c stepG_region_end
 l_c stepG_block
 l_c stepG_loop
 l_c stepG_seq
 l_c stepG_seq
 l_reg
 l_opw (‹ShyD _ _ _›.own _ _ (by simp<;>omega) (by simp<;>omega) (by simp<;>omega))
 l_opw (‹ShyD _ _ _›.own _ _ (by simp<;>omega) (by simp<;>omega) (by simp<;>omega))
 l_op
 l_op
 l_c stepG_region_end
 l_cond true
 l_c stepG_skip
 l_c stepG_seq
 l_c stepG_block
 l_c stepG_seq
 l_reg
 l_in
 refine goes_call rfl rfl (by decide) rfl Tryz.func138 (nm_add Tryz.link) rfl ⟨by u_nil,?_⟩
 walk_nrmf Tryz.f138
 refine hA (mT:=6) Tryz.wgLib _ (show WgAt 194 (W.heap.size+4) (World.at (w6 W A la ca B lb cb n) _) 0 0 from wg6 W A la ca B lb cb n) ?_
 clear hA hmk hme
 walk_nrm
 l_c stepG_region_end
 l_reg
 l_opw (‹ShyD _ _ _›.own _ _ (by simp<;>omega) (by simp<;>omega) (by simp<;>omega))
 refine Goes.stop (fun w₁ h₁=>?_)
 obtain⟨d,hd⟩:=h₁
 subst hd
 simp only[alloc_at,setCell_at,at_at]
 have hwg:WgAt 194 (W.heap.size+4) ((w7 W A la ca B lb cb n).at d) KK 0:=wg7 W A la ca B lb cb n
 refine⟨rfl,gP W.heap.size A la ca B lb cb n v18 v19 v22 v23 v24 cs,born Tryz.prog (QcQ W.heap.size),(w7 W A la ca B lb cb n).at d,#[],?_,by simp,hwg,(fun e=>by cases e),
  hCS _ ⟨⟨rfl,rfl,rfl,rfl,fun _ _ _=>rfl⟩,.inl hwg⟩,Qxh hJ _ (ck7 hJ ha hb d)⟩
 simp only[gP,ops7D,stepD,tailD,LD,bodyD, Tryz.f118,Option.getD_some]
 rw[stepG_spawn (d:=QcQ W.heap.size) (w':=(w7 W A la ca B lb cb n).at d) (f:= .func 139) (c:=#[.pointer (some ⟨W.heap.size+4,0,none⟩),.pointer (some ⟨W.heap.size+5,0,none⟩),.pointer (some ⟨W.heap.size+3,0,none⟩),.pointer (some ⟨W.heap.size,0,none⟩),.pointer (some ⟨W.heap.size+1,0,none⟩)]) rfl rfl (by decide) (by simp[go_sem,QcQ,Deferred.ofValue,w7,w6,alloc_at,setCell_at]) rfl]
 simp[listed,go_sem,seen,Deferred.ofValue]
 rfl
end
end Go.Proofs.YtpmjcjoeckajgaaGreatDoor
/- The caller's side of one call of impl.differences: behind the go statement. (Round C) -/
namespace Go.Proofs.YtpmjcjoeckajgaaGreatDoor
set_option linter.unusedSectionVars false
set_option linter.unusedSimpArgs false
open Go.Conc Go.ConcX Go.RowKit Go.Conc.Lib Go.ConcX.Gen
section
variable (W : World) (A : Option Addr) (la ca : Nat) (B : Option Addr) (lb cb n : Nat)
def F0(w:World):Prop:=Aside2 (W.heap.size+2) (W.heap.size+4) (w7 W A la ca B lb cb n) w
structure F1(z:Int)(w:World):Prop where
 tape:w.tape=W.tape
 os:w.os=W.os
 output:w.output=W.output
 size:w.heap.size=W.heap.size+7
 low: ∀k,k<W.heap.size+6→k≠W.heap.size+2→k≠W.heap.size+4→w.heap[k]? =(w7 W A la ca B lb cb n).heap[k]?
 cnt:w.heap[W.heap.size+6]? =some (.cells #[.int .i64 z] 3)
end
section
variable {W : World} {A B : Option Addr} [Shy (W.heap.size + 4) (W.heap.size + 2)] {la ca lb cb n : Nat} {z : Int} {w w₁ : World}
theorem Qa1: ∀w w',Aside2 (W.heap.size+2) (W.heap.size+4) w w'→F0 W A la ca B lb cb n w→F0 W A la ca B lb cb n w':=fun _ _ h1 h2=>Aside2.trans h2 h1
theorem Zs: ∀w w',Aside2 (W.heap.size+2) (W.heap.size+4) w w'→F1 W A la ca B lb cb n z w→F1 W A la ca B lb cb n z w':=fun _ _ h1 h2=>
 ⟨h1.tape.trans h2.tape,h1.os.trans h2.os,h1.output.trans h2.output,h1.size.trans h2.size,fun k a b c=>(h1.block k b c).trans (h2.low k a b c),(h1.block _ (by omega) (by omega)).trans h2.cnt⟩
theorem F0.size(h:F0 W A la ca B lb cb n w):w.heap.size=W.heap.size+6:=(show Aside2 _ _ _ _ from h).size.trans (Qvp W A la ca B lb cb n)
theorem F0.frm(h:F0 W A la ca B lb cb n w):w.cell? ⟨W.heap.size+5,0,none⟩=some (.int .i64 0):=by
 unfold World.cell?
 rw[(show Aside2 _ _ _ _ from h).block (W.heap.size+5) (by omega) (by omega),Qex W A la ca B lb cb n 5 (by omega),Qbw]
 rfl
theorem F0.alloc(h:F0 W A la ca B lb cb n w):F1 W A la ca B lb cb n 0 (w.alloc (.cells #[.int .i64 0] 3)):=by
 have h':Aside2 _ _ _ _:=h
 have hs:=h.size
 refine⟨h'.tape,h'.os,h'.output,by simp[World.size_alloc,hs],fun k a b c=>?_,?_⟩
 ·rw[Below.heap_alloc _ _ _ (by omega)]
  exact h'.block k b c
 ·have:=heap_alloc_new w (.cells #[.int .i64 0] 3)
  rw[hs] at this
  exact this
theorem F1.cntc(h:F1 W A la ca B lb cb n z w):w.cell? ⟨W.heap.size+6,0,none⟩=some (.int .i64 z):=by
 unfold World.cell?
 rw[h.cnt]
 rfl
theorem F1.out(h:F1 W A la ca B lb cb n z w):w.cell? ⟨W.heap.size+3,0,none⟩=some (.slice (some ⟨W.heap.size+2,0,none⟩) n n):=by
 unfold World.cell?
 rw[h.low (W.heap.size+3) (by omega) (by omega) (by omega),Qex W A la ca B lb cb n 3 (by omega),Qbw]
 rfl
theorem F1.thaw(h:F1 W A la ca B lb cb n z w):w.frozen? ⟨W.heap.size+6,0,none⟩=false:=by
 unfold World.frozen?
 rw[h.cnt]
 rfl
theorem F1.set(h:F1 W A la ca B lb cb n z w)(z':Int):F1 W A la ca B lb cb n z' (w.setCell ⟨W.heap.size+6,0,none⟩ (.int .i64 z')):=by
 have hA:=aside_setCell w ⟨W.heap.size+6,0,none⟩ (.int .i64 z')
 refine⟨hA.tape.trans h.tape,hA.os.trans h.os,hA.output.trans h.output,hA.size.trans h.size,fun k a b c=>(hA.block k (by simp;omega)).trans (h.low k a b c),?_⟩
 rw[setCell_eq_setRow w (W.heap.size+6) 0 _ 3 (0,0) _ h.cnt,setRow_heap w (W.heap.size+6) _ _ 3 _ h.cnt]
 rfl
end
section
variable {W : World} {A B : Option Addr} [Shy (W.heap.size + 4) (W.heap.size + 2)] [ShyD W.heap.size A B] {la ca lb cb n : Nat} {z : Int} {w w₁ : World} {vals : List Value}
theorem QqA(o:Obj)(hs:W.heap.size+6≤w.heap.size)(h:KPa 194 (W.heap.size+4) (W.heap.size+2) vals w):KPa 194 (W.heap.size+4) (W.heap.size+2) vals (w.alloc o):=
 h.imp (fun x=>x.of_block (Below.heap_alloc _ _ _ (by omega))) fun x=>⟨x.1.of_block (Below.heap_alloc _ _ _ (by omega)),ChanAt.of_block x.2 (Below.heap_alloc _ _ _ (by omega))⟩
theorem QqB(v:Value)(h:KPa 194 (W.heap.size+4) (W.heap.size+2) vals w):KPa 194 (W.heap.size+4) (W.heap.size+2) vals (w.setCell ⟨W.heap.size+6,0,none⟩ v):=
 have hA:=aside_setCell w ⟨W.heap.size+6,0,none⟩ v
 h.imp (fun x=>x.of_block (hA.block _ (by simp))) fun x=>⟨x.1.of_block (hA.block _ (by simp)),ChanAt.of_block x.2 (hA.block _ (by simp))⟩
theorem QcV(a:Addr)(wr:Bool)(hr:wr=false∨W.heap.size+6≤a.block)(hw:a.block≠W.heap.size+4)(h':a.block≠W.heap.size+2)(hk:Shy.ok (W.heap.size+4) (W.heap.size+2) (.access ⟨.cell a,wr,false⟩)):EvQ (Mine W.heap.size) (W.heap.size+4) (W.heap.size+2) 0 ⟨.cell a,wr,false⟩:=by
 refine⟨fun fn pos=>⟨rfl,fun x hx=>?_,by rw[ofEvent_cell];simp,by rw[ofEvent_cell];exact hk⟩,by simp,by simp,by simp⟩
 simp only[ofEvent_cell,MemAct.touch?,Option.some.injEq] at hx
 subst hx
 refine⟨?_,fun hs=>?_,fun⟨y,hy,hyb,_⟩=>?_⟩
 ·exact .inr (.inl ⟨rfl,fun e=>⟨a,rfl,hr.resolve_left (fun hf=>by subst hf;cases e)⟩⟩)
 ·rcases hs with⟨y,hy,hyb⟩|hs
  ·cases hy;omega
  ·cases hs
 ·cases hy;exact absurd hyb h'
theorem Qo8(h:F0 W A la ca B lb cb n w∧KPa 194 (W.heap.size+4) (W.heap.size+2) vals w):F1 W A la ca B lb cb n 0 (w.alloc (.cells #[.int .i64 0] 3))∧KPa 194 (W.heap.size+4) (W.heap.size+2) vals (w.alloc (.cells #[.int .i64 0] 3)):=
 ⟨h.1.alloc,QqA _ (by have:=F0.size h.1;omega) h.2⟩
theorem Qib(z':Int)(h:F1 W A la ca B lb cb n z w∧KPa 194 (W.heap.size+4) (W.heap.size+2) vals w):F1 W A la ca B lb cb n z' (w.setCell ⟨W.heap.size+6,0,none⟩ (.int .i64 z'))∧KPa 194 (W.heap.size+4) (W.heap.size+2) vals (w.setCell ⟨W.heap.size+6,0,none⟩ (.int .i64 z')):=
 ⟨h.1.set z',QqB _ h.2⟩
noncomputable def ops10D:Array Oper:=match tailD with| .seq (.region _ ops _) _=>ops|_=>#[]
noncomputable def tail11D:Code:=match tailD with| .seq _ r=>r|_=> .skip
def T9(N:Nat)(A:Option Addr)(la ca:Nat)(B:Option Addr)(lb cb n:Nat)(v23 v24:Value):Array Value:=#[.slice A la ca,.slice B lb cb,.pointer (some ⟨N,0,none⟩),.pointer (some ⟨N+1,0,none⟩),.slice none 0 0,.pointer (some ⟨N+3,0,none⟩),.pointer (some ⟨N+4,0,none⟩),.pointer (some ⟨N+6,0,none⟩),.slice A la ca,.int .i64 la,.slice B lb cb,.int .i64 lb,.int .i64 n,
    .slice (some ⟨N+2,0,none⟩) n n,.int .i64 64,.slice (some ⟨N+2,0,none⟩) n n,.int .i64 n,.bool false,.int .i64 0,.int .i64 64,.tuple #[],.func (.func 139) #[] #[.pointer (some ⟨N+4,0,none⟩),.pointer (some ⟨N+5,0,none⟩),.pointer (some ⟨N+3,0,none⟩),.pointer (some ⟨N,0,none⟩),.pointer (some ⟨N+1,0,none⟩)],.int .i64 0,v23,v24]
noncomputable def cW (N:Nat) (A:Option Addr) (la ca:Nat) (B:Option Addr) (lb cb n:Nat) (v23 v24:Value):Frame:=(base 118).at ⟨T9 N A la ca B lb cb n v23 v24,[]⟩ (.inRegion ops10D (0 :: []) :: [.code tail11D])
abbrev AnW(W:World) [Shy (W.heap.size+4) (W.heap.size+2)](A:Option Addr)(la ca:Nat)(B:Option Addr)(lb cb n:Nat)(arr:Array Value)(v23 v24:Value)(cs:List Frame):Goroutine→World→Prop:=
 AnchW7 Tryz.link (F1 W A la ca B lb cb n 64) (W.heap.size+4) (W.heap.size+2) arr.toList (cW W.heap.size A la ca B lb cb n v23 v24) cs
set_option maxRecDepth 100000 in
set_option maxHeartbeats 4000000 in
theorem Qm9{arr:Array Value}{cs:List Frame}(hle:n≤64)(v18 v19 v22 v23 v24:Value)(w:World)(hF:F0 W A la ca B lb cb n w∧KPa 194 (W.heap.size+4) (W.heap.size+2) arr.toList w):
 ∃k,Goes Tryz.prog true (RPa 194 (W.heap.size+4) (W.heap.size+2) arr.toList) (DPi (Mine W.heap.size) (W.heap.size+4) (W.heap.size+2) (W.heap.size+6)) (AtKd Tryz.prog 194 (W.heap.size+4) (W.heap.size+2) (W.heap.size+6) arr.toList (Mine W.heap.size) (AnW W A la ca B lb cb n arr v23 v24 cs)) k
  (gP W.heap.size A la ca B lb cb n v18 v19 v22 v23 v24 cs) w:=by
 refine⟨40,?_⟩
 have hnl: ¬((64:Int)<(n:Int)):=by omega
 simp only[gP,ops7D,stepD,tailD,LD,bodyD, Tryz.f118,Option.getD_some]
 u_c stepG_region_end (fa_rely (L:= Tryz.link) Qa1) hF
 u_c stepG_inBlock (fa_rely (L:= Tryz.link) Qa1) hF
 u_c stepG_seq (fa_rely (L:= Tryz.link) Qa1) hF
 u_c stepG_seq (fa_rely (L:= Tryz.link) Qa1) hF
 u_reg (fa_rely (L:= Tryz.link) Qa1) hF
 u_opw (fa_rely (L:= Tryz.link) Qa1) hF [F0.frm (And.left hF)] (fun _ _=>rfl) (QcV _ _ (.inl rfl) (by simp) (by simp) (‹ShyD _ _ _›.own _ _ (by simp) (by simp) (by simp)))
 u_c stepG_region_end (fa_rely (L:= Tryz.link) Qa1) hF
 u_reg (fa_rely (L:= Tryz.link) Qa1) hF
 have key:=0
 u_in (fa_rely (L:= Tryz.link) Qa1) hF
 have hsz:=F0.size hF.1
 refine goes_oper_k rfl rfl (by decide) (fun K hK=>?_)
 go_simp
 refine hK _ _ ⟨⟨fun b hb=>Below.heap_alloc _ _ _ (by omega),fun e he=>?_⟩,?_⟩
 ·have hm:=mem_listed he
  simp[go_sem, *] at hm
 clear hK K
 replace hF:=Qo8 hF
 clear hsz
 try walk_nrm
 u_opw (fa_rely (L:= Tryz.link) Zs) hF [F1.cntc (And.left hF),F1.thaw (And.left hF)] (fun b hb=>(aside_setCell _ _ _).block b (by simp;omega)) (QcV _ _ (.inr (by simp)) (by simp) (by simp) (‹ShyD _ _ _›.own _ _ (by simp) (by simp) (by simp)))
 replace hF:=Qib 0 hF
 u_c stepG_region_end (fa_rely (L:= Tryz.link) Zs) hF
 u_reg (fa_rely (L:= Tryz.link) Zs) hF
 u_opw (fa_rely (L:= Tryz.link) Zs) hF [F1.cntc (And.left hF)] (fun _ _=>rfl) (QcV _ _ (.inl rfl) (by simp) (by simp) (‹ShyD _ _ _›.own _ _ (by simp) (by simp) (by simp)))
 u_op (fa_rely (L:= Tryz.link) Zs) hF
 u_opw (fa_rely (L:= Tryz.link) Zs) hF [F1.cntc (And.left hF),F1.thaw (And.left hF)] (fun b hb=>(aside_setCell _ _ _).block b (by simp;omega)) (QcV _ _ (.inr (by simp)) (by simp) (by simp) (‹ShyD _ _ _›.own _ _ (by simp) (by simp) (by simp)))
 rw[show IntKind.i64.wrap 64=64 from rfl]
 replace hF:=Qib 64 hF
 u_c stepG_region_end (fa_rely (L:= Tryz.link) Zs) hF
 u_c stepG_inLoop (fa_rely (L:= Tryz.link) Zs) hF
 u_c stepG_seq (fa_rely (L:= Tryz.link) Zs) hF
 u_c stepG_seq (fa_rely (L:= Tryz.link) Zs) hF
 u_reg (fa_rely (L:= Tryz.link) Zs) hF
 u_opw (fa_rely (L:= Tryz.link) Zs) hF [F1.cntc (And.left hF)] (fun _ _=>rfl) (QcV _ _ (.inl rfl) (by simp) (by simp) (‹ShyD _ _ _›.own _ _ (by simp) (by simp) (by simp)))
 u_opw (fa_rely (L:= Tryz.link) Zs) hF [F1.out (And.left hF)] (fun _ _=>rfl) (QcV _ _ (.inl rfl) (by simp) (by simp) (‹ShyD _ _ _›.own _ _ (by simp) (by simp) (by simp)))
 u_op (fa_rely (L:= Tryz.link) Zs) hF
 u_op (fa_rely (L:= Tryz.link) Zs) hF
 u_c stepG_region_end (fa_rely (L:= Tryz.link) Zs) hF
 u_cond false (fa_rely (L:= Tryz.link) Zs) hF
 u_exit (fa_rely (L:= Tryz.link) Zs) hF
 u_c stepG_seq (fa_rely (L:= Tryz.link) Zs) hF
 u_reg (fa_rely (L:= Tryz.link) Zs) hF
 u_in (fa_rely (L:= Tryz.link) Zs) hF
 refine goes_call rfl rfl (by decide) rfl Tryz.func141 (nm_wait Tryz.link) rfl ⟨by u_nil,?_⟩
 walk_nrmf Tryz.f141
 have hA:=waitStart (L:= Tryz.link) (P:= Tryz.prog) Tryz.wgLib (Mine:=Mine W.heap.size) (Wg:=W.heap.size+4) (C:=W.heap.size+2) (Low:=W.heap.size+6) (vals:=arr.toList) (F:=F1 W A la ca B lb cb n 64) (b₀:=base 118) (a₀:=⟨T9 W.heap.size A la ca B lb cb n v23 v24,[]⟩) (ops₀:=ops10D) (i₀:=0) (rest₀:=[]) (k₀:=[.code tail11D]) (cs:=cs) Zs
 simp only[AnW,cW,T9,ops10D,tail11D,tailD,bodyD,body_wait, Tryz.f118,waitFn,Option.getD_some] at hA⊢
 exact Goes.mono (hA _ hF) (by omega)
end
end Go.Proofs.YtpmjcjoeckajgaaGreatDoor
/- The caller's side of one call of impl.differences: from the join to the return; THE PHASE. (Round C) -/
namespace Go.Proofs.YtpmjcjoeckajgaaGreatDoor
set_option linter.unusedSectionVars false
set_option linter.unusedSimpArgs false
open Go.Conc Go.ConcX Go.RowKit Go.Conc.Lib Go.ConcX.Gen
def gRet(N:Nat)(A:Option Addr)(la ca:Nat)(B:Option Addr)(lb cb n:Nat)(cs:List Frame):Goroutine:=G { (base 118).at ⟨#[.slice A la ca,.slice B lb cb,.pointer (some ⟨N,0,none⟩),.pointer (some ⟨N+1,0,none⟩),.slice (some ⟨N+2,0,none⟩) n n,.pointer (some ⟨N+3,0,none⟩),.pointer (some ⟨N+4,0,none⟩),.pointer (some ⟨N+6,0,none⟩),.slice A la ca,.int .i64 la,.slice B lb cb,.int .i64 lb,.int .i64 n,
    .slice (some ⟨N+2,0,none⟩) n n,.int .i64 64,.slice (some ⟨N+2,0,none⟩) n n,.int .i64 n,.bool false,.int .i64 0,.int .i64 64,.tuple #[],.func (.func 139) #[] #[.pointer (some ⟨N+4,0,none⟩),.pointer (some ⟨N+5,0,none⟩),.pointer (some ⟨N+3,0,none⟩),.pointer (some ⟨N,0,none⟩),.pointer (some ⟨N+1,0,none⟩)],.int .i64 0,.tuple #[],.slice (some ⟨N+2,0,none⟩) n n],[]⟩ [.code .ret] with mode:= .returning} cs
section
variable {W : World} {A B : Option Addr} [Shy (W.heap.size + 4) (W.heap.size + 2)] [ShyD W.heap.size A B] {la ca lb cb n : Nat} {arr : Array Value} {xs ys : Nat → Int} {cs : List Frame} {z : Int} {w w₁ : World}
theorem Qh9(a:Addr)(h:a.block≠W.heap.size+4)(h':a.block≠W.heap.size+2)(hk:Shy.ok (W.heap.size+4) (W.heap.size+2) (.access ⟨.cell a,false,false⟩)):EvJ (Mine W.heap.size) (W.heap.size+4) (W.heap.size+2) ⟨.cell a,false,false⟩:=by
 refine⟨fun fn pos=>⟨rfl,fun x hx=>?_,by rw[ofEvent_cell];simp,by rw[ofEvent_cell];exact hk⟩,by simp,by simp⟩
 simp only[ofEvent_cell,MemAct.touch?,Option.some.injEq] at hx
 subst hx
 refine⟨.inr (.inl ⟨rfl,fun e=>by cases e⟩),fun hs=>?_,fun⟨y,hy,hyb,_⟩=>?_⟩
 ·rcases hs with⟨y,hy,hyb⟩|hs
  ·cases hy;exact absurd hyb h
  ·cases hs
 ·cases hy;exact absurd hyb h'
set_option maxRecDepth 100000 in
theorem QmA(v23 v24:Value)(hstop: ∀w,F1 W A la ca B lb cb n 64 w→WgAt 194 (W.heap.size+4) w 0 0→Full (W.heap.size+2) arr.toList w→Shy.stop (W.heap.size+4) (W.heap.size+2) (gRet W.heap.size A la ca B lb cb n cs) w)(w:World)(h1:F1 W A la ca B lb cb n 64 w)(h2:WgAt 194 (W.heap.size+4) w 0 0)(h3:Full (W.heap.size+2) arr.toList w):
 Goes Tryz.prog true AtRel (DPj (Mine W.heap.size) (W.heap.size+4) (W.heap.size+2) (W.heap.size+6)) (AtRetJ Tryz.prog (W.heap.size+4) (W.heap.size+2) (Mine W.heap.size) (fun _ _=>True)) 8 (G ((base 118).at ((⟨T9 W.heap.size A la ca B lb cb n v23 v24,[]⟩:Act).put ((ops10D[0]?).bind (·.dst)) (.tuple #[])) (.inRegion ops10D [] :: [.code tail11D])) cs) w:=by
 have hF:F1 W A la ca B lb cb n 64 w∧WgAt 194 (W.heap.size+4) w 0 0∧Full (W.heap.size+2) arr.toList w:=⟨h1,h2,h3⟩
 simp only[T9,ops10D,tail11D,tailD,bodyD, Tryz.f118,Option.getD_some]
 walk_nrm
 u_c stepG_region_end (fj_rely (L:= Tryz.link) Zs) hF
 u_c stepG_seq (fj_rely (L:= Tryz.link) Zs) hF
 u_reg (fj_rely (L:= Tryz.link) Zs) hF
 u_opw (fj_rely (L:= Tryz.link) Zs) hF [F1.out (And.left hF)] (fun _ _=>rfl) (Qh9 _ (by simp) (by simp) (‹ShyD _ _ _›.own _ _ (by simp) (by simp) (by simp)))
 u_op (fj_rely (L:= Tryz.link) Zs) hF
 u_c stepG_region_end (fj_rely (L:= Tryz.link) Zs) hF
 u_c stepG_ret' (fj_rely (L:= Tryz.link) Zs) hF
 exact Goes.stop (fun w₂ r₂=>⟨rfl,have h:=fj_rely (L:= Tryz.link) Zs hF r₂;hstop _ h.1 h.2.1 h.2.2⟩)
theorem Qor{Shun:Loc→Prop}{B₀ B':Nat}{t₀:Trace}(hok: ∀act,Shy.ok (W.heap.size+4) (W.heap.size+2) act→okF Shun B' (W.heap.size+4) act)(hB:B₀≤B')
 (hstop: ∀w,F1 W A la ca B lb cb n 64 w→WgAt 194 (W.heap.size+4) w 0 0→Full (W.heap.size+2) arr.toList w→Shy.stop (W.heap.size+4) (W.heap.size+2) (gRet W.heap.size A la ca B lb cb n cs) w)
 (hJ:Job W.heap.size A la B lb n arr xs ys)(hn:0<n)(ha: ∀i ad,i<la→i<lb→A=some ad→W.cell? (ad.add i)=some (.int .i64 (xs i)))(hb: ∀i ad,i<la→i<lb→B=some ad→W.cell? (ad.add i)=some (.int .i64 (ys i)))(v2 v3 v4 v5 v6 v7 v8 v9 v10 v11 v12 v13 v14 v15 v16 v17 v18 v19 v20 v21 v22 v23 v24:Value)
 {gs:Array Goroutine}{sl:Option (Nat×Nat)}{q:Nat→Nat}(h0:gs[0]? =some (gD A la ca B lb cb v2 v3 v4 v5 v6 v7 v8 v9 v10 v11 v12 v13 v14 v15 v16 v17 v18 v19 v20 v21 v22 v23 v24 cs))(hL:Leavers Tryz.prog t₀ gs q)(hP:Past Shun B₀ t₀):
 ∃(N:Nat) (gs':Array Goroutine) (a':Goroutine) (w':World) (sl':Option (Nat×Nat)) (T':Trace) (q':Nat→Nat),runNT Tryz.prog N (crowd gs W sl) t₀=(.next (crowd gs' w' sl'),T')∧gs'.size=gs.size+1∧gs'[0]? =some a'∧
  a'.status= .running∧Shy.stop (W.heap.size+4) (W.heap.size+2) a' w'∧Leavers Tryz.prog T' gs' q'∧Past (fun l=>Shun l∨OfWg (W.heap.size+4) l) B' T':=
 phase (Post:=fun _ _=>True) (by omega) (by omega) (by omega) (fun g w ⟨_,hg,_⟩=>by rw[hg];rfl) (waitRound Tryz.wgLib (by omega) Zs (QmA v23 v24 hstop)) hok hB h0 hL hP (Qpi _ hJ hn ha hb v2 v3 v4 v5 v6 v7 v8 v9 v10 v11 v12 v13 v14 v15 v16 v17 v18 v19 v20 v21 v22 v23 v24 (fun w hF=>Qm9 hJ.le v18 v19 v22 v23 v24 w hF))
end
end Go.Proofs.YtpmjcjoeckajgaaGreatDoor
/- Two empty lists: no worker. (Round C) -/
namespace Go.Proofs.YtpmjcjoeckajgaaGreatDoor
set_option linter.unusedSectionVars false
set_option linter.unusedSimpArgs false
open Go.Conc Go.ConcX Go.RowKit Go.Conc.Lib Go.ConcX.Gen
def T0(N:Nat)(A:Option Addr)(la ca:Nat)(B:Option Addr)(lb cb n:Nat)(v18 v19 v20 v21 v22 v23 v24:Value):Array Value:=#[.slice A la ca,.slice B lb cb,.pointer (some ⟨N,0,none⟩),.pointer (some ⟨N+1,0,none⟩),.slice none 0 0,.pointer (some ⟨N+3,0,none⟩),.pointer (some ⟨N+4,0,none⟩),.pointer (some ⟨N+5,0,none⟩),.slice A la ca,.int .i64 la,.slice B lb cb,.int .i64 lb,.int .i64 n,
    .slice (some ⟨N+2,0,none⟩) n n,.int .i64 0,.slice (some ⟨N+2,0,none⟩) n n,.int .i64 n,.bool false,v18,v19,v20,v21,v22,v23,v24]
noncomputable def gW0 (N:Nat) (A:Option Addr) (la ca:Nat) (B:Option Addr) (lb cb n:Nat) (v18 v19 v20 v21 v22 v23 v24:Value) (cs:List Frame):Goroutine:=
 G ((base 141).at ⟨#[.pointer (some ⟨N+4,0,none⟩),undef,undef,undef,undef,undef,undef,undef,undef,undef,undef,undef,undef,undef,undef,undef,undef,undef,undef,undef,undef,undef,undef,undef,undef,undef,undef,undef,undef,undef,undef,undef,undef,undef,undef,undef,undef,undef,undef,undef,undef,undef,undef,undef,undef,undef,undef,undef,undef,undef,undef,undef,undef,undef,undef,undef,undef,undef,undef,undef,undef,undef,undef,undef,undef,undef,undef,undef,undef,undef,undef,undef,undef,undef,undef,undef,undef,undef,undef,undef,undef,undef,undef,undef],[]⟩ [.code (body_wait Tryz.link)]) ((base 118).at ⟨T0 N A la ca B lb cb n v18 v19 v20 v21 v22 v23 v24,[]⟩ (.inRegion ops10D (0 :: []) :: [.code tail11D]) :: cs)
section
variable {W : World} {A B : Option Addr} [Shy (W.heap.size + 4) (W.heap.size + 2)] [ShyD W.heap.size A B] {la ca lb cb n : Nat} {cs : List Frame} {w w₁ : World}
set_option maxRecDepth 100000 in
set_option maxHeartbeats 4000000 in
theorem Qxn(hm:n=max la lb)(hn:n=0)(v2 v3 v4 v5 v6 v7 v8 v9 v10 v11 v12 v13 v14 v15 v16 v17 v18 v19 v20 v21 v22 v23 v24:Value):
 ∃k,Goes Tryz.prog true AtRel (DE (EvS (W.heap.size+4) (W.heap.size+2))) (fun g w=>g=gW0 W.heap.size A la ca B lb cb n v18 v19 v20 v21 v22 v23 v24 cs∧AtRel (w6 W A la ca B lb cb n) w) k (gD A la ca B lb cb v2 v3 v4 v5 v6 v7 v8 v9 v10 v11 v12 v13 v14 v15 v16 v17 v18 v19 v20 v21 v22 v23 v24 cs) W:=by
 refine⟨44,?_⟩
 have hmx:(if(lb:Int)> (la:Int) then(lb:Int) else la)=(n:Int):=by split<;>omega
 have hle:n≤64:=by omega
 have hnl: ¬((0:Int)<(n:Int)):=by omega
 have hnl2: ¬0<n:=by omega
 clear hm hn
 obtain⟨i0,hi,hz0,hz1,hz2⟩:=info_parts Tryz.infoB
 have hmk:=fun w=>run_make (P:= Tryz.prog) w 150 4 i0 (.bool false) Tryz.underlying150 hi hz0 .i64 .i64 n n (by omega) (by omega) (by rw[hz2];omega) (by omega)
 have hme:=fun w es=>events_make (P:= Tryz.prog) w 150 4 i0 (.bool false) Tryz.underlying150 hi hz0 .i64 .i64 n n (by omega) (by omega) (by rw[hz2];omega) (by omega) (by rw[hz2];simp;omega) es
 simp only[gD,bodyD, Tryz.f118,Option.getD_some]
 l_c stepG_seq
 l_reg
 l_opw (‹ShyD _ _ _›.own _ _ (by simp<;>omega) (by simp<;>omega) (by simp<;>omega))
 l_opw (‹ShyD _ _ _›.own _ _ (by simp<;>omega) (by simp<;>omega) (by simp<;>omega))
 l_op
 l_c stepG_region_end
 l_c stepG_seq
 l_reg
 l_opw (‹ShyD _ _ _›.own _ _ (by simp<;>omega) (by simp<;>omega) (by simp<;>omega))
 l_op
 l_opw (‹ShyD _ _ _›.own _ _ (by simp<;>omega) (by simp<;>omega) (by simp<;>omega))
 l_op
 l_in
 rw[Qlo rfl rfl (by decide) rfl rfl rfl QjA,hmx]
 simp only[goes_go]
 refine⟨by u_nil,?_⟩
 walk_nrm
 l_opw (‹ShyD _ _ _›.own _ _ (by simp<;>omega) (by simp<;>omega) (by simp<;>omega))
 l_opw (‹ShyD _ _ _›.own _ _ (by simp<;>omega) (by simp<;>omega) (by simp<;>omega))
 l_opw (‹ShyD _ _ _›.own _ _ (by simp<;>omega) (by simp<;>omega) (by simp<;>omega))
 l_c stepG_region_end
 l_c stepG_seq
 l_reg
 l_opw (‹ShyD _ _ _›.own _ _ (by simp<;>omega) (by simp<;>omega) (by simp<;>omega))
 l_c stepG_region_end
 l_c stepG_seq
 l_c stepG_seq
 l_reg
 l_opw (‹ShyD _ _ _›.own _ _ (by simp<;>omega) (by simp<;>omega) (by simp<;>omega))
 l_opw (‹ShyD _ _ _›.own _ _ (by simp<;>omega) (by simp<;>omega) (by simp<;>omega))
 l_c stepG_region_end
 l_c stepG_block
 l_c stepG_loop
 l_c stepG_seq
 l_c stepG_seq
 l_reg
 l_opw (‹ShyD _ _ _›.own _ _ (by simp<;>omega) (by simp<;>omega) (by simp<;>omega))
 l_opw (‹ShyD _ _ _›.own _ _ (by simp<;>omega) (by simp<;>omega) (by simp<;>omega))
 l_op
 l_op
 l_c stepG_region_end
 l_cond false
 l_in
 refine goes_exit rfl ?_
 refine⟨by u_nil,?_⟩
 l_c stepG_seq
 l_reg
 l_in
 refine goes_call rfl rfl (by decide) rfl Tryz.func141 (nm_wait Tryz.link) rfl ⟨by u_nil,?_⟩
 walk_nrmf Tryz.f141
 refine Goes.stop (fun w₁ r=>⟨?_,?_⟩)
 ·simp only[gW0,T0,ops10D,tail11D,tailD,bodyD,body_wait,waitFn, Tryz.f118,Option.getD_some]
 ·obtain⟨d,rfl⟩:=r
  exact⟨d,rfl⟩
end
end Go.Proofs.YtpmjcjoeckajgaaGreatDoor
/- A walk beside goroutines that only leave, over the walk's own QS. (Round C) -/
namespace Go.Proofs.YtpmjcjoeckajgaaGreatDoor
open Go.Conc
open Go.ConcN (sumTo upd sumTo_upd upd_ne upd_same)
section
variable {P : Program} {Shun : Loc → Prop} {B k k' : Nat} {t : Trace} {u : Array MemOp}
structure XS(Shun:Loc→Prop)(B:Nat)(t:Trace)(k:Nat):Prop where
 clean: ∀said,¬Race said t
 known: ∀i a,touchAt t i=some a→a.loc.isMemory=true→Knows t 0 i∨(Shun a.loc∧a.kind= .atomic)
 over:t.HandedOver
 hears:Deaf t 0=k
 seen: ∀op∈t,op.act.low B
theorem XS.of(h:Past Shun B t):XS Shun B t 0:=⟨h.clean,h.known,h.over,h.hears,h.seen⟩
theorem XS.past(h:XS Shun B t 0):Past Shun B t:=⟨h.clean,h.known,h.over,h.hears,h.seen⟩
theorem XS.own0(h:XS Shun B t k)(hu: ∀op∈u,op.g=0)(hs: ∀op∈u,∀b,op.act.touch? =some b→Shun b.loc→b.kind≠ .plain)(hd:Deaf (t++u) 0=k')(hl: ∀op∈u,op.act.low B):XS Shun B (t++u) k':=by
 refine⟨fun said=>noRace_append (h.clean said) hu fun i a ha op hop b hb hc=>?_,fun i a ha hm=>?_,handedOver_app h.over fun op hop=> .inl (hu op hop),hd,seen_app h.seen hl⟩
 ·refine(h.known i a ha hc.2.1).resolve_right fun⟨hsa,hka⟩=>?_
  have hkb:=hs op hop b hb (hc.1 ▸ hsa)
  obtain⟨_,_,_,hcase⟩:=hc
  rw[hka] at hcase
  rcases hcase with x|x|⟨_,x,_⟩
  ·cases x
  ·exact hkb x
  ·cases x
 ·obtain⟨x,hx,hxa⟩:=touch_of ha
  rcases getElem?_append_cases hx with⟨_,hx'⟩|⟨_,hxu⟩
  ·exact(h.known i a (by rw[touchAt_of hx'];exact hxa) hm).imp (·.app u) id
  ·have:=knows_own hx
   rw[hu x hxu] at this
   exact .inl this
theorem XS.mute(h:XS Shun B t k){g:Nat}(hg:g≠0){fn:FuncId}{pos:String}{es:Array Event}(hm: ∀e∈es,e.mute=true):XS Shun B (t++MemOp.ofEvents g fn pos es) k:=by
 have hu: ∀op∈MemOp.ofEvents g fn pos es,op.g=g:=fun op hop=>by obtain⟨e,_,rfl⟩:=Conc.mem_ofEvents hop;rfl
 have hn: ∀op∈MemOp.ofEvents g fn pos es,op.act.touch? =none:=fun op hop=>by obtain⟨e,he,rfl⟩:=Conc.mem_ofEvents hop;exact touch_mute (hm e he)
 refine⟨fun said=>noRace_append (h.clean said) hu fun i a _ op hop b hb _=>(by rw[hn op hop] at hb;cases hb),fun i a ha hm'=>?_,handedOver_app h.over fun op hop=> .inr (hn op hop),(Deaf_other t hg _ hu).trans h.hears,
  seen_app h.seen fun op hop=>by obtain⟨e,he,rfl⟩:=Conc.mem_ofEvents hop;exact low_mute (hm e he) B⟩
 obtain⟨x,hx,hxa⟩:=touch_of ha
 rcases getElem?_append_cases hx with⟨_,hx'⟩|⟨_,hxu⟩
 ·exact(h.known i a (by rw[touchAt_of hx'];exact hxa) hm').imp (·.app _) id
 ·rw[hn x hxu] at hxa;cases hxa
theorem oneD{S:Goroutine→World→Prop}{Q:Goroutine→World→Array Event→Prop}{k':Nat→Nat}(hS: ∀g w,S g w→g.status= .running∧(∀d,S g (w.at d))∧∃g' w' es,stepG P true g w= .go g' w' es∧Q g' w' es)(hQ: ∀g w es,Q g w es→(∀e∈es,(∀x,(MemAct.ofEvent e).touch? =some x→Shun x.loc→x.kind≠ .plain)∧(MemAct.ofEvent e).low B)∧∀t:Trace,∀fn pos,Deaf (t++MemOp.ofEvents 0 fn pos es) 0=k' (Deaf t 0)):
 ∀(M:Nat) (gs:Array Goroutine) (a:Goroutine) (w:World) (sl:Option (Nat×Nat)) (t:Trace) (q:Nat→Nat),sumTo gs.size q≤M→gs[0]? =some a→Leavers P t gs q→XS Shun B t k→S a w→
  ∃(N:Nat) (gs':Array Goroutine) (a':Goroutine) (w':World) (es:Array Event) (sl':Option (Nat×Nat)) (t':Trace) (q':Nat→Nat),runNT P N (crowd gs w sl) t=(.next (crowd gs' w' sl'),t')∧gs'.size=gs.size∧gs'[0]? =some a'∧Q a' w' es∧Leavers P t' gs' q'∧XS Shun B t' (k' k):=by
 intro M
 induction M using Nat.strongRecOn with
 |ind M ih=>
  intro gs a w sl t q hM h0 hL hP hs
  have hrun:=(hS a w hs).1
  have haw: ∀g∈gs,awake g:=by
   intro g hg
   obtain⟨i,hi,rfl⟩:=Array.mem_iff_getElem.1 hg
   rcases Nat.eq_zero_or_pos i with rfl|hpos
   ·have:gs[0]=a:=by simpa [Array.getElem?_eq_getElem hi] using h0
    rw[this];exact awake_of (.inl hrun)
   ·exact awake_of ((hL.old i _ hpos (Array.getElem?_eq_getElem hi)).status.elim .inl fun x=> .inr (.inr x))
  obtain⟨i,g,dd,sl',hgi,hg,hst⟩:=crowd_pick (P:=P) (w:=w) (sl:=sl) haw ⟨0,a,h0,hrun⟩
  have hlt0:0<gs.size:=(Array.getElem?_eq_some_iff.1 h0).1
  rcases Nat.eq_zero_or_pos i with rfl|hpos
  ·obtain rfl:g=a:=Option.some.inj (hgi.symm.trans h0)
   obtain⟨_,_,g',w',es,hgo,hq⟩:=hS g (w.at dd) ((hS g w hs).2.1 dd)
   have hrunT:=runT_crowd_go (P:=P) (sl:=sl') (i:=0) hgi (show stepG P (0 == 0) g (w.at dd)=_ from hgo)
   have hu: ∀op∈MemOp.ofEvents 0 g.frame.fn g.frame.place es,op.g=0:=fun op hop=>by obtain⟨e,_,rfl⟩:=Conc.mem_ofEvents hop;rfl
   refine⟨1,(gs.map (woken P g g' w')).setIfInBounds 0 g',g',w',es,sl',t++MemOp.ofEvents 0 g.frame.fn g.frame.place es,q,by simp only[runNT,hst,hrunT],by simp,by simp[hlt0],hq,⟨fun j x hj hx=>?_,fun j hj=>?_⟩,?_⟩
   ·rw[Array.getElem?_setIfInBounds_ne (by omega),Array.getElem?_map] at hx
    obtain⟨y,hy,rfl⟩:=Option.map_eq_some_iff.1 hx
    have hqj:=hL.old j y hj hy
    rw[woken_quitsD hqj,Deaf_other t (g':=0) (by omega) _ hu]
    exact hqj
   ·rw[Deaf_other t (g':=0) (by simp at hj;omega) _ hu]
    exact hL.above j (by simpa using hj)
   ·obtain⟨e1,e2⟩:=hQ _ _ _ hq
    refine hP.own0 hu (fun op hop b hb=>?_) (by rw[e2,hP.hears]) (fun op hop=>?_)
    ·obtain⟨e,he,rfl⟩:=Conc.mem_ofEvents hop
     exact(e1 e he).1 b hb
    ·obtain⟨e,he,rfl⟩:=Conc.mem_ofEvents hop
     exact(e1 e he).2
  ·have hq:=hL.old i g hpos hgi
   have hi0:(i == 0)=false:=by simp;omega
   have hlt:i<gs.size:=(Array.getElem?_eq_some_iff.1 hgi).1
   cases hqi:q i with
   |zero=>rw[hqi] at hq;rw[hq.1] at hg;cases hg
   |succ r=>
    rw[hqi] at hq
    rcases hq with⟨hff,_⟩|⟨_,g',es,hm,hstp,hq'⟩
    ·rw[hff] at hg;cases hg
    have hrunT:=runT_crowd_go (P:=P) (sl:=sl') (i:=i) hgi (by rw[hi0];exact hstp (w.at dd))
    have hsz:((gs.map (woken P g g' (w.at dd))).setIfInBounds i g').size=gs.size:=by simp
    have hsum:sumTo gs.size (upd q i r)+(r+1)=sumTo gs.size q+r:=by
     have:=sumTo_upd q r id hlt
     simpa [hqi] using this
    obtain⟨N,gs',a',w',es',sl'',t',q',h1,h2,h3⟩:=ih (sumTo gs.size (upd q i r)) (by omega) ((gs.map (woken P g g' (w.at dd))).setIfInBounds i g') a (w.at dd) sl' (t++MemOp.ofEvents i g.frame.fn g.frame.place es) (upd q i r) (by rw[hsz];exact Nat.le_refl _)
     (by
       rw[Array.getElem?_setIfInBounds_ne (by omega),Array.getElem?_map,h0]
       simp[woken_run hrun])
     ⟨fun j x hj hx=>by
       by_cases hji:i=j
       ·subst hji
        rw[Array.getElem?_setIfInBounds_self_of_lt (by simpa using hlt)] at hx
        obtain rfl:=Option.some.inj hx
        rw[upd_same,Deaf_own]
        exact hq'
       ·rw[Array.getElem?_setIfInBounds_ne hji,Array.getElem?_map] at hx
        obtain⟨y,hy,rfl⟩:=Option.map_eq_some_iff.1 hx
        have hqj:=hL.old j y hj hy
        rw[woken_quitsD hqj,upd_ne q r (Ne.symm hji),Deaf_other t hji _ (fun op hop=>by obtain⟨e,_,rfl⟩:=Conc.mem_ofEvents hop;rfl)]
        exact hqj,fun j hj=>by
       rw[Deaf_other t (g':=i) (by simp at hj;omega) _ (fun op hop=>by obtain⟨e,_,rfl⟩:=Conc.mem_ofEvents hop;rfl)]
       exact hL.above j (by simpa using hj)⟩ (hP.mute (by omega) hm) ((hS a w hs).2.1 dd)
    exact⟨N+1,gs',a',w',es',sl'',t',q',by simp only[runNT,hst,hrunT];exact h1,h2.trans hsz,h3⟩
theorem QbR{D:World→World→Array Event→Prop}{Stop:Goroutine→World→Prop}(hD: ∀w w' es,D w w' es→∀e∈es,EvL Shun B e):
 ∀(n:Nat) (gs:Array Goroutine) (a:Goroutine) (w:World) (sl:Option (Nat×Nat)) (t:Trace) (q:Nat→Nat),gs[0]? =some a→Leavers P t gs q→XS Shun B t k→Goes P true AtRel D Stop n a w→
  ∃(N:Nat) (gs':Array Goroutine) (a':Goroutine) (w':World) (sl':Option (Nat×Nat)) (t':Trace) (q':Nat→Nat),runNT P N (crowd gs w sl) t=(.next (crowd gs' w' sl'),t')∧gs'.size=gs.size∧gs'[0]? =some a'∧Stop a' w'∧(∀d,Stop a' (w'.at d))∧Leavers P t' gs' q'∧XS Shun B t' k
 |0,gs,a,w,sl,t,q,h0,hL,hP,hG=>⟨0,gs,a,w,sl,t,q,rfl,rfl,h0,hG w (atRel_refl w),fun d=>hG _ ⟨d,rfl⟩,hL,hP⟩
 |n+1,gs,a,w,sl,t,q,h0,hL,hP,hG=>by
  rcases hG with hstop|⟨hrun,Jf⟩
  ·exact⟨0,gs,a,w,sl,t,q,rfl,rfl,h0,hstop w (atRel_refl w),fun d=>hstop _ ⟨d,rfl⟩,hL,hP⟩
  obtain⟨N1,gs1,a1,w1,es,sl1,t1,q1,r1,z1,h01,⟨_,hg1⟩,L1,P1⟩:=oneD (S:=fun g w=>g.status= .running∧∀w₁,AtRel w w₁→(stepG P true g w₁).goes fun g' w' es=>D w₁ w' es∧Goes P true AtRel D Stop n g' w')
   (Q:=fun g' w' es=>(∃w₁,D w₁ w' es)∧Goes P true AtRel D Stop n g' w') (k':=id) (fun g w ⟨hr,hs⟩=>⟨hr,fun d=>⟨hr,fun w₁ h=>hs w₁ (atRel_trans _ _ _ ⟨d,rfl⟩ h)⟩,by
     have h:=hs w (atRel_refl w)
     cases hx:stepG P true g w with
     |go g' w' es=>
      rw[hx,goes_go] at h
      exact⟨g',w',es,rfl,⟨w,h.1⟩,h.2⟩
     |_=>rw[hx] at h;exact h.elim⟩) (fun g w es ⟨⟨w₁,hd⟩,_⟩=>⟨fun e he=>⟨(hD _ _ _ hd e he).1,(hD _ _ _ hd e he).2.2.2⟩,fun t fn pos=>by
     rw[Deaf_own]
     exact deafBehind_still (fun e he=>⟨(hD _ _ _ hd e he).2.1,(hD _ _ _ hd e he).2.2.1⟩) _⟩)
   _ gs a w sl t q (Nat.le_refl _) h0 hL hP ⟨hrun,Jf⟩
  obtain⟨N2,gs2,a2,w2,sl2,t2,q2,r2,z2,h02,s2⟩:=QbR hD n gs1 a1 w1 sl1 t1 q1 h01 L1 P1 hg1
  refine⟨N1+N2,gs2,a2,w2,sl2,t2,q2,?_,z2.trans z1,h02,s2⟩
  rw[runNT_add,r1]
  exact r2
end
end Go.Proofs.YtpmjcjoeckajgaaGreatDoor
/- WaitGroup.Wait at count 0, beside goroutines that only leave: the kit's walk through it, carried out. (Round C) -/
namespace Go.Proofs.YtpmjcjoeckajgaaGreatDoor
open Go.Conc Go.ConcX
set_option linter.unusedSectionVars false
variable [Payload]
section
variable {P : Program} {ty : TypeId} {Wg C Low : Nat} [Shy Wg C] {vals : List Value} {Mine : Loc → Prop} {AnchW : Goroutine → World → Prop} {Post : Value → World → Prop} {Shun : Loc → Prop} {B k : Nat}
omit [Payload] [Shy Wg C] in
theorem Qer{R R':World→World→Prop}{D:World→World→Array Event→Prop}{Stop:Goroutine→World→Prop}{main:Bool}(h: ∀w w₁,R' w w₁→R w w₁): ∀{n:Nat} {g:Goroutine} {w:World},Goes P main R D Stop n g w→Goes P main R' D Stop n g w
 |0,_,_,hg=>fun w₁ r=>hg w₁ (h _ _ r)
 |n+1,_,_,hg=>hg.elim (fun x=> .inl fun w₁ r=>x w₁ (h _ _ r)) fun x=> .inr ⟨x.1,fun w₁ r=>by
   have:=x.2 w₁ (h _ _ r)
   cases hs:stepG P main _ w₁ with
   |go g' w' es=>rw[hs] at this;exact⟨this.1,Qer h this.2⟩
   |_=>rw[hs] at this;exact this.elim⟩
omit [Payload] [Shy Wg C] in
theorem Qeq{R:World→World→Prop}{D:World→World→Array Event→Prop}{Stop:Goroutine→World→Prop}{main:Bool}{I:World→Prop}(hD: ∀w w' es,D w w' es→I w→I w')(hR: ∀w w₁,R w w₁→I w→I w₁):
 ∀{n:Nat} {g:Goroutine} {w:World},I w→Goes P main R D Stop n g w→Goes P main R D (fun g w=>Stop g w∧I w) n g w
 |0,_,_,hi,hg=>fun w₁ r=>⟨hg w₁ r,hR _ _ r hi⟩
 |n+1,_,_,hi,hg=>hg.elim (fun x=> .inl fun w₁ r=>⟨x w₁ r,hR _ _ r hi⟩) fun x=> .inr ⟨x.1,fun w₁ r=>by
   have:=x.2 w₁ r
   cases hs:stepG P main _ w₁ with
   |go g' w' es=>rw[hs] at this;exact⟨this.1,Qeq hD hR (hD _ _ _ this.1 (hR _ _ r hi)) this.2⟩
   |_=>rw[hs] at this;exact this.elim⟩
theorem QgH: ∀w w₁,AtRel w w₁→RPa ty Wg C vals w w₁:=by
 rintro w _ ⟨d,rfl⟩
 exact⟨⟨rfl,rfl,rfl,rfl,fun _ _ _=>rfl⟩,id,id⟩
omit [Payload] [Shy Wg C] in
theorem Qfu [Payload]: ∀w w₁,AtRel w w₁→KPc ty Wg C vals w→KPc ty Wg C vals w₁:=by
 rintro w _ ⟨d,rfl⟩ h
 exact h
theorem QfI(hW:Wg<Low)(hC:C<Low): ∀w w' es,DPi Mine Wg C Low w w' es→KPc ty Wg C vals w→KPc ty Wg C vals w':=fun _ _ _ h k=>⟨k.1.of_block (h.1 _ hW),ChanAt.of_block k.2 (h.1 _ hC)⟩
theorem QeO{S:Goroutine→World→Prop}{Q:Goroutine→World→Prop}{e:Event}{k':Nat→Nat}(hr: ∀g w,S g w→g.status= .running)(hS: ∀g w,S g w→∃g',stepG P true g w= .go g' w #[e]∧Q g' w)(he:(∀x,(MemAct.ofEvent e).touch? =some x→Shun x.loc→x.kind≠ .plain)∧(MemAct.ofEvent e).low B)(hk: ∀d,deafBehind d #[e]=k' d)
 {gs:Array Goroutine}{a:Goroutine}{w:World}{sl:Option (Nat×Nat)}{t:Trace}{q:Nat→Nat}(h0:gs[0]? =some a)(hL:Leavers P t gs q)(hP:XS Shun B t k)(hs: ∀d,S a (w.at d)):
 ∃(N:Nat) (gs':Array Goroutine) (a':Goroutine) (w':World) (sl':Option (Nat×Nat)) (t':Trace) (q':Nat→Nat),runNT P N (crowd gs w sl) t=(.next (crowd gs' w' sl'),t')∧gs'.size=gs.size∧gs'[0]? =some a'∧Q a' w'∧Leavers P t' gs' q'∧XS Shun B t' (k' k):=by
 obtain⟨N,gs',a',w',es,sl',t',q',h1,h2,h3,⟨_,h4⟩,h5,h6⟩:=oneD (P:=P) (S:=fun g w=>∀d,S g (w.at d)) (Q:=fun g' w' es=>es= #[e]∧Q g' w') (k':=k') (fun g w h=>⟨hr _ _ (h w.drawn),fun _ d=>h d,by
  obtain⟨g',e1,e2⟩:=hS g w (h w.drawn)
  exact⟨g',w,_,e1,rfl,e2⟩⟩) (fun g w es ⟨hes,_⟩=>by
  subst hes
  refine⟨fun x hx=>?_,fun t fn pos=>by rw[Deaf_own];exact hk _⟩
  rw[Array.mem_singleton] at hx
  subst hx
  exact he) _ gs a w sl t q (Nat.le_refl _) h0 hL hP hs
 exact⟨N,gs',a',w',sl',t',q',h1,h2,h3,h4,h5,h6⟩
theorem Qox(d:Nat):deafBehind d #[mk .disable]=d+1:=rfl
theorem QoM(d:Nat):deafBehind d #[mk .enable]=d - 1:=rfl
theorem Qwl(hok: ∀act,Shy.ok Wg C act→(∀x,act.touch? =some x→Shun x.loc→x.kind≠ .plain)∧act.low B)(hWl:Wg<Low)(hCl:C<Low)
 (hAn: ∀g w,AnchW g w→∃m,Goes P true (RPa ty Wg C vals) (DPi Mine Wg C Low) (AtW1 P ty Wg C Low vals Mine AnchW Post) m g w)
 {gs:Array Goroutine}{a:Goroutine}{w:World}{sl:Option (Nat×Nat)}{t:Trace}{q:Nat→Nat}{n:Nat}(h0:gs[0]? =some a)(hL:Leavers P t gs q)(hP:XS Shun B t 0)(hk:KPc ty Wg C vals w)
 (hG:Goes P true (RPa ty Wg C vals) (DPi Mine Wg C Low) (AtKd P ty Wg C Low vals Mine AnchW) n a w):
 ∃(N:Nat) (gs':Array Goroutine) (a':Goroutine) (w':World) (sl':Option (Nat×Nat)) (t':Trace) (q':Nat→Nat),runNT P N (crowd gs w sl) t=(.next (crowd gs' w' sl'),t')∧gs'.size=gs.size∧gs'[0]? =some a'∧(a'.status= .running∧Shy.stop Wg C a' w')∧Leavers P t' gs' q'∧XS Shun B t' 0:=by
 have evI: ∀w w' es,DPi Mine Wg C Low w w' es→∀e∈es,EvL Shun B e:=fun w w' es h e he=>by
  obtain⟨e1,e2,e3,_⟩:=h.2 e he
  have:=hok _ (e1 0 "").2.2.2
  exact⟨this.1,e2,e3,this.2⟩
 have evJ: ∀w w' es,DPj Mine Wg C Low w w' es→∀e∈es,EvL Shun B e:=fun w w' es h e he=>by
  obtain⟨e1,e2,e3⟩:=h.2 e he
  have:=hok _ (e1 0 "").2.2.2
  exact⟨this.1,e2,e3,this.2⟩
 obtain⟨N1,gs1,a1,w1,sl1,t1,q1,r1,z1,h1,_,s1,L1,P1⟩:=QbR evI n gs a w sl t q h0 hL hP (Qeq (I:=KPc ty Wg C vals) (QfI hWl hCl) Qfu hk (Qer QgH hG))
 obtain⟨N2,gs2,a2,w2,sl2,t2,q2,r2,z2,h2,⟨k2,m2,g2⟩,L2,P2⟩:=QeO (Shun:=Shun) (B:=B) (sl:=sl1) (e:=mk .disable) (k':=(·+1)) (S:=fun g w=>AtKd P ty Wg C Low vals Mine AnchW g w∧KPc ty Wg C vals w) (Q:=fun g w=>KPc ty Wg C vals w∧∃m,Goes P true (RPa ty Wg C vals) (DPi Mine Wg C Low) AnchW m g w)
  (fun g w h=>h.1.1) (fun g w h=>let⟨g',e,m,hg⟩:=h.1.2;⟨g',e,h.2,m,hg⟩) (hok _ (Shy.disable (Wg:=Wg) (C:=C))) Qox h1 L1 P1 s1
 obtain⟨N3,gs3,a3,w3,sl3,t3,q3,r3,z3,h3,⟨s3,k3⟩,_,L3,P3⟩:=QbR evI m2 gs2 a2 w2 sl2 t2 q2 h2 L2 P2 (Qeq (I:=KPc ty Wg C vals) (QfI hWl hCl) Qfu k2 (Qer QgH g2))
 obtain⟨m3,g3⟩:=hAn _ _ s3
 obtain⟨N4,gs4,a4,w4,sl4,t4,q4,r4,z4,h4,_,s4,L4,P4⟩:=QbR evI m3 gs3 a3 w3 sl3 t3 q3 h3 L3 P3 (Qeq (I:=KPc ty Wg C vals) (QfI hWl hCl) Qfu k3 (Qer QgH g3))
 obtain⟨N5,gs5,a5,w5,sl5,t5,q5,r5,z5,h5,⟨m5,g5⟩,L5,P5⟩:=QeO (Shun:=Shun) (B:=B) (sl:=sl4) (e:=rd (stA Wg)) (k':=id) (S:=fun g w=>AtW1 P ty Wg C Low vals Mine AnchW Post g w∧KPc ty Wg C vals w) (Q:=fun g w=>∃m,Goes P true AtRel (DPi Mine Wg C Low) (AtKe P Wg C Low Mine Post) m g w)
  (fun g w h=>h.1.1) (fun g w h=>let⟨g',e,_,hg⟩:=h.1.2;⟨g',e,hg h.2⟩) (hok _ (Shy.atomicWg (Wg:=Wg) (C:=C) (stA Wg) false rfl)) (fun d=>rfl) h4 L4 P4 s4
 obtain⟨N6,gs6,a6,w6,sl6,t6,q6,r6,z6,h6,_,s6,L6,P6⟩:=QbR evI m5 gs5 a5 w5 sl5 t5 q5 h5 L5 P5 g5
 obtain⟨N7,gs7,a7,w7,sl7,t7,q7,r7,z7,h7,⟨m7,g7⟩,L7,P7⟩:=QeO (Shun:=Shun) (B:=B) (sl:=sl6) (e:=mk .enable) (k':=(·- 1)) (S:=AtKe P Wg C Low Mine Post) (Q:=fun g w=>∃m,Goes P true AtRel (DPi Mine Wg C Low) (AtAcq P Wg C Low Mine Post) m g w)
  (fun g w h=>h.1) (fun g w h=>let⟨g',e,hg⟩:=h.2;⟨g',e,hg⟩) (hok _ (Shy.enable (Wg:=Wg) (C:=C))) QoM h6 L6 P6 s6
 obtain⟨N8,gs8,a8,w8,sl8,t8,q8,r8,z8,h8,_,s8,L8,P8⟩:=QbR evI m7 gs7 a7 w7 sl7 t7 q7 h7 L7 P7 g7
 obtain⟨N9,gs9,a9,w9,sl9,t9,q9,r9,z9,h9,⟨m9,g9⟩,L9,P9⟩:=QeO (Shun:=Shun) (B:=B) (sl:=sl8) (e:=mk (.acquire (stA Wg))) (k':=id) (S:=AtAcq P Wg C Low Mine Post) (Q:=fun g w=>∃m,Goes P true AtRel (DPj Mine Wg C Low) (AtRetJ P Wg C Mine Post) m g w)
  (fun g w h=>h.1) (fun g w h=>let⟨g',e,hg⟩:=h.2;⟨g',e,hg⟩) (hok _ (Shy.acquire (Wg:=Wg) (C:=C))) (fun d=>rfl) h8 L8 P8 s8
 obtain⟨N10,gs10,a10,w10,sl10,t10,q10,r10,z10,h10,s10,_,L10,P10⟩:=QbR evJ m9 gs9 a9 w9 sl9 t9 q9 h9 L9 P9 g9
 exact⟨_,gs10,a10,w10,sl10,t10,q10,runNT_trans (runNT_trans (runNT_trans (runNT_trans (runNT_trans (runNT_trans (runNT_trans (runNT_trans (runNT_trans r1 r2) r3) r4) r5) r6) r7) r8) r9) r10,
  by omega,h10,s10,L10,P10⟩
end
end Go.Proofs.YtpmjcjoeckajgaaGreatDoor
/- Two empty lists: the whole call. (Round C) -/
namespace Go.Proofs.YtpmjcjoeckajgaaGreatDoor
set_option linter.unusedSectionVars false
set_option linter.unusedSimpArgs false
open Go.Conc Go.ConcX Go.RowKit Go.Conc.Lib Go.ConcX.Gen
def F6(W:World)(A:Option Addr)(la ca:Nat)(B:Option Addr)(lb cb n:Nat)(w:World):Prop:=Aside2 (W.heap.size+2) (W.heap.size+4) (w6 W A la ca B lb cb n) w
def QcY(N:Nat)(A:Option Addr)(la ca:Nat)(B:Option Addr)(lb cb n:Nat)(v18 v19 v20 v21 v22:Value)(cs:List Frame):Goroutine:=G { (base 118).at ⟨#[.slice A la ca,.slice B lb cb,.pointer (some ⟨N,0,none⟩),.pointer (some ⟨N+1,0,none⟩),.slice (some ⟨N+2,0,none⟩) n n,.pointer (some ⟨N+3,0,none⟩),.pointer (some ⟨N+4,0,none⟩),.pointer (some ⟨N+5,0,none⟩),.slice A la ca,.int .i64 la,.slice B lb cb,.int .i64 lb,.int .i64 n,
    .slice (some ⟨N+2,0,none⟩) n n,.int .i64 0,.slice (some ⟨N+2,0,none⟩) n n,.int .i64 n,.bool false,v18,v19,v20,v21,v22,.tuple #[],.slice (some ⟨N+2,0,none⟩) n n],[]⟩ [.code .ret] with mode:= .returning} cs
section
variable {W : World} {A B : Option Addr} [Shy (W.heap.size + 4) (W.heap.size + 2)] [ShyD W.heap.size A B] {la ca lb cb n : Nat} {cs : List Frame} {w w₁ : World}
theorem QaH: ∀w w',Aside2 (W.heap.size+2) (W.heap.size+4) w w'→F6 W A la ca B lb cb n w→F6 W A la ca B lb cb n w':=fun _ _ h1 h2=>Aside2.trans h2 h1
theorem F6.out(h:F6 W A la ca B lb cb n w):w.cell? ⟨W.heap.size+3,0,none⟩=some (.slice (some ⟨W.heap.size+2,0,none⟩) n n):=by
 unfold World.cell?
 rw[(show Aside2 _ _ _ _ from h).block (W.heap.size+3) (by omega) (by omega),Qbw]
 rfl
set_option maxRecDepth 100000 in
theorem QmB(v18 v19 v20 v21 v22 v23 v24:Value)(hstop: ∀w,F6 W A la ca B lb cb n w→WgAt 194 (W.heap.size+4) w 0 0→Full (W.heap.size+2) [] w→Shy.stop (W.heap.size+4) (W.heap.size+2) (QcY W.heap.size A la ca B lb cb n v18 v19 v20 v21 v22 cs) w)(w:World)(h1:F6 W A la ca B lb cb n w)(h2:WgAt 194 (W.heap.size+4) w 0 0)(h3:Full (W.heap.size+2) [] w):
 Goes Tryz.prog true AtRel (DPj (Mine W.heap.size) (W.heap.size+4) (W.heap.size+2) (W.heap.size+6)) (AtRetJ Tryz.prog (W.heap.size+4) (W.heap.size+2) (Mine W.heap.size) (fun _ _=>True)) 8 (G ((base 118).at ((⟨T0 W.heap.size A la ca B lb cb n v18 v19 v20 v21 v22 v23 v24,[]⟩:Act).put ((ops10D[0]?).bind (·.dst)) (.tuple #[])) (.inRegion ops10D [] :: [.code tail11D])) cs) w:=by
 have hF:F6 W A la ca B lb cb n w∧WgAt 194 (W.heap.size+4) w 0 0∧Full (W.heap.size+2) [] w:=⟨h1,h2,h3⟩
 simp only[T0,ops10D,tail11D,tailD,bodyD, Tryz.f118,Option.getD_some]
 walk_nrm
 u_c stepG_region_end (fj_rely (L:= Tryz.link) QaH) hF
 u_c stepG_seq (fj_rely (L:= Tryz.link) QaH) hF
 u_reg (fj_rely (L:= Tryz.link) QaH) hF
 u_opw (fj_rely (L:= Tryz.link) QaH) hF [F6.out (And.left hF)] (fun _ _=>rfl) (Qh9 _ (by simp) (by simp) (‹ShyD _ _ _›.own _ _ (by simp) (by simp) (by simp)))
 u_op (fj_rely (L:= Tryz.link) QaH) hF
 u_c stepG_region_end (fj_rely (L:= Tryz.link) QaH) hF
 u_c stepG_ret' (fj_rely (L:= Tryz.link) QaH) hF
 exact Goes.stop (fun w₂ r₂=>⟨rfl,have h:=fj_rely (L:= Tryz.link) QaH hF r₂;hstop _ h.1 h.2.1 h.2.2⟩)
theorem Qxp{Shun:Loc→Prop}{B₀ B':Nat}{t₀:Trace}(hok: ∀act,Shy.ok (W.heap.size+4) (W.heap.size+2) act→okF Shun B' (W.heap.size+4) act)(hB:B₀≤B')(hm:n=max la lb)(hn:n=0)(v2 v3 v4 v5 v6 v7 v8 v9 v10 v11 v12 v13 v14 v15 v16 v17 v18 v19 v20 v21 v22 v23 v24:Value)
 (hstop: ∀w,F6 W A la ca B lb cb n w→WgAt 194 (W.heap.size+4) w 0 0→Full (W.heap.size+2) [] w→Shy.stop (W.heap.size+4) (W.heap.size+2) (QcY W.heap.size A la ca B lb cb n v18 v19 v20 v21 v22 cs) w)
 {gs:Array Goroutine}{sl:Option (Nat×Nat)}{q:Nat→Nat}(h0:gs[0]? =some (gD A la ca B lb cb v2 v3 v4 v5 v6 v7 v8 v9 v10 v11 v12 v13 v14 v15 v16 v17 v18 v19 v20 v21 v22 v23 v24 cs))(hL:Leavers Tryz.prog t₀ gs q)(hP:Past Shun B₀ t₀):
 ∃(N:Nat) (gs':Array Goroutine) (a':Goroutine) (w':World) (sl':Option (Nat×Nat)) (T':Trace) (q':Nat→Nat),runNT Tryz.prog N (crowd gs W sl) t₀=(.next (crowd gs' w' sl'),T')∧gs'.size=gs.size∧gs'[0]? =some a'∧
  (a'.status= .running∧Shy.stop (W.heap.size+4) (W.heap.size+2) a' w')∧Leavers Tryz.prog T' gs' q'∧Past Shun B' T':=by
 have hok': ∀act,Shy.ok (W.heap.size+4) (W.heap.size+2) act→(∀x,act.touch? =some x→Shun x.loc→x.kind≠ .plain)∧act.low B':=fun act h=>⟨fun x hx=>((hok act h).1 x hx).1,(hok act h).2.1⟩
 have evS: ∀w w' es,DE (EvS (W.heap.size+4) (W.heap.size+2)) w w' es→∀e∈es,EvL Shun B' e:=fun _ _ _ h e he=>by
  obtain⟨_,_,_,x3,x4,x5⟩:=h e he
  refine⟨(hok' _ x5).1,fun hl=>x3 ?_,fun hl=>x4 ?_,(hok' _ x5).2⟩
  ·obtain⟨l,a,b⟩:=e
   cases hl
   rfl
  ·obtain⟨l,a,b⟩:=e
   cases hl
   rfl
 obtain⟨k,g0⟩:=Qxn (W:=W) (A:=A) (B:=B) (ca:=ca) (cb:=cb) (cs:=cs) hm hn v2 v3 v4 v5 v6 v7 v8 v9 v10 v11 v12 v13 v14 v15 v16 v17 v18 v19 v20 v21 v22 v23 v24
 obtain⟨N1,gs1,a1,w1,sl1,t1,q1,r1,z1,h1,⟨rfl,d,rfl⟩,_,L1,P1⟩:=QbR evS k gs _ W sl t₀ q h0 hL (XS.of (hP.mono hB)) g0
 have hfull:Full (W.heap.size+2) [] ((w6 W A la ca B lb cb n).at d):=fun _=>by
  refine(Qbw W A la ca B lb cb n 2).trans ?_
  subst hn
  have e:madeCells #[.bool false] 0= #[]:=by simp[madeCells]
  rw[e]
  rfl
 have hk:KPc 194 (W.heap.size+4) (W.heap.size+2) [] ((w6 W A la ca B lb cb n).at d):=⟨wg6 W A la ca B lb cb n,hfull⟩
 have hA:=waitStart (L:= Tryz.link) (P:= Tryz.prog) Tryz.wgLib (Mine:=Mine W.heap.size) (Wg:=W.heap.size+4) (C:=W.heap.size+2) (Low:=W.heap.size+6) (vals:=[]) (F:=F6 W A la ca B lb cb n) (b₀:=base 118) (a₀:=⟨T0 W.heap.size A la ca B lb cb n v18 v19 v20 v21 v22 v23 v24,[]⟩) (ops₀:=ops10D) (i₀:=0) (rest₀:=[]) (k₀:=[.code tail11D]) (cs:=cs) QaH _ ⟨(⟨rfl,rfl,rfl,rfl,fun _ _ _=>rfl⟩:Aside2 _ _ (w6 W A la ca B lb cb n) ((w6 W A la ca B lb cb n).at d)),.inr hk⟩
 obtain⟨N2,gs2,a2,w2,sl2,t2,q2,r2,z2,h2,s2,L2,P2⟩:=Qwl (Post:=fun _ _=>True) hok' (by omega) (by omega) (waitRound Tryz.wgLib (by omega) QaH (QmB v18 v19 v20 v21 v22 v23 v24 hstop)) h1 L1 P1 hk hA
 exact⟨_,gs2,a2,w2,sl2,t2,q2,runNT_trans r1 r2,z2.trans z1,h2,s2,L2,P2.past⟩
end
end Go.Proofs.YtpmjcjoeckajgaaGreatDoor
