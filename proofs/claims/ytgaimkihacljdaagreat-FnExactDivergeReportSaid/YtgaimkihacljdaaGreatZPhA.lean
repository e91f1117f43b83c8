/- Lemmas: PhL PhN PhO PhP. -/
import Derived.Test.YtgaimkihacljdaaGreatChecked
import Derived.Conc.WgLib
import Derived.Test.YtgaimkihacljdaaGreatZCrB
import Derived.Conc.BesideWords
import Derived.Conc.CompanyMem
/- The numbers that package sync's functions and types bear here. (Round C) -/
namespace Go.Proofs
abbrev Tryz.link:Go.Conc.Lib.WgLink:={ add:=65,done:=67,wait:=68,relMerge:=82,disable:=83,enable:=84,inBubble:=85,associate:=86,fatal:=87,uOr:=88,uAdd:=89,raceRead:=90,uLoad:=91,uStore:=92,disassociate:=93,semrelease:=94,acquire:=95,isAssociated:=96,uCas:=97,raceWrite:=98,semacquire:=99,orU64:=109,addU64:=110,loadU64:=111,storeU64:=112,casU64:=113,tWgP:=132,tUP:=134,tAssoc:=136,tWg:=115,tAU:=112,tU64:=110,tUint:=140,tU32:=113,tPU32:=141,tPAU:=160,tPU64:=162,tNoCopy:=107,tANoCopy:=108,tAlign64:=109}
theorem Tryz.wgLib:Go.Conc.Lib.WgLib Tryz.prog Tryz.link:=
 ⟨Tryz.func65, Tryz.func67, Tryz.func68, Tryz.func82, Tryz.func83, Tryz.func84, Tryz.func85, Tryz.func86, Tryz.func87, Tryz.func88, Tryz.func89, Tryz.func90, Tryz.func91, Tryz.func92, Tryz.func93, Tryz.func94, Tryz.func95, Tryz.func96, Tryz.func97, Tryz.func98, Tryz.func99, Tryz.func109, Tryz.func110, Tryz.func111, Tryz.func112, Tryz.func113, Tryz.underlying132, Tryz.runUnderlying132, Tryz.sizeOf132, Tryz.isAgg132, Tryz.zeroValue132, Tryz.underlying134, Tryz.runUnderlying134, Tryz.sizeOf134, Tryz.isAgg134, Tryz.zeroValue134, Tryz.underlying136, Tryz.runUnderlying136, Tryz.sizeOf136, Tryz.isAgg136, Tryz.zeroValue136, Tryz.underlying115, Tryz.runUnderlying115, Tryz.sizeOf115, Tryz.isAgg115, Tryz.zeroValue115, Tryz.underlying112, Tryz.runUnderlying112, Tryz.sizeOf112, Tryz.isAgg112, Tryz.zeroValue112, Tryz.underlying110, Tryz.runUnderlying110, Tryz.sizeOf110, Tryz.isAgg110, Tryz.zeroValue110, Tryz.underlying140, Tryz.runUnderlying140, Tryz.sizeOf140, Tryz.isAgg140, Tryz.zeroValue140, Tryz.underlying113, Tryz.runUnderlying113, Tryz.sizeOf113, Tryz.isAgg113, Tryz.zeroValue113, Tryz.underlying141, Tryz.runUnderlying141, Tryz.sizeOf141, Tryz.isAgg141, Tryz.zeroValue141, Tryz.underlying160, Tryz.runUnderlying160, Tryz.sizeOf160, Tryz.isAgg160, Tryz.zeroValue160, Tryz.underlying162, Tryz.runUnderlying162, Tryz.sizeOf162, Tryz.isAgg162, Tryz.zeroValue162, Tryz.underlying0, Tryz.runUnderlying0, Tryz.sizeOf0, Tryz.isAgg0, Tryz.zeroValue0, Tryz.underlying3, Tryz.runUnderlying3, Tryz.sizeOf3, Tryz.isAgg3, Tryz.zeroValue3, Tryz.underlying4, Tryz.runUnderlying4, Tryz.sizeOf4, Tryz.isAgg4, Tryz.zeroValue4, Tryz.underlying9, Tryz.runUnderlying9, Tryz.sizeOf9, Tryz.isAgg9, Tryz.zeroValue9, Tryz.underlying20, Tryz.runUnderlying20, Tryz.sizeOf20, Tryz.isAgg20, Tryz.zeroValue20, Tryz.underlying21, Tryz.runUnderlying21, Tryz.sizeOf21, Tryz.isAgg21, Tryz.zeroValue21,(by kernel_rfl),(by kernel_rfl)⟩
end Go.Proofs
/- n workers of one call of impl.differences: who touches what; what a worker knows of the world. (Round C) -/
namespace Go.Proofs.YtgaimkihacljdaaGreat
set_option linter.unusedSectionVars false
open Go.Conc Go.RowKit Go.Conc.Lib
open Go.ConcN (ShN RelBy RW RC WgLive PayAt Has)
open Go.ConcR (KK wgBlock WgAt stA smA rd wr mk Payload Aside2 DC0)
open Go.ConcX.Gen (add_block)
instance:Payload:=⟨4⟩
def wk(n:Nat):Nat:=(n+63)/64
def lo(n k:Nat):Nat:=min (64*k) n
def OwnD(N n k:Nat)(l:Loc):Prop:=∃i,lo n k≤i∧i<lo n (k+1)∧l= .cell ⟨N+2,i,none⟩
def RdD(N:Nat)(Shun:Loc→Prop)(k:Nat)(l:Loc):Prop:=∃a:Addr,l= .cell a∧a.block<N+6+k∧a.block≠N+4∧a.block≠N+2∧¬Shun l
abbrev famD(N n base:Nat)(Shun:Loc→Prop):Fam:={ Wg:=N+4,Shun:=Shun,base:=base,Own:=OwnD N n,Rd:=RdD N Shun}
noncomputable abbrev cfg (N n base:Nat) (Shun:Loc→Prop) (val:Nat→Value) (An E:Goroutine→World→Prop):Crew:=
 { P:= Tryz.prog,ty:=115,C:=N+2,L:=n,n:=wk n,F:=famD N n base Shun,B:=N+6+wk n,Lws:=fun j=>N+5+j,lo:=lo n,val:=val,An:=An,E:=E}
def fkw(k:Nat):Int:=64*(k:Int)
theorem QCn{n k:Nat}(h:k<wk n):lo n k<lo n (k+1):=by unfold lo;unfold wk at h;omega
theorem QCs{n k:Nat}(h:k<wk n):lo n k=64*k:=by unfold lo;unfold wk at h;omega
theorem QCv{n a b:Nat}(h:a≤b):lo n a≤lo n b:=by unfold lo;omega
theorem QCm{n k:Nat}:lo n k≤n:=by unfold lo;omega
section
variable {N n base : Nat} {Shun : Loc → Prop} {val : Nat → Value} {An E : Goroutine → World → Prop}
theorem QCl(hb:0<base)(hS: ∀a:Addr,N≤a.block→¬Shun (.cell a)):QzC (famD N n base Shun):=by
 refine⟨hb,?_,?_,?_,?_,?_,?_,?_⟩
 ·rintro k k' l ⟨i,h1,h2,rfl⟩ ⟨i',h3,h4,e⟩
  simp only[Loc.cell.injEq,Addr.mk.injEq,true_and,and_true] at e
  subst e
  rcases Nat.lt_trichotomy k k' with h|h|h
  ·have:=QCv (n:=n) (show k+1≤k' by omega);omega
  ·exact h
  ·have:=QCv (n:=n) (show k'+1≤k by omega);omega
 ·rintro k k' l ⟨i,h1,h2,rfl⟩ ⟨a,e,_,_,h,_⟩
  cases e
  exact h rfl
 ·rintro k l ⟨i,h1,h2,rfl⟩ ⟨a,e,h⟩
  cases e
  have h':N+2=N+4:=h
  omega
 ·rintro k l ⟨a,rfl,_,h,_,_⟩ ⟨b,e,h'⟩
  cases e
  exact h h'
 ·rintro k l ⟨i,h1,h2,rfl⟩
  exact hS _ (show N≤N+2 by omega)
 ·rintro k l ⟨a,rfl,_,_,_,h⟩
  exact h
 ·rintro k l (⟨i,_,_,rfl⟩|⟨a,rfl,_⟩)<;>rfl
theorem QCo(hb:0<base)(hn:n≤1048576)(hS: ∀a:Addr,N≤a.block→¬Shun (.cell a)):QCu (cfg N n base Shun val An E):=by
 refine⟨QCl hb hS,fun a b h=>?_,?_,?_,?_,?_,fun k hk=>QCn hk,?_,?_,?_⟩
 ·show N+5+a≤N+5+b;omega
 ·show N+4<N+5+0;omega
 ·show N+2<N+5+0;omega
 ·show N+2≠N+4;omega
 ·show wk n<_;unfold wk;omega
 ·show lo n 0=0;unfold lo;omega
 ·show lo n (wk n)=n;unfold lo wk;omega
 ·show N+4<N+6+wk n;omega
theorem QCp{j:Nat}(a:Addr)(wr:Bool)(h1:a.block≠N+4)(h2:a.block≠N+2)(h3: ¬Shun (.cell a))(h4:wr=false∨N+5+j≤a.block)(h5:a.block<N+6+wk n):EvC (cfg N n base Shun val An E) j ⟨.cell a,wr,false⟩:=by
 refine⟨fun fn pos=>⟨rfl,fun x hx=> .inr ?_⟩,by simp,by simp,by simp,?_⟩
 ·simp only[ofEvent_cell0,MemAct.touch?,Option.some.injEq] at hx
  subst hx
  refine⟨?_,h3,?_,?_⟩
  ·rintro⟨b,e,h⟩
   cases e
   exact h1 h
  ·rintro k _ ⟨i,_,_,e⟩
   cases e
   exact h2 rfl
  ·rintro e k hk ⟨b,e',h,_⟩
   cases e'
   rcases h4 with rfl|h4
   ·cases e
   ·omega
 ·rw[ofEvent_cell0];exact h5
theorem QCq{k:Nat}(hk:k<wk n)(a:Addr)(h:a.block<N+6+k)(h1:a.block≠N+4)(h2:a.block≠N+2)(h3: ¬Shun (.cell a)):EvM (cfg N n base Shun val An E) k ⟨.cell a,false,false⟩:=by
 refine⟨fun fn pos=>⟨rfl,fun x hx=> .inr ?_⟩,by simp,by simp,by simp,?_⟩
 ·simp only[ofEvent_cell0,MemAct.touch?,Option.some.injEq] at hx
  subst hx
  exact⟨by simp,.inr ⟨⟨a,rfl,h,h1,h2,h3⟩,rfl⟩⟩
 ·rw[ofEvent_cell0]
  show a.block<N+6+wk n
  omega
theorem QCr{k i:Nat}(h1:lo n k≤i)(h2:i<lo n (k+1)):EvM (cfg N n base Shun val An E) k ⟨.cell ⟨N+2,i,none⟩,true,false⟩:=by
 refine⟨fun fn pos=>⟨rfl,fun x hx=> .inr ?_⟩,by simp,by simp,by simp,?_⟩
 ·simp only[ofEvent_cell0,MemAct.touch?,Option.some.injEq] at hx
  subst hx
  exact⟨by simp,.inl ⟨i,h1,h2,rfl⟩⟩
 ·rw[ofEvent_cell0]
  show N+2<N+6+wk n
  omega
theorem QCk{k i:Nat}(h1:lo n k≤i)(h2:i<lo n (k+1))(w:World)(v:Value):Qzt (cfg N n base Shun val An E) (lo n k) (lo n (k+1)) w (w.setCell ⟨N+2,i,none⟩ v):=by
 have hA:=aside_setCell w ⟨N+2,i,none⟩ v
 refine⟨hA.tape,hA.os,hA.output,hA.size,fun x hx=>hA.block x hx,?_,fun i' hi=>World.cell?_setCell_other _ _ _ _ ?_⟩
 ·rintro⟨cs,h,hs⟩
  refine⟨cs.setIfInBounds i v,?_,by simpa using hs⟩
  show(w.setCell ⟨N+2,i,none⟩ v).heap[N+2]? =_
  rw[setCell_eq_setRow w (N+2) i cs 4 (0,0) _ h,setRow_heap w (N+2) _ _ 4 _ h]
  rfl
 ·intro e
  have:i=i':=congrArg Addr.off e
  omega
end
structure Job(N:Nat)(Shun:Loc→Prop)(A:Option Addr)(la:Nat)(B:Option Addr)(lb n:Nat)(arr:Array Value)(xs ys:Nat→Int):Prop where
 size:arr.size=n
 max:n=max la lb
 le:n≤1048576
 fresh: ∀a:Addr,N≤a.block→¬Shun (.cell a)
 a: ∀i,i<la→i<lb→∃ad,A=some ad∧ad.block<N
 b: ∀i,i<la→i<lb→∃ad,B=some ad∧ad.block<N
 okA: ∀i ad,i<la→i<lb→A=some ad→¬Shun (.cell (ad.add i))
 okB: ∀i ad,i<la→i<lb→B=some ad→¬Shun (.cell (ad.add i))
 v: ∀i,i<n→arr[i]? =some (.bool (decide (la≤i) || decide (lb≤i) || (xs i != ys i)))
abbrev valD(arr:Array Value)(i:Nat):Value:=arr.getD i undef
structure CK(N:Nat)(A:Option Addr)(la ca:Nat)(B:Option Addr)(lb cb n:Nat)(arr:Array Value)(xs ys:Nat→Int)(k j:Nat)(w:World):Prop where
 xa:w.cell? ⟨N,0,none⟩=some (.slice A la ca)
 xb:w.cell? ⟨N+1,0,none⟩=some (.slice B lb cb)
 out:w.cell? ⟨N+3,0,none⟩=some (.slice (some ⟨N+2,0,none⟩) n n)
 frm:w.cell? ⟨N+5+k,0,none⟩=some (.int .i64 (fkw k))
 ea: ∀i ad,i<la→i<lb→A=some ad→w.cell? (ad.add i)=some (.int .i64 (xs i))
 eb: ∀i ad,i<la→i<lb→B=some ad→w.cell? (ad.add i)=some (.int .i64 (ys i))
 live:WgLive 115 (N+4) w
 pay:PayAt (N+2) n w
 fill: ∀i,lo n k≤i→i<j→i<lo n (k+1)→Has (N+2) i (valD arr i) w
section
variable {N n base : Nat} {Shun : Loc → Prop} {An E : Goroutine → World → Prop} {A B : Option Addr} {la ca lb cb : Nat} {arr : Array Value} {xs ys : Nat → Int} {k j : Nat} {w w₁ : World}
abbrev RK(N n base:Nat)(Shun:Loc→Prop)(arr:Array Value)(An E:Goroutine→World→Prop)(k:Nat):World→World→Prop:=RM (cfg N n base Shun (valD arr) An E) (N+5+(k+1)) (lo n k) (lo n (k+1))
abbrev DK(N n base:Nat)(Shun:Loc→Prop)(arr:Array Value)(An E:Goroutine→World→Prop)(k:Nat):World→World→Array Event→Prop:=DM (cfg N n base Shun (valD arr) An E) k
theorem CK.rely(hJ:Job N Shun A la B lb n arr xs ys)(h:CK N A la ca B lb cb n arr xs ys k j w)(r:RK N n base Shun arr An E k w w₁):CK N A la ca B lb cb n arr xs ys k j w₁:=by
 have hl: ∀b,b<N+6+k→b≠N+4→b≠N+2→w₁.heap[b]? =w.heap[b]? :=fun b hb h1 h2=>r.low b (show b<N+5+(k+1) by omega) h1 h2
 refine⟨(World.cell?_of_block (hl N (by omega) (by omega) (by omega))).trans h.xa,(World.cell?_of_block (hl (N+1) (by omega) (by omega) (by omega))).trans h.xb,(World.cell?_of_block (hl (N+3) (by omega) (by omega) (by omega))).trans h.out,(World.cell?_of_block (hl (N+5+k) (by omega) (by omega) (by omega))).trans h.frm,
  fun i ad h1 h2 ha=>?_,fun i ad h1 h2 ha=>?_,r.live h.live,r.pay h.pay,fun i h1 h2 h3=>(r.cell i h1 h3).trans (h.fill i h1 h2 h3)⟩
 ·obtain⟨ad',e,hlt⟩:=hJ.a i h1 h2
  obtain rfl:=Option.some.inj (ha.symm.trans e)
  exact(World.cell?_of_block (hl (ad.add i).block (by rw[add_block];omega) (by rw[add_block];omega) (by rw[add_block];omega))).trans (h.ea i ad h1 h2 ha)
 ·obtain⟨ad',e,hlt⟩:=hJ.b i h1 h2
  obtain rfl:=Option.some.inj (ha.symm.trans e)
  exact(World.cell?_of_block (hl (ad.add i).block (by rw[add_block];omega) (by rw[add_block];omega) (by rw[add_block];omega))).trans (h.eb i ad h1 h2 ha)
theorem CK.cellAt(h:CK N A la ca B lb cb n arr xs ys k j w){i:Nat}(hi:i<n): ∃u,w.cell? ⟨N+2,i,none⟩=some u∧w.frozen? ⟨N+2,i,none⟩=false:=by
 obtain⟨cs,h1,h2⟩:=h.pay
 exact⟨cs[i]'(by omega),by simp[World.cell?,h1,h2,hi],by simp[World.frozen?,h1]⟩
theorem CK.less(h:CK N A la ca B lb cb n arr xs ys k (j+1) w):CK N A la ca B lb cb n arr xs ys k j w:=
 ⟨h.xa,h.xb,h.out,h.frm,h.ea,h.eb,h.live,h.pay,fun i h1 h2 h3=>h.fill i h1 (by omega) h3⟩
theorem CK.store(hJ:Job N Shun A la B lb n arr xs ys)(h:CK N A la ca B lb cb n arr xs ys k j w)(h1:lo n k≤j)(h2:j<lo n (k+1)){v:Value}(hv:arr[j]? =some v):CK N A la ca B lb cb n arr xs ys k (j+1) (w.setCell ⟨N+2,j,none⟩ v):=by
 have hA:=aside_setCell w ⟨N+2,j,none⟩ v
 have hM:=QCk (base:=0) (Shun:=Shun) (val:=valD arr) (An:=fun _ _=>True) (E:=fun _ _=>True) (N:=N) h1 h2 w v
 refine⟨(World.cell?_of_block (hA.block N (by simp))).trans h.xa,(World.cell?_of_block (hA.block (N+1) (by simp))).trans h.xb,(World.cell?_of_block (hA.block (N+3) (by simp))).trans h.out,(World.cell?_of_block (hA.block (N+5+k) (by simp;omega))).trans h.frm,
  fun i ad h1 h2 ha=>?_,fun i ad h1 h2 ha=>?_,?_,hM.pay h.pay,fun i h3 h4 h5=>?_⟩
 ·obtain⟨ad',e,hlt⟩:=hJ.a i h1 h2
  obtain rfl:=Option.some.inj (ha.symm.trans e)
  exact(World.cell?_of_block (hA.block (ad.add i).block (by rw[add_block];simp;omega))).trans (h.ea i ad h1 h2 ha)
 ·obtain⟨ad',e,hlt⟩:=hJ.b i h1 h2
  obtain rfl:=Option.some.inj (ha.symm.trans e)
  exact(World.cell?_of_block (hA.block (ad.add i).block (by rw[add_block];simp;omega))).trans (h.eb i ad h1 h2 ha)
 ·obtain⟨st,sm,hl⟩:=h.live
  exact⟨st,sm,hl.of_block (hA.block (N+4) (by simp))⟩
 ·rcases Nat.lt_or_ge i j with hlt|hge
  ·exact(World.cell?_setCell_other _ _ _ _ (by intro e;have:j=i:=congrArg Addr.off e;omega)).trans (h.fill i h3 hlt h5)
  ·obtain rfl:i=j:=by omega
   obtain⟨u,hu,_⟩:=h.cellAt (show i<n by have:=QCm (n:=n) (k:=k+1);omega)
   show(w.setCell ⟨N+2,i,none⟩ v).cell? ⟨N+2,i,none⟩=some (valD arr i)
   rw[World.cell?_setCell_same _ _ _ hu]
   unfold valD
   rw[Array.getD_eq_getD_getElem?,hv,Option.getD_some]
theorem QCt(N n base:Nat)(Shun:Loc→Prop)(arr:Array Value)(An E:Goroutine→World→Prop)(k:Nat):Terms (RK N n base Shun arr An E k) (DK N n base Shun arr An E k):=
 ⟨fun _ _ _ h k=>h.trans k,fun w=>⟨Qzt.refl w,by simp⟩⟩
end
def bW:Frame:=baseD 66
noncomputable def botW:Frame:={ (default:Frame) with fn:= Tryz.prog.funcs.size,defers:=[],mode:= .panicking [goexitEntry]}
noncomputable def bodyW:Code:= Tryz.f66.body.getD .skip
noncomputable def LW:Code:=match bodyW with| .seq _ (.seq _ (.block _ (.loop c)))=>c|_=> .skip
def QcQ(N k:Nat):Deferred:={ target:= .fn (.func 66) #[.pointer (some ⟨N+4,0,none⟩),.pointer (some ⟨N+5+k,0,none⟩),.pointer (some ⟨N+3,0,none⟩),.pointer (some ⟨N,0,none⟩),.pointer (some ⟨N+1,0,none⟩)],args:=#[]}
theorem Qgr:(Tryz.prog.funcs[bW.fn]?).any (·.norace)=false:=by kernel_rfl
end Go.Proofs.YtgaimkihacljdaaGreat
/- A worker's comparison: a region that draws its order. (Round C) -/
namespace Go.Proofs.YtgaimkihacljdaaGreat
set_option linter.unusedSectionVars false
open Go.Conc Go.RowKit Go.Conc.Lib
open Go.ConcN (ShN RelBy RW RC WgLive PayAt Has)
open Go.ConcR (KK wgBlock WgAt stA smA rd wr mk Payload Aside2 DC0)
open Go.ConcX.Gen (add_block)
theorem Qfr(T:Array Value)(h:T.size=40): ∃v0 v1 v2 v3 v4 v5 v6 v7 v8 v9 v10 v11 v12 v13 v14 v15 v16 v17 v18 v19 v20 v21 v22 v23 v24 v25 v26 v27 v28 v29 v30 v31 v32 v33 v34 v35 v36 v37 v38 v39:Value,T= #[v0,v1,v2,v3,v4,v5,v6,v7,v8,v9,v10,v11,v12,v13,v14,v15,v16,v17,v18,v19,v20,v21,v22,v23,v24,v25,v26,v27,v28,v29,v30,v31,v32,v33,v34,v35,v36,v37,v38,v39]:=by
 obtain⟨l⟩:=T
 simp only[List.size_toArray] at h
 rcases l with _|⟨v0,l⟩
 ·simp at h
 rcases l with _|⟨v1,l⟩
 ·simp at h
 rcases l with _|⟨v2,l⟩
 ·simp at h
 rcases l with _|⟨v3,l⟩
 ·simp at h
 rcases l with _|⟨v4,l⟩
 ·simp at h
 rcases l with _|⟨v5,l⟩
 ·simp at h
 rcases l with _|⟨v6,l⟩
 ·simp at h
 rcases l with _|⟨v7,l⟩
 ·simp at h
 rcases l with _|⟨v8,l⟩
 ·simp at h
 rcases l with _|⟨v9,l⟩
 ·simp at h
 rcases l with _|⟨v10,l⟩
 ·simp at h
 rcases l with _|⟨v11,l⟩
 ·simp at h
 rcases l with _|⟨v12,l⟩
 ·simp at h
 rcases l with _|⟨v13,l⟩
 ·simp at h
 rcases l with _|⟨v14,l⟩
 ·simp at h
 rcases l with _|⟨v15,l⟩
 ·simp at h
 rcases l with _|⟨v16,l⟩
 ·simp at h
 rcases l with _|⟨v17,l⟩
 ·simp at h
 rcases l with _|⟨v18,l⟩
 ·simp at h
 rcases l with _|⟨v19,l⟩
 ·simp at h
 rcases l with _|⟨v20,l⟩
 ·simp at h
 rcases l with _|⟨v21,l⟩
 ·simp at h
 rcases l with _|⟨v22,l⟩
 ·simp at h
 rcases l with _|⟨v23,l⟩
 ·simp at h
 rcases l with _|⟨v24,l⟩
 ·simp at h
 rcases l with _|⟨v25,l⟩
 ·simp at h
 rcases l with _|⟨v26,l⟩
 ·simp at h
 rcases l with _|⟨v27,l⟩
 ·simp at h
 rcases l with _|⟨v28,l⟩
 ·simp at h
 rcases l with _|⟨v29,l⟩
 ·simp at h
 rcases l with _|⟨v30,l⟩
 ·simp at h
 rcases l with _|⟨v31,l⟩
 ·simp at h
 rcases l with _|⟨v32,l⟩
 ·simp at h
 rcases l with _|⟨v33,l⟩
 ·simp at h
 rcases l with _|⟨v34,l⟩
 ·simp at h
 rcases l with _|⟨v35,l⟩
 ·simp at h
 rcases l with _|⟨v36,l⟩
 ·simp at h
 rcases l with _|⟨v37,l⟩
 ·simp at h
 rcases l with _|⟨v38,l⟩
 ·simp at h
 rcases l with _|⟨v39,l⟩
 ·simp at h
 rcases l with _|⟨x,l⟩
 ·exact⟨v0,v1,v2,v3,v4,v5,v6,v7,v8,v9,v10,v11,v12,v13,v14,v15,v16,v17,v18,v19,v20,v21,v22,v23,v24,v25,v26,v27,v28,v29,v30,v31,v32,v33,v34,v35,v36,v37,v38,v39,rfl⟩
 ·simp at h
noncomputable def R4:Code:=match LW with| .seq _ (.seq (.block _ c) _)=>c|_=> .skip
section
variable {N n base : Nat} {Shun : Loc → Prop} {An E : Goroutine → World → Prop} {A B : Option Addr} {la ca lb cb : Nat} {arr : Array Value} {xs ys : Nat → Int} {k j : Nat} {w w₁ : World}
theorem QfJ(N n base:Nat)(Shun:Loc→Prop)(arr:Array Value)(An E:Goroutine→World→Prop)(k:Nat):LetsDraw (DK N n base Shun arr An E k):=fun w=>⟨⟨rfl,rfl,rfl,rfl,fun _ _=>rfl,id,fun _ _=>rfl⟩,by simp⟩
theorem QfK(N n base:Nat)(Shun:Loc→Prop)(arr:Array Value)(An E:Goroutine→World→Prop)(k:Nat)(w:World):RK N n base Shun arr An E k w { w with drawn:=w.drawn+1}:=RM.at w _
theorem Qg9{ops:Array Oper}{o:Oper}{a:Act}{x y:Operand}{q:Bool}{K:Act→World→Prop}(ho:ops[24]? =some o)(hop:o.op= .store 4 x y)(hg:o.guard=none)(hx:a.eval x= .pointer (some ⟨N+2,j,none⟩))(hy:a.eval y= .bool q)(hv:arr[j]? =some (.bool q))
 (hJ:Job N Shun A la B lb n arr xs ys)(hF:CK N A la ca B lb cb n arr xs ys k j w)(hj0:lo n k≤j)(hj1:j<lo n (k+1))(hK: ∀w',CK N A la ca B lb cb n arr xs ys k (j+1) w'→K (a.put o.dst undef) w'):
 OpC Tryz.prog (RK N n base Shun arr An E k) (DK N n base Shun arr An E k) 66 ops 24 K a w:=by
 unfold OpC
 rw[ho]
 dsimp only
 rw[if_pos (by unfold Region.wanted;rw[hg])]
 intro w₁ r
 replace hF:=hF.rely hJ r
 obtain⟨u,hc,hz⟩:=hF.cellAt (Nat.lt_of_lt_of_le hj1 QCm)
 have hr:(execOp a.eval o).run Tryz.prog w₁= .ok .skip (w₁.setCell ⟨N+2,j,none⟩ (.bool q)):=by
  unfold execOp
  simp only[hop,hx,hy]
  simp[go_sem,stored,hc,hz]
 have he:(execOp a.eval o).events Tryz.prog w₁ #[]= #[⟨.cell ⟨N+2,j,none⟩,true,false⟩]:=by
  unfold execOp
  simp only[hop,hx,hy]
  simp[go_sem]
  rw[events_store _ _ _ _ _ _ rfl]
  simp[hc,hz]
 rw[hr]
 refine⟨⟨QCk hj0 hj1 _ _,fun e hm=>?_⟩,hK _ (hF.store hJ hj0 hj1 hv)⟩
 unfold listed at hm
 change e∈seen Tryz.prog bW.fn _ at hm
 rw[he,seen_eq Qgr (by simp),Array.mem_singleton] at hm
 subst hm
 exact QCr hj0 hj1
set_option maxRecDepth 100000 in
set_option maxHeartbeats 4000000 in
theorem QtC(hJ:Job N Shun A la B lb n arr xs ys)(hk:k<wk n)(hj0:lo n k≤j)(hj1:j<lo n (k+1))(hla:la≤j)(w:World)(ds:List Deferred)(v6 v7 v8 v9 v10 v11 v12 v13 v14 v15 v16 v17 v18 v19 v20 v21 v22 v23 v24 v25 v26 v27 v28 v29 v30 v31 v32 v33 v34 v35 v36 v37 v38 v39:Value)(hF:CK N A la ca B lb cb n arr xs ys k j w):
 R4.wpC Tryz.prog false (RK N n base Shun arr An E k) (DK N n base Shun arr An E k) 66 27
  (fun e a' w'=>e= .normal∧a'.defers=ds∧a'.tmps.size=40∧(∀i,i<6→a'.tmps[i]? =(#[.pointer (some ⟨N+4,0,none⟩),.pointer (some ⟨N+5+k,0,none⟩),.pointer (some ⟨N+3,0,none⟩),.pointer (some ⟨N,0,none⟩),.pointer (some ⟨N+1,0,none⟩),.int .i64 j,v6,v7,v8,v9,v10,v11,v12,v13,v14,v15,v16,v17,v18,v19,v20,v21,v22,v23,v24,v25,v26,v27,v28,v29,v30,v31,v32,v33,v34,v35,v36,v37,v38,v39]:Array Value)[i]?)∧CK N A la ca B lb cb n arr xs ys k (j+1) w') ⟨#[.pointer (some ⟨N+4,0,none⟩),.pointer (some ⟨N+5+k,0,none⟩),.pointer (some ⟨N+3,0,none⟩),.pointer (some ⟨N,0,none⟩),.pointer (some ⟨N+1,0,none⟩),.int .i64 j,v6,v7,v8,v9,v10,v11,v12,v13,v14,v15,v16,v17,v18,v19,v20,v21,v22,v23,v24,v25,v26,v27,v28,v29,v30,v31,v32,v33,v34,v35,v36,v37,v38,v39],ds⟩ w:=by
 have hj:j<n:=Nat.lt_of_lt_of_le hj1 QCm
 have hjn:(j:Int)<(n:Int):=by omega
 have hjz:(0:Int)≤(j:Int):=by omega
 have hge:(la:Int)≤(j:Int):=by omega
 have hv:=hJ.v j hj
 simp only[R4,LW,bodyW, Tryz.f66,Option.getD_some]
 co_held (QCt N n base Shun arr An E k) (QfJ N n base Shun arr An E k) (QfK N n base Shun arr An E k) (CK N _ la ca _ lb cb n arr xs ys k j) (CK.rely hJ) hF
 (co_applyP anyCH_take (QCt N n base Shun arr An E k) (fun _ _ h r=>CK.rely hJ h r) (fun _ _ _ h r=>⟨h.1,h.2.1,h.2.2.1,h.2.2.2.1,CK.rely hJ h.2.2.2.2 r⟩) (i:=0) rfl (by first|kernel_rfl|decide+kernel) (by first|kernel_rfl|decide+kernel) (by first|kernel_rfl|decide+kernel) (.inl ⟨by rfl,fun _ hw=>⟨run_eq_of ?run0,?guar0⟩⟩) hF ?rest0;(case run0=>(intro K hK;(have hc:=hw.out);go_simp;exact hK));(case guar0=>((have hc:=hw.out);(refine⟨Qzt.refl _,?_⟩;co_evs (exact QCq hk _ (by simp<;>omega) (by simp) (by simp) (hJ.fresh _ (by simp))))));try walk_nrm)
 (co_applyP anyCH_take (QCt N n base Shun arr An E k) (fun _ _ h r=>CK.rely hJ h r) (fun _ _ _ h r=>⟨h.1,h.2.1,h.2.2.1,h.2.2.2.1,CK.rely hJ h.2.2.2.2 r⟩) (i:=1) rfl (by first|kernel_rfl|decide+kernel) (by first|kernel_rfl|decide+kernel) (by first|kernel_rfl|decide+kernel) (.inl ⟨by rfl,fun _ hw=>⟨run_eq_of ?run1,?guar1⟩⟩) hF ?rest1;(case run1=>(intro K hK;(skip);go_simp;exact hK));(case guar1=>((skip);(co_quiet (QCt N n base Shun arr An E k))));try walk_nrm)
 (co_applyP anyCH_take (QCt N n base Shun arr An E k) (fun _ _ h r=>CK.rely hJ h r) (fun _ _ _ h r=>⟨h.1,h.2.1,h.2.2.1,h.2.2.2.1,CK.rely hJ h.2.2.2.2 r⟩) (i:=2) rfl (by first|kernel_rfl|decide+kernel) (by first|kernel_rfl|decide+kernel) (by first|kernel_rfl|decide+kernel) (.inl ⟨by rfl,fun _ hw=>⟨run_eq_of ?run2,?guar2⟩⟩) hF ?rest2;(case run2=>(intro K hK;(skip);go_simp;exact hK));(case guar2=>((skip);(co_quiet (QCt N n base Shun arr An E k))));try walk_nrm)
 (co_applyP anyCH_take (QCt N n base Shun arr An E k) (fun _ _ h r=>CK.rely hJ h r) (fun _ _ _ h r=>⟨h.1,h.2.1,h.2.2.1,h.2.2.2.1,CK.rely hJ h.2.2.2.2 r⟩) (i:=3) rfl (by first|kernel_rfl|decide+kernel) (by first|kernel_rfl|decide+kernel) (by first|kernel_rfl|decide+kernel) (.inl ⟨by rfl,fun _ hw=>⟨run_eq_of ?run3,?guar3⟩⟩) hF ?rest3;(case run3=>(intro K hK;(have hc:=hw.xa);go_simp;exact hK));(case guar3=>((have hc:=hw.xa);(refine⟨Qzt.refl _,?_⟩;co_evs (exact QCq hk _ (by simp<;>omega) (by simp) (by simp) (hJ.fresh _ (by simp))))));try walk_nrm)
 (co_applyP anyCH_take (QCt N n base Shun arr An E k) (fun _ _ h r=>CK.rely hJ h r) (fun _ _ _ h r=>⟨h.1,h.2.1,h.2.2.1,h.2.2.2.1,CK.rely hJ h.2.2.2.2 r⟩) (i:=4) rfl (by first|kernel_rfl|decide+kernel) (by first|kernel_rfl|decide+kernel) (by first|kernel_rfl|decide+kernel) (.inl ⟨by rfl,fun _ hw=>⟨run_eq_of ?run4,?guar4⟩⟩) hF ?rest4;(case run4=>(intro K hK;(skip);go_simp;exact hK));(case guar4=>((skip);(co_quiet (QCt N n base Shun arr An E k))));try walk_nrm)
 (co_applyP anyCH_take (QCt N n base Shun arr An E k) (fun _ _ h r=>CK.rely hJ h r) (fun _ _ _ h r=>⟨h.1,h.2.1,h.2.2.1,h.2.2.2.1,CK.rely hJ h.2.2.2.2 r⟩) (i:=5) rfl (by first|kernel_rfl|decide+kernel) (by first|kernel_rfl|decide+kernel) (by first|kernel_rfl|decide+kernel) (.inl ⟨by rfl,fun _ hw=>⟨run_eq_of ?run5,?guar5⟩⟩) hF ?rest5;(case run5=>(intro K hK;(skip);go_simp;exact hK));(case guar5=>((skip);(co_quiet (QCt N n base Shun arr An E k))));try walk_nrm)
 (co_applyP anyCH_take (QCt N n base Shun arr An E k) (fun _ _ h r=>CK.rely hJ h r) (fun _ _ _ h r=>⟨h.1,h.2.1,h.2.2.1,h.2.2.2.1,CK.rely hJ h.2.2.2.2 r⟩) (i:=6) rfl (by first|kernel_rfl|decide+kernel) (by first|kernel_rfl|decide+kernel) (by first|kernel_rfl|decide+kernel) (.inl ⟨by rfl,fun _ hw=>⟨run_eq_of ?run6,?guar6⟩⟩) hF ?rest6;(case run6=>(intro K hK;(skip);go_simp;exact hK));(case guar6=>((skip);(co_quiet (QCt N n base Shun arr An E k))));try walk_nrm)
 (co_applyP anyCH_take (QCt N n base Shun arr An E k) (fun _ _ h r=>CK.rely hJ h r) (fun _ _ _ h r=>⟨h.1,h.2.1,h.2.2.1,h.2.2.2.1,CK.rely hJ h.2.2.2.2 r⟩) (i:=7) rfl (by first|kernel_rfl|decide+kernel) (by first|kernel_rfl|decide+kernel) (by first|kernel_rfl|decide+kernel) (.inr ⟨by rfl,rfl⟩) hF ?rest7;try walk_nrm)
 (co_applyP anyCH_take (QCt N n base Shun arr An E k) (fun _ _ h r=>CK.rely hJ h r) (fun _ _ _ h r=>⟨h.1,h.2.1,h.2.2.1,h.2.2.2.1,CK.rely hJ h.2.2.2.2 r⟩) (i:=8) rfl (by first|kernel_rfl|decide+kernel) (by first|kernel_rfl|decide+kernel) (by first|kernel_rfl|decide+kernel) (.inr ⟨by rfl,rfl⟩) hF ?rest8;try walk_nrm)
 (co_applyP anyCH_take (QCt N n base Shun arr An E k) (fun _ _ h r=>CK.rely hJ h r) (fun _ _ _ h r=>⟨h.1,h.2.1,h.2.2.1,h.2.2.2.1,CK.rely hJ h.2.2.2.2 r⟩) (i:=9) rfl (by first|kernel_rfl|decide+kernel) (by first|kernel_rfl|decide+kernel) (by first|kernel_rfl|decide+kernel) (.inr ⟨by rfl,rfl⟩) hF ?rest9;try walk_nrm)
 (co_applyP anyCH_take (QCt N n base Shun arr An E k) (fun _ _ h r=>CK.rely hJ h r) (fun _ _ _ h r=>⟨h.1,h.2.1,h.2.2.1,h.2.2.2.1,CK.rely hJ h.2.2.2.2 r⟩) (i:=10) rfl (by first|kernel_rfl|decide+kernel) (by first|kernel_rfl|decide+kernel) (by first|kernel_rfl|decide+kernel) (.inr ⟨by rfl,rfl⟩) hF ?rest10;try walk_nrm)
 (co_applyP anyCH_take (QCt N n base Shun arr An E k) (fun _ _ h r=>CK.rely hJ h r) (fun _ _ _ h r=>⟨h.1,h.2.1,h.2.2.1,h.2.2.2.1,CK.rely hJ h.2.2.2.2 r⟩) (i:=11) rfl (by first|kernel_rfl|decide+kernel) (by first|kernel_rfl|decide+kernel) (by first|kernel_rfl|decide+kernel) (.inl ⟨by rfl,fun _ hw=>⟨run_eq_of ?run11,?guar11⟩⟩) hF ?rest11;(case run11=>(intro K hK;(skip);go_simp;exact hK));(case guar11=>((skip);(co_quiet (QCt N n base Shun arr An E k))));try walk_nrm)
 (co_applyP anyCH_take (QCt N n base Shun arr An E k) (fun _ _ h r=>CK.rely hJ h r) (fun _ _ _ h r=>⟨h.1,h.2.1,h.2.2.1,h.2.2.2.1,CK.rely hJ h.2.2.2.2 r⟩) (i:=12) rfl (by first|kernel_rfl|decide+kernel) (by first|kernel_rfl|decide+kernel) (by first|kernel_rfl|decide+kernel) (.inl ⟨by rfl,fun _ hw=>⟨run_eq_of ?run12,?guar12⟩⟩) hF ?rest12;(case run12=>(intro K hK;(skip);go_simp;exact hK));(case guar12=>((skip);(co_quiet (QCt N n base Shun arr An E k))));try walk_nrm)
 (co_applyP anyCH_take (QCt N n base Shun arr An E k) (fun _ _ h r=>CK.rely hJ h r) (fun _ _ _ h r=>⟨h.1,h.2.1,h.2.2.1,h.2.2.2.1,CK.rely hJ h.2.2.2.2 r⟩) (i:=13) rfl (by first|kernel_rfl|decide+kernel) (by first|kernel_rfl|decide+kernel) (by first|kernel_rfl|decide+kernel) (.inr ⟨by rfl,rfl⟩) hF ?rest13;try walk_nrm)
 (co_applyP anyCH_take (QCt N n base Shun arr An E k) (fun _ _ h r=>CK.rely hJ h r) (fun _ _ _ h r=>⟨h.1,h.2.1,h.2.2.1,h.2.2.2.1,CK.rely hJ h.2.2.2.2 r⟩) (i:=14) rfl (by first|kernel_rfl|decide+kernel) (by first|kernel_rfl|decide+kernel) (by first|kernel_rfl|decide+kernel) (.inr ⟨by rfl,rfl⟩) hF ?rest14;try walk_nrm)
 (co_applyP anyCH_take (QCt N n base Shun arr An E k) (fun _ _ h r=>CK.rely hJ h r) (fun _ _ _ h r=>⟨h.1,h.2.1,h.2.2.1,h.2.2.2.1,CK.rely hJ h.2.2.2.2 r⟩) (i:=15) rfl (by first|kernel_rfl|decide+kernel) (by first|kernel_rfl|decide+kernel) (by first|kernel_rfl|decide+kernel) (.inr ⟨by rfl,rfl⟩) hF ?rest15;try walk_nrm)
 (co_applyP anyCH_take (QCt N n base Shun arr An E k) (fun _ _ h r=>CK.rely hJ h r) (fun _ _ _ h r=>⟨h.1,h.2.1,h.2.2.1,h.2.2.2.1,CK.rely hJ h.2.2.2.2 r⟩) (i:=16) rfl (by first|kernel_rfl|decide+kernel) (by first|kernel_rfl|decide+kernel) (by first|kernel_rfl|decide+kernel) (.inr ⟨by rfl,rfl⟩) hF ?rest16;try walk_nrm)
 (co_applyP anyCH_take (QCt N n base Shun arr An E k) (fun _ _ h r=>CK.rely hJ h r) (fun _ _ _ h r=>⟨h.1,h.2.1,h.2.2.1,h.2.2.2.1,CK.rely hJ h.2.2.2.2 r⟩) (i:=17) rfl (by first|kernel_rfl|decide+kernel) (by first|kernel_rfl|decide+kernel) (by first|kernel_rfl|decide+kernel) (.inr ⟨by rfl,rfl⟩) hF ?rest17;try walk_nrm)
 (co_applyP anyCH_take (QCt N n base Shun arr An E k) (fun _ _ h r=>CK.rely hJ h r) (fun _ _ _ h r=>⟨h.1,h.2.1,h.2.2.1,h.2.2.2.1,CK.rely hJ h.2.2.2.2 r⟩) (i:=18) rfl (by first|kernel_rfl|decide+kernel) (by first|kernel_rfl|decide+kernel) (by first|kernel_rfl|decide+kernel) (.inr ⟨by rfl,rfl⟩) hF ?rest18;try walk_nrm)
 (co_applyP anyCH_take (QCt N n base Shun arr An E k) (fun _ _ h r=>CK.rely hJ h r) (fun _ _ _ h r=>⟨h.1,h.2.1,h.2.2.1,h.2.2.2.1,CK.rely hJ h.2.2.2.2 r⟩) (i:=19) rfl (by first|kernel_rfl|decide+kernel) (by first|kernel_rfl|decide+kernel) (by first|kernel_rfl|decide+kernel) (.inr ⟨by rfl,rfl⟩) hF ?rest19;try walk_nrm)
 (co_applyP anyCH_take (QCt N n base Shun arr An E k) (fun _ _ h r=>CK.rely hJ h r) (fun _ _ _ h r=>⟨h.1,h.2.1,h.2.2.1,h.2.2.2.1,CK.rely hJ h.2.2.2.2 r⟩) (i:=20) rfl (by first|kernel_rfl|decide+kernel) (by first|kernel_rfl|decide+kernel) (by first|kernel_rfl|decide+kernel) (.inr ⟨by rfl,rfl⟩) hF ?rest20;try walk_nrm)
 (co_applyP anyCH_take (QCt N n base Shun arr An E k) (fun _ _ h r=>CK.rely hJ h r) (fun _ _ _ h r=>⟨h.1,h.2.1,h.2.2.1,h.2.2.2.1,CK.rely hJ h.2.2.2.2 r⟩) (i:=21) rfl (by first|kernel_rfl|decide+kernel) (by first|kernel_rfl|decide+kernel) (by first|kernel_rfl|decide+kernel) (.inr ⟨by rfl,rfl⟩) hF ?rest21;try walk_nrm)
 (co_applyP anyCH_take (QCt N n base Shun arr An E k) (fun _ _ h r=>CK.rely hJ h r) (fun _ _ _ h r=>⟨h.1,h.2.1,h.2.2.1,h.2.2.2.1,CK.rely hJ h.2.2.2.2 r⟩) (i:=22) rfl (by first|kernel_rfl|decide+kernel) (by first|kernel_rfl|decide+kernel) (by first|kernel_rfl|decide+kernel) (.inl ⟨by rfl,fun _ hw=>⟨run_eq_of ?run22,?guar22⟩⟩) hF ?rest22;(case run22=>(intro K hK;(skip);go_simp;exact hK));(case guar22=>((skip);(co_quiet (QCt N n base Shun arr An E k))));try walk_nrm)
 (co_applyP anyCH_take (QCt N n base Shun arr An E k) (fun _ _ h r=>CK.rely hJ h r) (fun _ _ _ h r=>⟨h.1,h.2.1,h.2.2.1,h.2.2.2.1,CK.rely hJ h.2.2.2.2 r⟩) (i:=23) rfl (by first|kernel_rfl|decide+kernel) (by first|kernel_rfl|decide+kernel) (by first|kernel_rfl|decide+kernel) (.inl ⟨by rfl,fun _ hw=>⟨run_eq_of ?run23,?guar23⟩⟩) hF ?rest23;(case run23=>(intro K hK;(skip);go_simp;exact hK));(case guar23=>((skip);(co_still (QCt N n base Shun arr An E k))));try walk_nrm)
 refine anyCH_all (rs:=[24]) (by kernel_rfl) (by simp) (fun i hi=>?_)
 obtain rfl:=List.mem_singleton.1 hi
 refine Qg9 (q:=true) rfl rfl rfl rfl rfl ?_ hJ hF hj0 hj1 (fun w' hw'=>⟨hw'.less,anyCH_done (by kernel_rfl) ⟨rfl,rfl,rfl,?_,hw'⟩ _⟩)
 ·rw[hv];simp;omega
 ·intro i hi
  match i,hi with
  |0,_=>rfl
  |1,_=>rfl
  |2,_=>rfl
  |3,_=>rfl
  |4,_=>rfl
  |5,_=>rfl
set_option maxRecDepth 100000 in
set_option maxHeartbeats 4000000 in
theorem QtD(hJ:Job N Shun A la B lb n arr xs ys)(hk:k<wk n)(hj0:lo n k≤j)(hj1:j<lo n (k+1))(hla:j<la)(hlb:lb≤j)(w:World)(ds:List Deferred)(v6 v7 v8 v9 v10 v11 v12 v13 v14 v15 v16 v17 v18 v19 v20 v21 v22 v23 v24 v25 v26 v27 v28 v29 v30 v31 v32 v33 v34 v35 v36 v37 v38 v39:Value)(hF:CK N A la ca B lb cb n arr xs ys k j w):
 R4.wpC Tryz.prog false (RK N n base Shun arr An E k) (DK N n base Shun arr An E k) 66 27
  (fun e a' w'=>e= .normal∧a'.defers=ds∧a'.tmps.size=40∧(∀i,i<6→a'.tmps[i]? =(#[.pointer (some ⟨N+4,0,none⟩),.pointer (some ⟨N+5+k,0,none⟩),.pointer (some ⟨N+3,0,none⟩),.pointer (some ⟨N,0,none⟩),.pointer (some ⟨N+1,0,none⟩),.int .i64 j,v6,v7,v8,v9,v10,v11,v12,v13,v14,v15,v16,v17,v18,v19,v20,v21,v22,v23,v24,v25,v26,v27,v28,v29,v30,v31,v32,v33,v34,v35,v36,v37,v38,v39]:Array Value)[i]?)∧CK N A la ca B lb cb n arr xs ys k (j+1) w') ⟨#[.pointer (some ⟨N+4,0,none⟩),.pointer (some ⟨N+5+k,0,none⟩),.pointer (some ⟨N+3,0,none⟩),.pointer (some ⟨N,0,none⟩),.pointer (some ⟨N+1,0,none⟩),.int .i64 j,v6,v7,v8,v9,v10,v11,v12,v13,v14,v15,v16,v17,v18,v19,v20,v21,v22,v23,v24,v25,v26,v27,v28,v29,v30,v31,v32,v33,v34,v35,v36,v37,v38,v39],ds⟩ w:=by
 have hj:j<n:=Nat.lt_of_lt_of_le hj1 QCm
 have hjn:(j:Int)<(n:Int):=by omega
 have hjz:(0:Int)≤(j:Int):=by omega
 have hge: ¬((la:Int)≤(j:Int)):=by omega
 have hge2:(lb:Int)≤(j:Int):=by omega
 have hv:=hJ.v j hj
 simp only[R4,LW,bodyW, Tryz.f66,Option.getD_some]
 co_held (QCt N n base Shun arr An E k) (QfJ N n base Shun arr An E k) (QfK N n base Shun arr An E k) (CK N _ la ca _ lb cb n arr xs ys k j) (CK.rely hJ) hF
 (co_applyP anyCH_take (QCt N n base Shun arr An E k) (fun _ _ h r=>CK.rely hJ h r) (fun _ _ _ h r=>⟨h.1,h.2.1,h.2.2.1,h.2.2.2.1,CK.rely hJ h.2.2.2.2 r⟩) (i:=0) rfl (by first|kernel_rfl|decide+kernel) (by first|kernel_rfl|decide+kernel) (by first|kernel_rfl|decide+kernel) (.inl ⟨by rfl,fun _ hw=>⟨run_eq_of ?run0,?guar0⟩⟩) hF ?rest0;(case run0=>(intro K hK;(have hc:=hw.out);go_simp;exact hK));(case guar0=>((have hc:=hw.out);(refine⟨Qzt.refl _,?_⟩;co_evs (exact QCq hk _ (by simp<;>omega) (by simp) (by simp) (hJ.fresh _ (by simp))))));try walk_nrm)
 (co_applyP anyCH_take (QCt N n base Shun arr An E k) (fun _ _ h r=>CK.rely hJ h r) (fun _ _ _ h r=>⟨h.1,h.2.1,h.2.2.1,h.2.2.2.1,CK.rely hJ h.2.2.2.2 r⟩) (i:=1) rfl (by first|kernel_rfl|decide+kernel) (by first|kernel_rfl|decide+kernel) (by first|kernel_rfl|decide+kernel) (.inl ⟨by rfl,fun _ hw=>⟨run_eq_of ?run1,?guar1⟩⟩) hF ?rest1;(case run1=>(intro K hK;(skip);go_simp;exact hK));(case guar1=>((skip);(co_quiet (QCt N n base Shun arr An E k))));try walk_nrm)
 (co_applyP anyCH_take (QCt N n base Shun arr An E k) (fun _ _ h r=>CK.rely hJ h r) (fun _ _ _ h r=>⟨h.1,h.2.1,h.2.2.1,h.2.2.2.1,CK.rely hJ h.2.2.2.2 r⟩) (i:=2) rfl (by first|kernel_rfl|decide+kernel) (by first|kernel_rfl|decide+kernel) (by first|kernel_rfl|decide+kernel) (.inl ⟨by rfl,fun _ hw=>⟨run_eq_of ?run2,?guar2⟩⟩) hF ?rest2;(case run2=>(intro K hK;(skip);go_simp;exact hK));(case guar2=>((skip);(co_quiet (QCt N n base Shun arr An E k))));try walk_nrm)
 (co_applyP anyCH_take (QCt N n base Shun arr An E k) (fun _ _ h r=>CK.rely hJ h r) (fun _ _ _ h r=>⟨h.1,h.2.1,h.2.2.1,h.2.2.2.1,CK.rely hJ h.2.2.2.2 r⟩) (i:=3) rfl (by first|kernel_rfl|decide+kernel) (by first|kernel_rfl|decide+kernel) (by first|kernel_rfl|decide+kernel) (.inl ⟨by rfl,fun _ hw=>⟨run_eq_of ?run3,?guar3⟩⟩) hF ?rest3;(case run3=>(intro K hK;(have hc:=hw.xa);go_simp;exact hK));(case guar3=>((have hc:=hw.xa);(refine⟨Qzt.refl _,?_⟩;co_evs (exact QCq hk _ (by simp<;>omega) (by simp) (by simp) (hJ.fresh _ (by simp))))));try walk_nrm)
 (co_applyP anyCH_take (QCt N n base Shun arr An E k) (fun _ _ h r=>CK.rely hJ h r) (fun _ _ _ h r=>⟨h.1,h.2.1,h.2.2.1,h.2.2.2.1,CK.rely hJ h.2.2.2.2 r⟩) (i:=4) rfl (by first|kernel_rfl|decide+kernel) (by first|kernel_rfl|decide+kernel) (by first|kernel_rfl|decide+kernel) (.inl ⟨by rfl,fun _ hw=>⟨run_eq_of ?run4,?guar4⟩⟩) hF ?rest4;(case run4=>(intro K hK;(skip);go_simp;exact hK));(case guar4=>((skip);(co_quiet (QCt N n base Shun arr An E k))));try walk_nrm)
 (co_applyP anyCH_take (QCt N n base Shun arr An E k) (fun _ _ h r=>CK.rely hJ h r) (fun _ _ _ h r=>⟨h.1,h.2.1,h.2.2.1,h.2.2.2.1,CK.rely hJ h.2.2.2.2 r⟩) (i:=5) rfl (by first|kernel_rfl|decide+kernel) (by first|kernel_rfl|decide+kernel) (by first|kernel_rfl|decide+kernel) (.inl ⟨by rfl,fun _ hw=>⟨run_eq_of ?run5,?guar5⟩⟩) hF ?rest5;(case run5=>(intro K hK;(skip);go_simp;exact hK));(case guar5=>((skip);(co_quiet (QCt N n base Shun arr An E k))));try walk_nrm)
 (co_applyP anyCH_take (QCt N n base Shun arr An E k) (fun _ _ h r=>CK.rely hJ h r) (fun _ _ _ h r=>⟨h.1,h.2.1,h.2.2.1,h.2.2.2.1,CK.rely hJ h.2.2.2.2 r⟩) (i:=6) rfl (by first|kernel_rfl|decide+kernel) (by first|kernel_rfl|decide+kernel) (by first|kernel_rfl|decide+kernel) (.inl ⟨by rfl,fun _ hw=>⟨run_eq_of ?run6,?guar6⟩⟩) hF ?rest6;(case run6=>(intro K hK;(skip);go_simp;exact hK));(case guar6=>((skip);(co_quiet (QCt N n base Shun arr An E k))));try walk_nrm)
 (co_applyP anyCH_take (QCt N n base Shun arr An E k) (fun _ _ h r=>CK.rely hJ h r) (fun _ _ _ h r=>⟨h.1,h.2.1,h.2.2.1,h.2.2.2.1,CK.rely hJ h.2.2.2.2 r⟩) (i:=7) rfl (by first|kernel_rfl|decide+kernel) (by first|kernel_rfl|decide+kernel) (by first|kernel_rfl|decide+kernel) (.inl ⟨by rfl,fun _ hw=>⟨run_eq_of ?run7,?guar7⟩⟩) hF ?rest7;(case run7=>(intro K hK;(skip);go_simp;exact hK));(case guar7=>((skip);(co_quiet (QCt N n base Shun arr An E k))));try walk_nrm)
 (co_applyP anyCH_take (QCt N n base Shun arr An E k) (fun _ _ h r=>CK.rely hJ h r) (fun _ _ _ h r=>⟨h.1,h.2.1,h.2.2.1,h.2.2.2.1,CK.rely hJ h.2.2.2.2 r⟩) (i:=8) rfl (by first|kernel_rfl|decide+kernel) (by first|kernel_rfl|decide+kernel) (by first|kernel_rfl|decide+kernel) (.inl ⟨by rfl,fun _ hw=>⟨run_eq_of ?run8,?guar8⟩⟩) hF ?rest8;(case run8=>(intro K hK;(have hc:=hw.xb);go_simp;exact hK));(case guar8=>((have hc:=hw.xb);(refine⟨Qzt.refl _,?_⟩;co_evs (exact QCq hk _ (by simp<;>omega) (by simp) (by simp) (hJ.fresh _ (by simp))))));try walk_nrm)
 (co_applyP anyCH_take (QCt N n base Shun arr An E k) (fun _ _ h r=>CK.rely hJ h r) (fun _ _ _ h r=>⟨h.1,h.2.1,h.2.2.1,h.2.2.2.1,CK.rely hJ h.2.2.2.2 r⟩) (i:=9) rfl (by first|kernel_rfl|decide+kernel) (by first|kernel_rfl|decide+kernel) (by first|kernel_rfl|decide+kernel) (.inl ⟨by rfl,fun _ hw=>⟨run_eq_of ?run9,?guar9⟩⟩) hF ?rest9;(case run9=>(intro K hK;(skip);go_simp;exact hK));(case guar9=>((skip);(co_quiet (QCt N n base Shun arr An E k))));try walk_nrm)
 (co_applyP anyCH_take (QCt N n base Shun arr An E k) (fun _ _ h r=>CK.rely hJ h r) (fun _ _ _ h r=>⟨h.1,h.2.1,h.2.2.1,h.2.2.2.1,CK.rely hJ h.2.2.2.2 r⟩) (i:=10) rfl (by first|kernel_rfl|decide+kernel) (by first|kernel_rfl|decide+kernel) (by first|kernel_rfl|decide+kernel) (.inl ⟨by rfl,fun _ hw=>⟨run_eq_of ?run10,?guar10⟩⟩) hF ?rest10;(case run10=>(intro K hK;(skip);go_simp;exact hK));(case guar10=>((skip);(co_quiet (QCt N n base Shun arr An E k))));try walk_nrm)
 (co_applyP anyCH_take (QCt N n base Shun arr An E k) (fun _ _ h r=>CK.rely hJ h r) (fun _ _ _ h r=>⟨h.1,h.2.1,h.2.2.1,h.2.2.2.1,CK.rely hJ h.2.2.2.2 r⟩) (i:=11) rfl (by first|kernel_rfl|decide+kernel) (by first|kernel_rfl|decide+kernel) (by first|kernel_rfl|decide+kernel) (.inl ⟨by rfl,fun _ hw=>⟨run_eq_of ?run11,?guar11⟩⟩) hF ?rest11;(case run11=>(intro K hK;(skip);go_simp;exact hK));(case guar11=>((skip);(co_quiet (QCt N n base Shun arr An E k))));try walk_nrm)
 (co_applyP anyCH_take (QCt N n base Shun arr An E k) (fun _ _ h r=>CK.rely hJ h r) (fun _ _ _ h r=>⟨h.1,h.2.1,h.2.2.1,h.2.2.2.1,CK.rely hJ h.2.2.2.2 r⟩) (i:=12) rfl (by first|kernel_rfl|decide+kernel) (by first|kernel_rfl|decide+kernel) (by first|kernel_rfl|decide+kernel) (.inl ⟨by rfl,fun _ hw=>⟨run_eq_of ?run12,?guar12⟩⟩) hF ?rest12;(case run12=>(intro K hK;(skip);go_simp;exact hK));(case guar12=>((skip);(co_quiet (QCt N n base Shun arr An E k))));try walk_nrm)
 (co_applyP anyCH_take (QCt N n base Shun arr An E k) (fun _ _ h r=>CK.rely hJ h r) (fun _ _ _ h r=>⟨h.1,h.2.1,h.2.2.1,h.2.2.2.1,CK.rely hJ h.2.2.2.2 r⟩) (i:=13) rfl (by first|kernel_rfl|decide+kernel) (by first|kernel_rfl|decide+kernel) (by first|kernel_rfl|decide+kernel) (.inr ⟨by rfl,rfl⟩) hF ?rest13;try walk_nrm)
 (co_applyP anyCH_take (QCt N n base Shun arr An E k) (fun _ _ h r=>CK.rely hJ h r) (fun _ _ _ h r=>⟨h.1,h.2.1,h.2.2.1,h.2.2.2.1,CK.rely hJ h.2.2.2.2 r⟩) (i:=14) rfl (by first|kernel_rfl|decide+kernel) (by first|kernel_rfl|decide+kernel) (by first|kernel_rfl|decide+kernel) (.inr ⟨by rfl,rfl⟩) hF ?rest14;try walk_nrm)
 (co_applyP anyCH_take (QCt N n base Shun arr An E k) (fun _ _ h r=>CK.rely hJ h r) (fun _ _ _ h r=>⟨h.1,h.2.1,h.2.2.1,h.2.2.2.1,CK.rely hJ h.2.2.2.2 r⟩) (i:=15) rfl (by first|kernel_rfl|decide+kernel) (by first|kernel_rfl|decide+kernel) (by first|kernel_rfl|decide+kernel) (.inr ⟨by rfl,rfl⟩) hF ?rest15;try walk_nrm)
 (co_applyP anyCH_take (QCt N n base Shun arr An E k) (fun _ _ h r=>CK.rely hJ h r) (fun _ _ _ h r=>⟨h.1,h.2.1,h.2.2.1,h.2.2.2.1,CK.rely hJ h.2.2.2.2 r⟩) (i:=16) rfl (by first|kernel_rfl|decide+kernel) (by first|kernel_rfl|decide+kernel) (by first|kernel_rfl|decide+kernel) (.inr ⟨by rfl,rfl⟩) hF ?rest16;try walk_nrm)
 (co_applyP anyCH_take (QCt N n base Shun arr An E k) (fun _ _ h r=>CK.rely hJ h r) (fun _ _ _ h r=>⟨h.1,h.2.1,h.2.2.1,h.2.2.2.1,CK.rely hJ h.2.2.2.2 r⟩) (i:=17) rfl (by first|kernel_rfl|decide+kernel) (by first|kernel_rfl|decide+kernel) (by first|kernel_rfl|decide+kernel) (.inr ⟨by rfl,rfl⟩) hF ?rest17;try walk_nrm)
 (co_applyP anyCH_take (QCt N n base Shun arr An E k) (fun _ _ h r=>CK.rely hJ h r) (fun _ _ _ h r=>⟨h.1,h.2.1,h.2.2.1,h.2.2.2.1,CK.rely hJ h.2.2.2.2 r⟩) (i:=18) rfl (by first|kernel_rfl|decide+kernel) (by first|kernel_rfl|decide+kernel) (by first|kernel_rfl|decide+kernel) (.inr ⟨by rfl,rfl⟩) hF ?rest18;try walk_nrm)
 (co_applyP anyCH_take (QCt N n base Shun arr An E k) (fun _ _ h r=>CK.rely hJ h r) (fun _ _ _ h r=>⟨h.1,h.2.1,h.2.2.1,h.2.2.2.1,CK.rely hJ h.2.2.2.2 r⟩) (i:=19) rfl (by first|kernel_rfl|decide+kernel) (by first|kernel_rfl|decide+kernel) (by first|kernel_rfl|decide+kernel) (.inr ⟨by rfl,rfl⟩) hF ?rest19;try walk_nrm)
 (co_applyP anyCH_take (QCt N n base Shun arr An E k) (fun _ _ h r=>CK.rely hJ h r) (fun _ _ _ h r=>⟨h.1,h.2.1,h.2.2.1,h.2.2.2.1,CK.rely hJ h.2.2.2.2 r⟩) (i:=20) rfl (by first|kernel_rfl|decide+kernel) (by first|kernel_rfl|decide+kernel) (by first|kernel_rfl|decide+kernel) (.inr ⟨by rfl,rfl⟩) hF ?rest20;try walk_nrm)
 (co_applyP anyCH_take (QCt N n base Shun arr An E k) (fun _ _ h r=>CK.rely hJ h r) (fun _ _ _ h r=>⟨h.1,h.2.1,h.2.2.1,h.2.2.2.1,CK.rely hJ h.2.2.2.2 r⟩) (i:=21) rfl (by first|kernel_rfl|decide+kernel) (by first|kernel_rfl|decide+kernel) (by first|kernel_rfl|decide+kernel) (.inr ⟨by rfl,rfl⟩) hF ?rest21;try walk_nrm)
 (co_applyP anyCH_take (QCt N n base Shun arr An E k) (fun _ _ h r=>CK.rely hJ h r) (fun _ _ _ h r=>⟨h.1,h.2.1,h.2.2.1,h.2.2.2.1,CK.rely hJ h.2.2.2.2 r⟩) (i:=22) rfl (by first|kernel_rfl|decide+kernel) (by first|kernel_rfl|decide+kernel) (by first|kernel_rfl|decide+kernel) (.inl ⟨by rfl,fun _ hw=>⟨run_eq_of ?run22,?guar22⟩⟩) hF ?rest22;(case run22=>(intro K hK;(skip);go_simp;exact hK));(case guar22=>((skip);(co_quiet (QCt N n base Shun arr An E k))));try walk_nrm)
 (co_applyP anyCH_take (QCt N n base Shun arr An E k) (fun _ _ h r=>CK.rely hJ h r) (fun _ _ _ h r=>⟨h.1,h.2.1,h.2.2.1,h.2.2.2.1,CK.rely hJ h.2.2.2.2 r⟩) (i:=23) rfl (by first|kernel_rfl|decide+kernel) (by first|kernel_rfl|decide+kernel) (by first|kernel_rfl|decide+kernel) (.inl ⟨by rfl,fun _ hw=>⟨run_eq_of ?run23,?guar23⟩⟩) hF ?rest23;(case run23=>(intro K hK;(skip);go_simp;exact hK));(case guar23=>((skip);(co_still (QCt N n base Shun arr An E k))));try walk_nrm)
 refine anyCH_all (rs:=[24]) (by kernel_rfl) (by simp) (fun i hi=>?_)
 obtain rfl:=List.mem_singleton.1 hi
 refine Qg9 (q:=true) rfl rfl rfl rfl rfl ?_ hJ hF hj0 hj1 (fun w' hw'=>⟨hw'.less,anyCH_done (by kernel_rfl) ⟨rfl,rfl,rfl,?_,hw'⟩ _⟩)
 ·rw[hv];simp;omega
 ·intro i hi
  match i,hi with
  |0,_=>rfl
  |1,_=>rfl
  |2,_=>rfl
  |3,_=>rfl
  |4,_=>rfl
  |5,_=>rfl
set_option maxRecDepth 100000 in
set_option maxHeartbeats 4000000 in
theorem QtE(hJ:Job N Shun A la B lb n arr xs ys)(hk:k<wk n)(hj0:lo n k≤j)(hj1:j<lo n (k+1))(hla:j<la)(hlb:j<lb)(w:World)(ds:List Deferred)(v6 v7 v8 v9 v10 v11 v12 v13 v14 v15 v16 v17 v18 v19 v20 v21 v22 v23 v24 v25 v26 v27 v28 v29 v30 v31 v32 v33 v34 v35 v36 v37 v38 v39:Value)(hF:CK N A la ca B lb cb n arr xs ys k j w):
 R4.wpC Tryz.prog false (RK N n base Shun arr An E k) (DK N n base Shun arr An E k) 66 27
  (fun e a' w'=>e= .normal∧a'.defers=ds∧a'.tmps.size=40∧(∀i,i<6→a'.tmps[i]? =(#[.pointer (some ⟨N+4,0,none⟩),.pointer (some ⟨N+5+k,0,none⟩),.pointer (some ⟨N+3,0,none⟩),.pointer (some ⟨N,0,none⟩),.pointer (some ⟨N+1,0,none⟩),.int .i64 j,v6,v7,v8,v9,v10,v11,v12,v13,v14,v15,v16,v17,v18,v19,v20,v21,v22,v23,v24,v25,v26,v27,v28,v29,v30,v31,v32,v33,v34,v35,v36,v37,v38,v39]:Array Value)[i]?)∧CK N A la ca B lb cb n arr xs ys k (j+1) w') ⟨#[.pointer (some ⟨N+4,0,none⟩),.pointer (some ⟨N+5+k,0,none⟩),.pointer (some ⟨N+3,0,none⟩),.pointer (some ⟨N,0,none⟩),.pointer (some ⟨N+1,0,none⟩),.int .i64 j,v6,v7,v8,v9,v10,v11,v12,v13,v14,v15,v16,v17,v18,v19,v20,v21,v22,v23,v24,v25,v26,v27,v28,v29,v30,v31,v32,v33,v34,v35,v36,v37,v38,v39],ds⟩ w:=by
 have hj:j<n:=Nat.lt_of_lt_of_le hj1 QCm
 have hjn:(j:Int)<(n:Int):=by omega
 have hjz:(0:Int)≤(j:Int):=by omega
 have hge: ¬((la:Int)≤(j:Int)):=by omega
 have hge2: ¬((lb:Int)≤(j:Int)):=by omega
 have hl1:(j:Int)<(la:Int):=by omega
 have hl2:(j:Int)<(lb:Int):=by omega
 obtain⟨ad,rfl,hba⟩:=hJ.a j hla hlb
 obtain⟨bd,rfl,hbb⟩:=hJ.b j hla hlb
 have hv:=hJ.v j hj
 simp only[R4,LW,bodyW, Tryz.f66,Option.getD_some]
 co_held (QCt N n base Shun arr An E k) (QfJ N n base Shun arr An E k) (QfK N n base Shun arr An E k) (CK N _ la ca _ lb cb n arr xs ys k j) (CK.rely hJ) hF
 (co_applyP anyCH_take (QCt N n base Shun arr An E k) (fun _ _ h r=>CK.rely hJ h r) (fun _ _ _ h r=>⟨h.1,h.2.1,h.2.2.1,h.2.2.2.1,CK.rely hJ h.2.2.2.2 r⟩) (i:=0) rfl (by first|kernel_rfl|decide+kernel) (by first|kernel_rfl|decide+kernel) (by first|kernel_rfl|decide+kernel) (.inl ⟨by rfl,fun _ hw=>⟨run_eq_of ?run0,?guar0⟩⟩) hF ?rest0;(case run0=>(intro K hK;(have hc:=hw.out);go_simp;exact hK));(case guar0=>((have hc:=hw.out);(refine⟨Qzt.refl _,?_⟩;co_evs (exact QCq hk _ (by simp<;>omega) (by simp) (by simp) (hJ.fresh _ (by simp))))));try walk_nrm)
 (co_applyP anyCH_take (QCt N n base Shun arr An E k) (fun _ _ h r=>CK.rely hJ h r) (fun _ _ _ h r=>⟨h.1,h.2.1,h.2.2.1,h.2.2.2.1,CK.rely hJ h.2.2.2.2 r⟩) (i:=1) rfl (by first|kernel_rfl|decide+kernel) (by first|kernel_rfl|decide+kernel) (by first|kernel_rfl|decide+kernel) (.inl ⟨by rfl,fun _ hw=>⟨run_eq_of ?run1,?guar1⟩⟩) hF ?rest1;(case run1=>(intro K hK;(skip);go_simp;exact hK));(case guar1=>((skip);(co_quiet (QCt N n base Shun arr An E k))));try walk_nrm)
 (co_applyP anyCH_take (QCt N n base Shun arr An E k) (fun _ _ h r=>CK.rely hJ h r) (fun _ _ _ h r=>⟨h.1,h.2.1,h.2.2.1,h.2.2.2.1,CK.rely hJ h.2.2.2.2 r⟩) (i:=2) rfl (by first|kernel_rfl|decide+kernel) (by first|kernel_rfl|decide+kernel) (by first|kernel_rfl|decide+kernel) (.inl ⟨by rfl,fun _ hw=>⟨run_eq_of ?run2,?guar2⟩⟩) hF ?rest2;(case run2=>(intro K hK;(skip);go_simp;exact hK));(case guar2=>((skip);(co_quiet (QCt N n base Shun arr An E k))));try walk_nrm)
 (co_applyP anyCH_take (QCt N n base Shun arr An E k) (fun _ _ h r=>CK.rely hJ h r) (fun _ _ _ h r=>⟨h.1,h.2.1,h.2.2.1,h.2.2.2.1,CK.rely hJ h.2.2.2.2 r⟩) (i:=3) rfl (by first|kernel_rfl|decide+kernel) (by first|kernel_rfl|decide+kernel) (by first|kernel_rfl|decide+kernel) (.inl ⟨by rfl,fun _ hw=>⟨run_eq_of ?run3,?guar3⟩⟩) hF ?rest3;(case run3=>(intro K hK;(have hc:=hw.xa);go_simp;exact hK));(case guar3=>((have hc:=hw.xa);(refine⟨Qzt.refl _,?_⟩;co_evs (exact QCq hk _ (by simp<;>omega) (by simp) (by simp) (hJ.fresh _ (by simp))))));try walk_nrm)
 (co_applyP anyCH_take (QCt N n base Shun arr An E k) (fun _ _ h r=>CK.rely hJ h r) (fun _ _ _ h r=>⟨h.1,h.2.1,h.2.2.1,h.2.2.2.1,CK.rely hJ h.2.2.2.2 r⟩) (i:=4) rfl (by first|kernel_rfl|decide+kernel) (by first|kernel_rfl|decide+kernel) (by first|kernel_rfl|decide+kernel) (.inl ⟨by rfl,fun _ hw=>⟨run_eq_of ?run4,?guar4⟩⟩) hF ?rest4;(case run4=>(intro K hK;(skip);go_simp;exact hK));(case guar4=>((skip);(co_quiet (QCt N n base Shun arr An E k))));try walk_nrm)
 (co_applyP anyCH_take (QCt N n base Shun arr An E k) (fun _ _ h r=>CK.rely hJ h r) (fun _ _ _ h r=>⟨h.1,h.2.1,h.2.2.1,h.2.2.2.1,CK.rely hJ h.2.2.2.2 r⟩) (i:=5) rfl (by first|kernel_rfl|decide+kernel) (by first|kernel_rfl|decide+kernel) (by first|kernel_rfl|decide+kernel) (.inl ⟨by rfl,fun _ hw=>⟨run_eq_of ?run5,?guar5⟩⟩) hF ?rest5;(case run5=>(intro K hK;(skip);go_simp;exact hK));(case guar5=>((skip);(co_quiet (QCt N n base Shun arr An E k))));try walk_nrm)
 (co_applyP anyCH_take (QCt N n base Shun arr An E k) (fun _ _ h r=>CK.rely hJ h r) (fun _ _ _ h r=>⟨h.1,h.2.1,h.2.2.1,h.2.2.2.1,CK.rely hJ h.2.2.2.2 r⟩) (i:=6) rfl (by first|kernel_rfl|decide+kernel) (by first|kernel_rfl|decide+kernel) (by first|kernel_rfl|decide+kernel) (.inl ⟨by rfl,fun _ hw=>⟨run_eq_of ?run6,?guar6⟩⟩) hF ?rest6;(case run6=>(intro K hK;(skip);go_simp;exact hK));(case guar6=>((skip);(co_quiet (QCt N n base Shun arr An E k))));try walk_nrm)
 (co_applyP anyCH_take (QCt N n base Shun arr An E k) (fun _ _ h r=>CK.rely hJ h r) (fun _ _ _ h r=>⟨h.1,h.2.1,h.2.2.1,h.2.2.2.1,CK.rely hJ h.2.2.2.2 r⟩) (i:=7) rfl (by first|kernel_rfl|decide+kernel) (by first|kernel_rfl|decide+kernel) (by first|kernel_rfl|decide+kernel) (.inl ⟨by rfl,fun _ hw=>⟨run_eq_of ?run7,?guar7⟩⟩) hF ?rest7;(case run7=>(intro K hK;(skip);go_simp;exact hK));(case guar7=>((skip);(co_quiet (QCt N n base Shun arr An E k))));try walk_nrm)
 (co_applyP anyCH_take (QCt N n base Shun arr An E k) (fun _ _ h r=>CK.rely hJ h r) (fun _ _ _ h r=>⟨h.1,h.2.1,h.2.2.1,h.2.2.2.1,CK.rely hJ h.2.2.2.2 r⟩) (i:=8) rfl (by first|kernel_rfl|decide+kernel) (by first|kernel_rfl|decide+kernel) (by first|kernel_rfl|decide+kernel) (.inl ⟨by rfl,fun _ hw=>⟨run_eq_of ?run8,?guar8⟩⟩) hF ?rest8;(case run8=>(intro K hK;(have hc:=hw.xb);go_simp;exact hK));(case guar8=>((have hc:=hw.xb);(refine⟨Qzt.refl _,?_⟩;co_evs (exact QCq hk _ (by simp<;>omega) (by simp) (by simp) (hJ.fresh _ (by simp))))));try walk_nrm)
 (co_applyP anyCH_take (QCt N n base Shun arr An E k) (fun _ _ h r=>CK.rely hJ h r) (fun _ _ _ h r=>⟨h.1,h.2.1,h.2.2.1,h.2.2.2.1,CK.rely hJ h.2.2.2.2 r⟩) (i:=9) rfl (by first|kernel_rfl|decide+kernel) (by first|kernel_rfl|decide+kernel) (by first|kernel_rfl|decide+kernel) (.inl ⟨by rfl,fun _ hw=>⟨run_eq_of ?run9,?guar9⟩⟩) hF ?rest9;(case run9=>(intro K hK;(skip);go_simp;exact hK));(case guar9=>((skip);(co_quiet (QCt N n base Shun arr An E k))));try walk_nrm)
 (co_applyP anyCH_take (QCt N n base Shun arr An E k) (fun _ _ h r=>CK.rely hJ h r) (fun _ _ _ h r=>⟨h.1,h.2.1,h.2.2.1,h.2.2.2.1,CK.rely hJ h.2.2.2.2 r⟩) (i:=10) rfl (by first|kernel_rfl|decide+kernel) (by first|kernel_rfl|decide+kernel) (by first|kernel_rfl|decide+kernel) (.inl ⟨by rfl,fun _ hw=>⟨run_eq_of ?run10,?guar10⟩⟩) hF ?rest10;(case run10=>(intro K hK;(skip);go_simp;exact hK));(case guar10=>((skip);(co_quiet (QCt N n base Shun arr An E k))));try walk_nrm)
 (co_applyP anyCH_take (QCt N n base Shun arr An E k) (fun _ _ h r=>CK.rely hJ h r) (fun _ _ _ h r=>⟨h.1,h.2.1,h.2.2.1,h.2.2.2.1,CK.rely hJ h.2.2.2.2 r⟩) (i:=11) rfl (by first|kernel_rfl|decide+kernel) (by first|kernel_rfl|decide+kernel) (by first|kernel_rfl|decide+kernel) (.inl ⟨by rfl,fun _ hw=>⟨run_eq_of ?run11,?guar11⟩⟩) hF ?rest11;(case run11=>(intro K hK;(skip);go_simp;exact hK));(case guar11=>((skip);(co_quiet (QCt N n base Shun arr An E k))));try walk_nrm)
 (co_applyP anyCH_take (QCt N n base Shun arr An E k) (fun _ _ h r=>CK.rely hJ h r) (fun _ _ _ h r=>⟨h.1,h.2.1,h.2.2.1,h.2.2.2.1,CK.rely hJ h.2.2.2.2 r⟩) (i:=12) rfl (by first|kernel_rfl|decide+kernel) (by first|kernel_rfl|decide+kernel) (by first|kernel_rfl|decide+kernel) (.inl ⟨by rfl,fun _ hw=>⟨run_eq_of ?run12,?guar12⟩⟩) hF ?rest12;(case run12=>(intro K hK;(skip);go_simp;exact hK));(case guar12=>((skip);(co_quiet (QCt N n base Shun arr An E k))));try walk_nrm)
 (co_applyP anyCH_take (QCt N n base Shun arr An E k) (fun _ _ h r=>CK.rely hJ h r) (fun _ _ _ h r=>⟨h.1,h.2.1,h.2.2.1,h.2.2.2.1,CK.rely hJ h.2.2.2.2 r⟩) (i:=13) rfl (by first|kernel_rfl|decide+kernel) (by first|kernel_rfl|decide+kernel) (by first|kernel_rfl|decide+kernel) (.inl ⟨by rfl,fun _ hw=>⟨run_eq_of ?run13,?guar13⟩⟩) hF ?rest13;(case run13=>(intro K hK;(have hc:=hw.xa);go_simp;exact hK));(case guar13=>((have hc:=hw.xa);(refine⟨Qzt.refl _,?_⟩;co_evs (exact QCq hk _ (by simp<;>omega) (by simp) (by simp) (hJ.fresh _ (by simp))))));try walk_nrm)
 (co_applyP anyCH_take (QCt N n base Shun arr An E k) (fun _ _ h r=>CK.rely hJ h r) (fun _ _ _ h r=>⟨h.1,h.2.1,h.2.2.1,h.2.2.2.1,CK.rely hJ h.2.2.2.2 r⟩) (i:=14) rfl (by first|kernel_rfl|decide+kernel) (by first|kernel_rfl|decide+kernel) (by first|kernel_rfl|decide+kernel) (.inl ⟨by rfl,fun _ hw=>⟨run_eq_of ?run14,?guar14⟩⟩) hF ?rest14;(case run14=>(intro K hK;(skip);go_simp;exact hK));(case guar14=>((skip);(co_quiet (QCt N n base Shun arr An E k))));try walk_nrm)
 (co_applyP anyCH_take (QCt N n base Shun arr An E k) (fun _ _ h r=>CK.rely hJ h r) (fun _ _ _ h r=>⟨h.1,h.2.1,h.2.2.1,h.2.2.2.1,CK.rely hJ h.2.2.2.2 r⟩) (i:=15) rfl (by first|kernel_rfl|decide+kernel) (by first|kernel_rfl|decide+kernel) (by first|kernel_rfl|decide+kernel) (.inl ⟨by rfl,fun _ hw=>⟨run_eq_of ?run15,?guar15⟩⟩) hF ?rest15;(case run15=>(intro K hK;(skip);go_simp;exact hK));(case guar15=>((skip);(co_still (QCt N n base Shun arr An E k))));try walk_nrm)
 (co_applyP anyCH_take (QCt N n base Shun arr An E k) (fun _ _ h r=>CK.rely hJ h r) (fun _ _ _ h r=>⟨h.1,h.2.1,h.2.2.1,h.2.2.2.1,CK.rely hJ h.2.2.2.2 r⟩) (i:=16) rfl (by first|kernel_rfl|decide+kernel) (by first|kernel_rfl|decide+kernel) (by first|kernel_rfl|decide+kernel) (.inl ⟨by rfl,fun _ hw=>⟨run_eq_of ?run16,?guar16⟩⟩) hF ?rest16;(case run16=>(intro K hK;(have hc:=hw.ea j ad hla hlb rfl);go_simp;exact hK));(case guar16=>((have hc:=hw.ea j ad hla hlb rfl);(refine⟨Qzt.refl _,?_⟩;co_evs (exact QCq hk _ (by rw[add_block];omega) (by rw[add_block];omega) (by rw[add_block];omega) (hJ.okA j ad hla hlb rfl)))));try walk_nrm)
 (co_applyP anyCH_take (QCt N n base Shun arr An E k) (fun _ _ h r=>CK.rely hJ h r) (fun _ _ _ h r=>⟨h.1,h.2.1,h.2.2.1,h.2.2.2.1,CK.rely hJ h.2.2.2.2 r⟩) (i:=17) rfl (by first|kernel_rfl|decide+kernel) (by first|kernel_rfl|decide+kernel) (by first|kernel_rfl|decide+kernel) (.inl ⟨by rfl,fun _ hw=>⟨run_eq_of ?run17,?guar17⟩⟩) hF ?rest17;(case run17=>(intro K hK;(have hc:=hw.xb);go_simp;exact hK));(case guar17=>((have hc:=hw.xb);(refine⟨Qzt.refl _,?_⟩;co_evs (exact QCq hk _ (by simp<;>omega) (by simp) (by simp) (hJ.fresh _ (by simp))))));try walk_nrm)
 (co_applyP anyCH_take (QCt N n base Shun arr An E k) (fun _ _ h r=>CK.rely hJ h r) (fun _ _ _ h r=>⟨h.1,h.2.1,h.2.2.1,h.2.2.2.1,CK.rely hJ h.2.2.2.2 r⟩) (i:=18) rfl (by first|kernel_rfl|decide+kernel) (by first|kernel_rfl|decide+kernel) (by first|kernel_rfl|decide+kernel) (.inl ⟨by rfl,fun _ hw=>⟨run_eq_of ?run18,?guar18⟩⟩) hF ?rest18;(case run18=>(intro K hK;(skip);go_simp;exact hK));(case guar18=>((skip);(co_quiet (QCt N n base Shun arr An E k))));try walk_nrm)
 (co_applyP anyCH_take (QCt N n base Shun arr An E k) (fun _ _ h r=>CK.rely hJ h r) (fun _ _ _ h r=>⟨h.1,h.2.1,h.2.2.1,h.2.2.2.1,CK.rely hJ h.2.2.2.2 r⟩) (i:=19) rfl (by first|kernel_rfl|decide+kernel) (by first|kernel_rfl|decide+kernel) (by first|kernel_rfl|decide+kernel) (.inl ⟨by rfl,fun _ hw=>⟨run_eq_of ?run19,?guar19⟩⟩) hF ?rest19;(case run19=>(intro K hK;(skip);go_simp;exact hK));(case guar19=>((skip);(co_still (QCt N n base Shun arr An E k))));try walk_nrm)
 (co_applyP anyCH_take (QCt N n base Shun arr An E k) (fun _ _ h r=>CK.rely hJ h r) (fun _ _ _ h r=>⟨h.1,h.2.1,h.2.2.1,h.2.2.2.1,CK.rely hJ h.2.2.2.2 r⟩) (i:=20) rfl (by first|kernel_rfl|decide+kernel) (by first|kernel_rfl|decide+kernel) (by first|kernel_rfl|decide+kernel) (.inl ⟨by rfl,fun _ hw=>⟨run_eq_of ?run20,?guar20⟩⟩) hF ?rest20;(case run20=>(intro K hK;(have hc:=hw.eb j bd hla hlb rfl);go_simp;exact hK));(case guar20=>((have hc:=hw.eb j bd hla hlb rfl);(refine⟨Qzt.refl _,?_⟩;co_evs (exact QCq hk _ (by rw[add_block];omega) (by rw[add_block];omega) (by rw[add_block];omega) (hJ.okB j bd hla hlb rfl)))));try walk_nrm)
 (co_applyP anyCH_take (QCt N n base Shun arr An E k) (fun _ _ h r=>CK.rely hJ h r) (fun _ _ _ h r=>⟨h.1,h.2.1,h.2.2.1,h.2.2.2.1,CK.rely hJ h.2.2.2.2 r⟩) (i:=21) rfl (by first|kernel_rfl|decide+kernel) (by first|kernel_rfl|decide+kernel) (by first|kernel_rfl|decide+kernel) (.inl ⟨by rfl,fun _ hw=>⟨run_eq_of ?run21,?guar21⟩⟩) hF ?rest21;(case run21=>(intro K hK;(skip);go_simp;exact hK));(case guar21=>((skip);(co_quiet (QCt N n base Shun arr An E k))));try walk_nrm)
 (co_applyP anyCH_take (QCt N n base Shun arr An E k) (fun _ _ h r=>CK.rely hJ h r) (fun _ _ _ h r=>⟨h.1,h.2.1,h.2.2.1,h.2.2.2.1,CK.rely hJ h.2.2.2.2 r⟩) (i:=22) rfl (by first|kernel_rfl|decide+kernel) (by first|kernel_rfl|decide+kernel) (by first|kernel_rfl|decide+kernel) (.inl ⟨by rfl,fun _ hw=>⟨run_eq_of ?run22,?guar22⟩⟩) hF ?rest22;(case run22=>(intro K hK;(skip);go_simp;exact hK));(case guar22=>((skip);(co_quiet (QCt N n base Shun arr An E k))));try walk_nrm)
 (co_applyP anyCH_take (QCt N n base Shun arr An E k) (fun _ _ h r=>CK.rely hJ h r) (fun _ _ _ h r=>⟨h.1,h.2.1,h.2.2.1,h.2.2.2.1,CK.rely hJ h.2.2.2.2 r⟩) (i:=23) rfl (by first|kernel_rfl|decide+kernel) (by first|kernel_rfl|decide+kernel) (by first|kernel_rfl|decide+kernel) (.inl ⟨by rfl,fun _ hw=>⟨run_eq_of ?run23,?guar23⟩⟩) hF ?rest23;(case run23=>(intro K hK;(skip);go_simp;exact hK));(case guar23=>((skip);(co_still (QCt N n base Shun arr An E k))));try walk_nrm)
 refine anyCH_all (rs:=[24]) (by kernel_rfl) (by simp) (fun i hi=>?_)
 obtain rfl:=List.mem_singleton.1 hi
 refine Qg9 (q:=(xs j != ys j)) rfl rfl rfl rfl rfl ?_ hJ hF hj0 hj1 (fun w' hw'=>⟨hw'.less,anyCH_done (by kernel_rfl) ⟨rfl,rfl,rfl,?_,hw'⟩ _⟩)
 ·rw[hv];simp;omega
 ·intro i hi
  match i,hi with
  |0,_=>rfl
  |1,_=>rfl
  |2,_=>rfl
  |3,_=>rfl
  |4,_=>rfl
  |5,_=>rfl
end
end Go.Proofs.YtgaimkihacljdaaGreat
/- A worker of one call of impl.differences: its birth, its loop, its Done. (Round C) -/
namespace Go.Proofs.YtgaimkihacljdaaGreat
set_option linter.unusedSectionVars false
set_option linter.unusedSimpArgs false
open Go.Conc Go.RowKit Go.Conc.Lib
open Go.ConcN (ShN RelBy RW RC WgLive PayAt Has)
open Go.ConcR (KK wgBlock WgAt stA smA rd wr mk Payload Aside2 DC0)
open Go.ConcX.Gen (add_block)
open Go.ConcR.Gen (nm_done body_done)
section
variable (N n base : Nat) (Shun : Loc → Prop) (arr : Array Value) (An E : Goroutine → World → Prop) (k : Nat)
abbrev GW(m:Nat)(g:Goroutine)(w:World):Prop:=Goes Tryz.prog false (RK N n base Shun arr An E k) (DK N n base Shun arr An E k) (AtM (cfg N n base Shun (valD arr) An E) k) m g w
def Qd7(j:Nat)(g:Goroutine):Prop:=
 ∃T:Array Value,g=G (bW.at ⟨T,[dcall 67 #[.pointer (some ⟨N+4,0,none⟩)]]⟩ [.code LW,.inLoop LW,.inBlock 0]) [botW]∧T.size=40∧T[0]? =some (.pointer (some ⟨N+4,0,none⟩))∧T[1]? =some (.pointer (some ⟨N+5+k,0,none⟩))∧
  T[2]? =some (.pointer (some ⟨N+3,0,none⟩))∧T[3]? =some (.pointer (some ⟨N,0,none⟩))∧T[4]? =some (.pointer (some ⟨N+1,0,none⟩))∧T[5]? =some (.int .i64 j)
end
section
variable {P : Program} {main : Bool} {b : Frame} {a : Act} {kk : List Item} {cs : List Frame} {w : World} {ops : Array Oper} {i : Nat} {rest : List Nat} {o : Oper}
theorem Qo3(ρ:Operand→Value){ts:Array TypeId}{x y:Operand}(hop:o.op= .call ⟨.builtin .min,#[x,y],ts⟩):execOp ρ o=(do pure (.value (←Builtin.min_ ts o.type #[ρ x,ρ y]))):=by
 have e:(#[x,y].map ρ)= #[ρ x,ρ y]:=by simp
 unfold execOp
 rw[hop]
 show(do let d←resolve ρ ⟨.builtin .min,#[x,y],ts⟩ o.type;invoke d.target d.args:Sem Next)=_
 unfold resolve
 simp only[e]
 rfl
theorem Qlp{x y:Operand}{ts:Array TypeId}{p q:Int}(ho:ops[i]? =some o)(hw:Region.wanted o (yielded ops a.tmps)=true)(hk:b.kind≠ .early)(hop:o.op= .call ⟨.builtin .min,#[x,y],ts⟩)
 (hx:a.eval x= .int .i64 p)(hy:a.eval y= .int .i64 q)(hq:(P.funcs[b.fn]?).any (·.norace)=false):
 stepG P main (G (b.at a (.inRegion ops (i :: rest) :: kk)) cs) w= .go (G (b.at (a.put o.dst (.int .i64 (if q<p then q else p))) (.inRegion ops rest :: kk)) cs) w #[]:=by
 have h0:=Qo3 (o:=o) a.eval hop
 rw[hx,hy] at h0
 have hr:(execOp a.eval o).run P w= .ok (.value (.int .i64 (if q<p then q else p))) w:=by rw[h0];rfl
 have he:(execOp a.eval o).events P w #[]= #[]:=by rw[h0];rfl
 rw[stepG_value ho hw hk hr]
 unfold listed
 rw[he,seen_eq hq (by simp)]
end
theorem QtA(T:Array Value):QuitsD Tryz.prog 2 0 (G { bW.at ⟨T,[]⟩ [] with mode:= .returning} [botW]):=by
 refine QuitsD.ctl (g':=G botW []) rfl (fun w=>?_) ?_
 ·simp[G,stepG,unwind,doReturn,results,Frame.at,bW,baseD,botW, Tryz.func66, Tryz.f66,seen,GStep.after,goexitEntry]
 refine QuitsD.ctl (g':={ G botW [] with status:= .finished}) rfl (fun w=>?_) ⟨rfl,rfl⟩
 simp[G,stepG,unwind,botW,goexitEntry,Frame.catches]
 rfl
section
variable {N n base : Nat} {Shun : Loc → Prop} {An E : Goroutine → World → Prop} {A B : Option Addr} {la ca lb cb : Nat} {arr : Array Value} {xs ys : Nat → Int} {k : Nat}
theorem QCy(hk:k<wk n):fkw k=((lo n k:Nat):Int):=by rw[QCs hk];unfold fkw;omega
theorem QCx(hk:k<wk n)(hle:n≤1048576):IntKind.i64.wrap (fkw k+64)=fkw (k+1):=by
 unfold wk at hk
 rw[IntKind.wrap_i64]
 unfold fkw
 omega
theorem QCw(k:Nat):(if(n:Int)<fkw (k+1) then(n:Int) else fkw (k+1))=((lo n (k+1):Nat):Int):=by
 unfold fkw lo
 split<;>omega
set_option maxRecDepth 100000 in
set_option maxHeartbeats 4000000 in
theorem Qxi(hb:0<base)(hJ:Job N Shun A la B lb n arr xs ys)(hk:k<wk n): ∀(g:Goroutine) (w:World),Qd7 N k (lo n (k+1)) g→CK N A la ca B lb cb n arr xs ys k (lo n (k+1)) w→GW N n base Shun arr An E k (40+23) g w:=by
 rintro g w ⟨T,rfl,hT,t0,t1,t2,t3,t4,t5⟩ hF
 obtain⟨v0,v1,v2,v3,v4,v5,v6,v7,v8,v9,v10,v11,v12,v13,v14,v15,v16,v17,v18,v19,v20,v21,v22,v23,v24,v25,v26,v27,v28,v29,v30,v31,v32,v33,v34,v35,v36,v37,v38,v39,rfl⟩:=Qfr T hT
 simp only[List.getElem?_toArray,List.getElem?_cons_succ,List.getElem?_cons_zero,Option.some.injEq] at t0 t1 t2 t3 t4 t5
 subst t0 t1 t2 t3 t4 t5
 have hle:=hJ.le
 have hfw:=QCx (n:=n) hk hle
 have hmin:=QCw (n:=n) k
 have hnl: ¬(((lo n (k+1):Nat):Int)<((lo n (k+1):Nat):Int)):=by omega
 simp only[LW,bodyW, Tryz.f66,Option.getD_some]
 ((refine Goes.step rfl (fun _ h₁=>?_);replace hF:=(CK.rely hJ) hF h₁;clear h₁);rw[stepG_seq];simp only[goes_go];refine⟨by((first|refine dc0_none ?_|refine Qzb ?_|refine Qzc ?_);intro e he;simp at he),?_⟩)
 ((refine Goes.step rfl (fun _ h₁=>?_);replace hF:=(CK.rely hJ) hF h₁;clear h₁);rw[stepG_seq];simp only[goes_go];refine⟨by((first|refine dc0_none ?_|refine Qzb ?_|refine Qzc ?_);intro e he;simp at he),?_⟩)
 ((refine Goes.step rfl (fun _ h₁=>?_);replace hF:=(CK.rely hJ) hF h₁;clear h₁);rw[stepG_region];simp only[goes_go,List.size_toArray,List.length_cons,List.length_nil,Nat.reduceAdd,Nat.zero_add,List.range,List.range.loop];refine⟨by((first|refine dc0_none ?_|refine Qzb ?_|refine Qzc ?_);intro e he;simp at he),?_⟩)
 ((refine Goes.step rfl (fun _ h₁=>?_);replace hF:=(CK.rely hJ) hF h₁;clear h₁);refine goes_oper_k rfl rfl (by k_ne) (fun Kx hKx=>?_);go_simp;refine hKx _ _ ⟨by((first|refine dc0_none ?_|refine Qzb ?_|refine Qzc ?_);intro e he;have hm:=mem_listed he;simp[go_sem, *] at hm),?_⟩;clear hKx Kx;try w_num)
 u_opw (CK.rely hJ) hF [CK.frm hF] (Qzt.refl _) (QCq hk _ (by simp<;>omega) (by simp<;>omega) (by simp<;>omega) (hJ.fresh _ (by simp<;>omega)))
 ((refine Goes.step rfl (fun _ h₁=>?_);replace hF:=(CK.rely hJ) hF h₁;clear h₁);refine goes_oper_k rfl rfl (by k_ne) (fun Kx hKx=>?_);go_simp;refine hKx _ _ ⟨by((first|refine dc0_none ?_|refine Qzb ?_|refine Qzc ?_);intro e he;have hm:=mem_listed he;simp[go_sem, *] at hm),?_⟩;clear hKx Kx;try w_num)
 u_opw (CK.rely hJ) hF [CK.out hF] (Qzt.refl _) (QCq hk _ (by simp<;>omega) (by simp<;>omega) (by simp<;>omega) (hJ.fresh _ (by simp<;>omega)))
 ((refine Goes.step rfl (fun _ h₁=>?_);replace hF:=(CK.rely hJ) hF h₁;clear h₁);refine goes_oper_k rfl rfl (by k_ne) (fun Kx hKx=>?_);go_simp;refine hKx _ _ ⟨by((first|refine dc0_none ?_|refine Qzb ?_|refine Qzc ?_);intro e he;have hm:=mem_listed he;simp[go_sem, *] at hm),?_⟩;clear hKx Kx;try w_num)
 (refine Goes.step rfl (fun _ h₁=>?_);replace hF:=(CK.rely hJ) hF h₁;clear h₁)
 rw[Qlp rfl rfl (by decide) rfl rfl rfl Qgr,hmin]
 simp only[goes_go]
 refine⟨by((first|refine dc0_none ?_|refine Qzb ?_|refine Qzc ?_);intro e he;simp at he),?_⟩
 walk_nrm
 ((refine Goes.step rfl (fun _ h₁=>?_);replace hF:=(CK.rely hJ) hF h₁;clear h₁);refine goes_oper_k rfl rfl (by k_ne) (fun Kx hKx=>?_);go_simp;refine hKx _ _ ⟨by((first|refine dc0_none ?_|refine Qzb ?_|refine Qzc ?_);intro e he;have hm:=mem_listed he;simp[go_sem, *] at hm),?_⟩;clear hKx Kx;try w_num)
 ((refine Goes.step rfl (fun _ h₁=>?_);replace hF:=(CK.rely hJ) hF h₁;clear h₁);rw[stepG_region_end];simp only[goes_go];refine⟨by((first|refine dc0_none ?_|refine Qzb ?_|refine Qzc ?_);intro e he;simp at he),?_⟩)
 ((refine Goes.step rfl (fun _ h₁=>?_);replace hF:=(CK.rely hJ) hF h₁;clear h₁);rw[stepG_cond (t:=false) (by first|rfl|(simp[Act.eval];omega))];simp only[goes_go,if_true,if_false,Bool.false_eq_true, ↓reduceIte];refine⟨by((first|refine dc0_none ?_|refine Qzb ?_|refine Qzc ?_);intro e he;simp at he),?_⟩)
 ((refine Goes.step rfl (fun _ h₁=>?_);replace hF:=(CK.rely hJ) hF h₁;clear h₁);refine goes_exit rfl ?_;refine⟨by((first|refine dc0_none ?_|refine Qzb ?_|refine Qzc ?_);intro e he;simp at he),?_⟩)
 ((refine Goes.step rfl (fun _ h₁=>?_);replace hF:=(CK.rely hJ) hF h₁;clear h₁);rw[stepG_end];simp only[goes_go];refine⟨by((first|refine dc0_none ?_|refine Qzb ?_|refine Qzc ?_);intro e he;simp at he),?_⟩)
 ((refine Goes.step rfl (fun _ h₁=>?_);replace hF:=(CK.rely hJ) hF h₁;clear h₁);rw[stepG_unwind_enter rfl Tryz.func67 (nm_done Tryz.link) rfl];simp only[goes_go];refine⟨by((first|refine dc0_none ?_|refine Qzb ?_|refine Qzc ?_);intro e he;simp at he),?_⟩;walk_nrmf Tryz.f67)
 have hA:= @QCf _ Tryz.link (cfg N n base Shun (valD arr) An E) k (QCo hb hle hJ.fresh) Tryz.wgLib rfl hk
 simp only[body_done,doneFn,Option.getD_some] at hA
 exact Goes.mono (hA (qt:=2) rfl (QtA _) _ ⟨hF.live,fun i h1 h2=>hF.fill i h1 h2 h2⟩) (by omega)
set_option maxRecDepth 100000 in
set_option maxHeartbeats 4000000 in
theorem Qxj(hJ:Job N Shun A la B lb n arr xs ys)(hk:k<wk n){j f₁:Nat}(hj0:lo n k≤j)(hj1:j<lo n (k+1))(h₁: ∀(g:Goroutine) (w:World),Qd7 N k (j+1) g→CK N A la ca B lb cb n arr xs ys k (j+1) w→GW N n base Shun arr An E k f₁ g w):
 ∀(g:Goroutine) (w:World),Qd7 N k j g→CK N A la ca B lb cb n arr xs ys k j w→GW N n base Shun arr An E k (((f₁+15)+27)+25) g w:=by
 rintro g w ⟨T,rfl,hT,t0,t1,t2,t3,t4,t5⟩ hF
 obtain⟨v0,v1,v2,v3,v4,v5,v6,v7,v8,v9,v10,v11,v12,v13,v14,v15,v16,v17,v18,v19,v20,v21,v22,v23,v24,v25,v26,v27,v28,v29,v30,v31,v32,v33,v34,v35,v36,v37,v38,v39,rfl⟩:=Qfr T hT
 simp only[List.getElem?_toArray,List.getElem?_cons_succ,List.getElem?_cons_zero,Option.some.injEq] at t0 t1 t2 t3 t4 t5
 subst t0 t1 t2 t3 t4 t5
 have hle:=hJ.le
 have hfw:=QCx (n:=n) hk hle
 have hmin:=QCw (n:=n) k
 have hj:j<n:=Nat.lt_of_lt_of_le hj1 QCm
 have hlt:(j:Int)<((lo n (k+1):Nat):Int):=by omega
 simp only[LW,bodyW, Tryz.f66,Option.getD_some]
 ((refine Goes.step rfl (fun _ h₁=>?_);replace hF:=(CK.rely hJ) hF h₁;clear h₁);rw[stepG_seq];simp only[goes_go];refine⟨by((first|refine dc0_none ?_|refine Qzb ?_|refine Qzc ?_);intro e he;simp at he),?_⟩)
 ((refine Goes.step rfl (fun _ h₁=>?_);replace hF:=(CK.rely hJ) hF h₁;clear h₁);rw[stepG_seq];simp only[goes_go];refine⟨by((first|refine dc0_none ?_|refine Qzb ?_|refine Qzc ?_);intro e he;simp at he),?_⟩)
 ((refine Goes.step rfl (fun _ h₁=>?_);replace hF:=(CK.rely hJ) hF h₁;clear h₁);rw[stepG_region];simp only[goes_go,List.size_toArray,List.length_cons,List.length_nil,Nat.reduceAdd,Nat.zero_add,List.range,List.range.loop];refine⟨by((first|refine dc0_none ?_|refine Qzb ?_|refine Qzc ?_);intro e he;simp at he),?_⟩)
 ((refine Goes.step rfl (fun _ h₁=>?_);replace hF:=(CK.rely hJ) hF h₁;clear h₁);refine goes_oper_k rfl rfl (by k_ne) (fun Kx hKx=>?_);go_simp;refine hKx _ _ ⟨by((first|refine dc0_none ?_|refine Qzb ?_|refine Qzc ?_);intro e he;have hm:=mem_listed he;simp[go_sem, *] at hm),?_⟩;clear hKx Kx;try w_num)
 u_opw (CK.rely hJ) hF [CK.frm hF] (Qzt.refl _) (QCq hk _ (by simp<;>omega) (by simp<;>omega) (by simp<;>omega) (hJ.fresh _ (by simp<;>omega)))
 ((refine Goes.step rfl (fun _ h₁=>?_);replace hF:=(CK.rely hJ) hF h₁;clear h₁);refine goes_oper_k rfl rfl (by k_ne) (fun Kx hKx=>?_);go_simp;refine hKx _ _ ⟨by((first|refine dc0_none ?_|refine Qzb ?_|refine Qzc ?_);intro e he;have hm:=mem_listed he;simp[go_sem, *] at hm),?_⟩;clear hKx Kx;try w_num)
 u_opw (CK.rely hJ) hF [CK.out hF] (Qzt.refl _) (QCq hk _ (by simp<;>omega) (by simp<;>omega) (by simp<;>omega) (hJ.fresh _ (by simp<;>omega)))
 ((refine Goes.step rfl (fun _ h₁=>?_);replace hF:=(CK.rely hJ) hF h₁;clear h₁);refine goes_oper_k rfl rfl (by k_ne) (fun Kx hKx=>?_);go_simp;refine hKx _ _ ⟨by((first|refine dc0_none ?_|refine Qzb ?_|refine Qzc ?_);intro e he;have hm:=mem_listed he;simp[go_sem, *] at hm),?_⟩;clear hKx Kx;try w_num)
 (refine Goes.step rfl (fun _ h₁=>?_);replace hF:=(CK.rely hJ) hF h₁;clear h₁)
 rw[Qlp rfl rfl (by decide) rfl rfl rfl Qgr,hmin]
 simp only[goes_go]
 refine⟨by((first|refine dc0_none ?_|refine Qzb ?_|refine Qzc ?_);intro e he;simp at he),?_⟩
 walk_nrm
 ((refine Goes.step rfl (fun _ h₁=>?_);replace hF:=(CK.rely hJ) hF h₁;clear h₁);refine goes_oper_k rfl rfl (by k_ne) (fun Kx hKx=>?_);go_simp;refine hKx _ _ ⟨by((first|refine dc0_none ?_|refine Qzb ?_|refine Qzc ?_);intro e he;have hm:=mem_listed he;simp[go_sem, *] at hm),?_⟩;clear hKx Kx;try w_num)
 ((refine Goes.step rfl (fun _ h₁=>?_);replace hF:=(CK.rely hJ) hF h₁;clear h₁);rw[stepG_region_end];simp only[goes_go];refine⟨by((first|refine dc0_none ?_|refine Qzb ?_|refine Qzc ?_);intro e he;simp at he),?_⟩)
 ((refine Goes.step rfl (fun _ h₁=>?_);replace hF:=(CK.rely hJ) hF h₁;clear h₁);rw[stepG_cond (t:=true) (by first|rfl|(simp[Act.eval];omega))];simp only[goes_go,if_true,if_false,Bool.false_eq_true, ↓reduceIte];refine⟨by((first|refine dc0_none ?_|refine Qzb ?_|refine Qzc ?_);intro e he;simp at he),?_⟩)
 ((refine Goes.step rfl (fun _ h₁=>?_);replace hF:=(CK.rely hJ) hF h₁;clear h₁);rw[stepG_skip];simp only[goes_go];refine⟨by((first|refine dc0_none ?_|refine Qzb ?_|refine Qzc ?_);intro e he;simp at he),?_⟩)
 ((refine Goes.step rfl (fun _ h₁=>?_);replace hF:=(CK.rely hJ) hF h₁;clear h₁);rw[stepG_seq];simp only[goes_go];refine⟨by((first|refine dc0_none ?_|refine Qzb ?_|refine Qzc ?_);intro e he;simp at he),?_⟩)
 ((refine Goes.step rfl (fun _ h₁=>?_);replace hF:=(CK.rely hJ) hF h₁;clear h₁);rw[stepG_block];simp only[goes_go];refine⟨by((first|refine dc0_none ?_|refine Qzb ?_|refine Qzc ?_);intro e he;simp at he),?_⟩)
 refine Goes.mono (n:=(f₁+15)+27) ?_ (by omega)
 have hreg: ∀(w:World) (ds:List Deferred) (u6 u7 u8 u9 u10 u11 u12 u13 u14 u15 u16 u17 u18 u19 u20 u21 u22 u23 u24 u25 u26 u27 u28 u29 u30 u31 u32 u33 u34 u35 u36 u37 u38 u39:Value),CK N A la ca B lb cb n arr xs ys k j w→_:=
  if hla:j<la then if hlb:j<lb then QtE (base:=base) (An:=An) (E:=E) hJ hk hj0 hj1 hla hlb else QtD (base:=base) (An:=An) (E:=E) hJ hk hj0 hj1 hla (by omega) else QtC (base:=base) (An:=An) (E:=E) hJ hk hj0 hj1 (by omega)
 simp only[R4,LW,bodyW, Tryz.f66,Option.getD_some] at hreg
 refine hreg _ _ _ _ _ _ _ _ _ _ _ _ _ _ _ _ _ _ _ _ _ _ _ _ _ _ _ _ _ _ _ _ _ _ _ _ hF bW _ [botW] _ (f₁+15) rfl (by decide) ?_
 rintro e ⟨T',ds⟩ w' ⟨rfl,rfl,hT',hget,hF⟩
 have t0:=hget 0 (by omega)
 have t1:=hget 1 (by omega)
 have t2:=hget 2 (by omega)
 have t3:=hget 3 (by omega)
 have t4:=hget 4 (by omega)
 have t5:=hget 5 (by omega)
 clear hget hreg
 dsimp only at hT' t0 t1 t2 t3 t4 t5
 obtain⟨u0,u1,u2,u3,u4,u5,u6,u7,u8,u9,u10,u11,u12,u13,u14,u15,u16,u17,u18,u19,u20,u21,u22,u23,u24,u25,u26,u27,u28,u29,u30,u31,u32,u33,u34,u35,u36,u37,u38,u39,rfl⟩:=Qfr T' hT'
 simp only[List.getElem?_toArray,List.getElem?_cons_succ,List.getElem?_cons_zero,Option.some.injEq] at t0 t1 t2 t3 t4 t5
 subst t0 t1 t2 t3 t4 t5
 have hi64:IntKind.i64.wrap ((j:Int)+1)=((j+1:Nat):Int):=by rw[IntKind.wrap_i64];omega
 simp only[After]
 ((refine Goes.step rfl (fun _ h₁=>?_);replace hF:=(CK.rely hJ) hF h₁;clear h₁);rw[stepG_inBlock];simp only[goes_go];refine⟨by((first|refine dc0_none ?_|refine Qzb ?_|refine Qzc ?_);intro e he;simp at he),?_⟩)
 ((refine Goes.step rfl (fun _ h₁=>?_);replace hF:=(CK.rely hJ) hF h₁;clear h₁);rw[stepG_region];simp only[goes_go,List.size_toArray,List.length_cons,List.length_nil,Nat.reduceAdd,Nat.zero_add,List.range,List.range.loop];refine⟨by((first|refine dc0_none ?_|refine Qzb ?_|refine Qzc ?_);intro e he;simp at he),?_⟩)
 ((refine Goes.step rfl (fun _ h₁=>?_);replace hF:=(CK.rely hJ) hF h₁;clear h₁);refine goes_oper_k rfl rfl (by k_ne) (fun Kx hKx=>?_);go_simp;refine hKx _ _ ⟨by((first|refine dc0_none ?_|refine Qzb ?_|refine Qzc ?_);intro e he;have hm:=mem_listed he;simp[go_sem, *] at hm),?_⟩;clear hKx Kx;try w_num)
 ((refine Goes.step rfl (fun _ h₁=>?_);replace hF:=(CK.rely hJ) hF h₁;clear h₁);refine goes_oper_k rfl rfl (by k_ne) (fun Kx hKx=>?_);go_simp;refine hKx _ _ ⟨by((first|refine dc0_none ?_|refine Qzb ?_|refine Qzc ?_);intro e he;have hm:=mem_listed he;simp[go_sem, *] at hm),?_⟩;clear hKx Kx;try w_num)
 ((refine Goes.step rfl (fun _ h₁=>?_);replace hF:=(CK.rely hJ) hF h₁;clear h₁);refine goes_oper_k rfl rfl (by k_ne) (fun Kx hKx=>?_);go_simp;refine hKx _ _ ⟨by((first|refine dc0_none ?_|refine Qzb ?_|refine Qzc ?_);intro e he;have hm:=mem_listed he;simp[go_sem, *] at hm),?_⟩;clear hKx Kx;try w_num)
 ((refine Goes.step rfl (fun _ h₁=>?_);replace hF:=(CK.rely hJ) hF h₁;clear h₁);rw[stepG_region_end];simp only[goes_go];refine⟨by((first|refine dc0_none ?_|refine Qzb ?_|refine Qzc ?_);intro e he;simp at he),?_⟩)
 ((refine Goes.step rfl (fun _ h₁=>?_);replace hF:=(CK.rely hJ) hF h₁;clear h₁);rw[stepG_inLoop];simp only[goes_go];refine⟨by((first|refine dc0_none ?_|refine Qzb ?_|refine Qzc ?_);intro e he;simp at he),?_⟩)
 refine Goes.mono (h₁ _ _ ?_ hF) (by omega)
 exact⟨_,rfl,by simp,by simp,by simp,by simp,by simp,by simp,by simp⟩
theorem QlW(hb:0<base)(hJ:Job N Shun A la B lb n arr xs ys)(hk:k<wk n): ∀(m j:Nat),lo n k≤j→j+m=lo n (k+1)→∃f,∀(g:Goroutine) (w:World),Qd7 N k j g→CK N A la ca B lb cb n arr xs ys k j w→GW N n base Shun arr An E k f g w
 |0,j,_,hj=>by
  obtain rfl:j=lo n (k+1):=by omega
  exact⟨_,Qxi hb hJ hk⟩
 |m+1,j,h0,hj=>by
  obtain⟨f₁,h₁⟩:=QlW hb hJ hk m (j+1) (by omega) (by omega)
  exact⟨_,Qxj hJ hk h0 (by omega) h₁⟩
theorem QmY(N k:Nat)(w:World):stepG Tryz.prog false (born Tryz.prog (QcQ N k)) w=
 .go (G (bW.at ⟨#[.pointer (some ⟨N+4,0,none⟩),.pointer (some ⟨N+5+k,0,none⟩),.pointer (some ⟨N+3,0,none⟩),.pointer (some ⟨N,0,none⟩),.pointer (some ⟨N+1,0,none⟩),undef,undef,undef,undef,undef,undef,undef,undef,undef,undef,undef,undef,undef,undef,undef,undef,undef,undef,undef,undef,undef,undef,undef,undef,undef,undef,undef,undef,undef,undef,undef,undef,undef,undef,undef],[]⟩ [.code bodyW]) [botW]) w #[]:=by
 simp[born,QcQ,stepG,unwind,callDeferred,invoke,callFunc, Tryz.func66, Tryz.f66,seen,GStep.after,G,Frame.enter,Frame.at,bW,baseD,botW,bodyW]
set_option maxRecDepth 100000 in
set_option maxHeartbeats 4000000 in
theorem Qxh(hb:0<base)(hJ:Job N Shun A la B lb n arr xs ys)(hk:k<wk n)(w:World)(hF:CK N A la ca B lb cb n arr xs ys k (lo n k) w):QA7 (cfg N n base Shun (valD arr) An E) k (born Tryz.prog (QcQ N k)) w:=by
 obtain⟨f,hf⟩:=QlW (ca:=ca) (cb:=cb) (An:=An) (E:=E) hb hJ hk (lo n (k+1)- lo n k) (lo n k) (Nat.le_refl _) (by have:=QCn hk;omega)
 show∃m,GW N n base Shun arr An E k m _ w
 refine⟨f+20,Goes.step rfl fun w₁ r₁=>?_⟩
 rw[QmY]
 refine⟨⟨Qzt.refl _,by simp⟩,?_⟩
 replace hF:=CK.rely hJ hF r₁
 clear r₁
 simp only[bodyW, Tryz.f66,Option.getD_some]
 ((refine Goes.step rfl (fun _ h₁=>?_);replace hF:=(CK.rely hJ) hF h₁;clear h₁);rw[stepG_seq];simp only[goes_go];refine⟨by((first|refine dc0_none ?_|refine Qzb ?_|refine Qzc ?_);intro e he;simp at he),?_⟩)
 ((refine Goes.step rfl (fun _ h₁=>?_);replace hF:=(CK.rely hJ) hF h₁;clear h₁);rw[stepG_region];simp only[goes_go,List.size_toArray,List.length_cons,List.length_nil,Nat.reduceAdd,Nat.zero_add,List.range,List.range.loop];refine⟨by((first|refine dc0_none ?_|refine Qzb ?_|refine Qzc ?_);intro e he;simp at he),?_⟩)
 ((refine Goes.step rfl (fun _ h₁=>?_);replace hF:=(CK.rely hJ) hF h₁;clear h₁);rw[stepG_defer rfl rfl (by k_ne) rfl];simp only[goes_go];refine⟨by((first|refine dc0_none ?_|refine Qzb ?_|refine Qzc ?_);intro e he;simp at he),?_⟩;walk_nrm)
 ((refine Goes.step rfl (fun _ h₁=>?_);replace hF:=(CK.rely hJ) hF h₁;clear h₁);rw[stepG_region_end];simp only[goes_go];refine⟨by((first|refine dc0_none ?_|refine Qzb ?_|refine Qzc ?_);intro e he;simp at he),?_⟩)
 ((refine Goes.step rfl (fun _ h₁=>?_);replace hF:=(CK.rely hJ) hF h₁;clear h₁);rw[stepG_seq];simp only[goes_go];refine⟨by((first|refine dc0_none ?_|refine Qzb ?_|refine Qzc ?_);intro e he;simp at he),?_⟩)
 ((refine Goes.step rfl (fun _ h₁=>?_);replace hF:=(CK.rely hJ) hF h₁;clear h₁);rw[stepG_region];simp only[goes_go,List.size_toArray,List.length_cons,List.length_nil,Nat.reduceAdd,Nat.zero_add,List.range,List.range.loop];refine⟨by((first|refine dc0_none ?_|refine Qzb ?_|refine Qzc ?_);intro e he;simp at he),?_⟩)
 u_opw (CK.rely hJ) hF [CK.frm hF] (Qzt.refl _) (QCq hk _ (by simp<;>omega) (by simp<;>omega) (by simp<;>omega) (hJ.fresh _ (by simp<;>omega)))
 ((refine Goes.step rfl (fun _ h₁=>?_);replace hF:=(CK.rely hJ) hF h₁;clear h₁);refine goes_oper_k rfl rfl (by k_ne) (fun Kx hKx=>?_);go_simp;refine hKx _ _ ⟨by((first|refine dc0_none ?_|refine Qzb ?_|refine Qzc ?_);intro e he;have hm:=mem_listed he;simp[go_sem, *] at hm),?_⟩;clear hKx Kx;try w_num)
 ((refine Goes.step rfl (fun _ h₁=>?_);replace hF:=(CK.rely hJ) hF h₁;clear h₁);rw[stepG_region_end];simp only[goes_go];refine⟨by((first|refine dc0_none ?_|refine Qzb ?_|refine Qzc ?_);intro e he;simp at he),?_⟩)
 ((refine Goes.step rfl (fun _ h₁=>?_);replace hF:=(CK.rely hJ) hF h₁;clear h₁);rw[stepG_block];simp only[goes_go];refine⟨by((first|refine dc0_none ?_|refine Qzb ?_|refine Qzc ?_);intro e he;simp at he),?_⟩)
 ((refine Goes.step rfl (fun _ h₁=>?_);replace hF:=(CK.rely hJ) hF h₁;clear h₁);rw[stepG_loop];simp only[goes_go];refine⟨by((first|refine dc0_none ?_|refine Qzb ?_|refine Qzc ?_);intro e he;simp at he),?_⟩)
 refine Goes.mono (hf _ _ ⟨_,rfl,by simp,by simp,by simp,by simp,by simp,by simp,by simp[QCy hk]⟩ hF) (by omega)
end
end Go.Proofs.YtgaimkihacljdaaGreat
