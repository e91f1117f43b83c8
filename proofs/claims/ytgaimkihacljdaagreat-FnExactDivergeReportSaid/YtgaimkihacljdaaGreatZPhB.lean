/- Lemmas: PhQ PhR PhS. -/
import Derived.Test.YtgaimkihacljdaaGreatZPhA
import Derived.Laws.MakeOwn
import Derived.Conc.CompanyWords
import Derived.Conc.FxBegin
import Derived.Test.YtgaimkihacljdaaGreatZCrB
import Derived.Test.YtgaimkihacljdaaGreatZCrA
/- The caller of n workers of one call of impl.differences: the worlds; what it knows; from its entry to the loop. (Round C) -/
namespace Go.Proofs.YtgaimkihacljdaaGreat
set_option linter.unusedSectionVars false
set_option linter.unusedSimpArgs false
open Go.Conc Go.RowKit Go.Conc.Lib
open Go.ConcN (ShN RelBy RW RC WgLive PayAt Has)
open Go.ConcR (KK wgBlock WgAt stA smA rd wr mk Payload Aside2 DC0)
open Go.ConcX.Gen (add_block alloc_at)
@[go_sem] theorem run_makeFunc' (P:Program) (fn:Fn) (first cap:Array Value) (w:World):(Instr.makeFunc fn first cap).run P w= .ok (.func fn first cap) w:=rfl
@[go_sem] theorem events_makeFunc' (P:Program) (fn:Fn) (first cap:Array Value) (w:World) (es:Array Event):(Instr.makeFunc fn first cap).events P w es=es:=rfl
@[go_sem] theorem events_store_slice (P:Program) (w:World) (es:Array Event) (a:Addr) (m:Mode) (b:Option Addr) (l c:Nat):(store a (.slice b l c) m).events P w es=storedEv P w es a (.slice b l c) m:=events_store P w es a _ m rfl
theorem Tryz.infoB:(Tryz.prog.info? 4).map (fun i=>(i.zero,i.size,i.bytes))=some (some (.bool false),1,1):=by kernel_rfl
noncomputable def bodyD:Code:= Tryz.f45.body.getD .skip
theorem nmD:(Tryz.f45.name == "runtime.NumGoroutine")=false:=by kernel_rfl
section
variable {P : Program} {main : Bool} {b : Frame} {a : Act} {kk : List Item} {cs : List Frame} {w : World} {ops : Array Oper} {i : Nat} {rest : List Nat} {o : Oper}
theorem Qo2(ρ:Operand→Value){ts:Array TypeId}{x y:Operand}(hop:o.op= .call ⟨.builtin .max,#[x,y],ts⟩):execOp ρ o=(do pure (.value (←Builtin.max_ ts o.type #[ρ x,ρ y]))):=by
 have e:(#[x,y].map ρ)= #[ρ x,ρ y]:=by simp
 unfold execOp
 rw[hop]
 show(do let d←resolve ρ ⟨.builtin .max,#[x,y],ts⟩ o.type;invoke d.target d.args:Sem Next)=_
 unfold resolve
 simp only[e]
 rfl
theorem Qlo{x y:Operand}{ts:Array TypeId}{p q:Int}(ho:ops[i]? =some o)(hw:Region.wanted o (yielded ops a.tmps)=true)(hk:b.kind≠ .early)(hop:o.op= .call ⟨.builtin .max,#[x,y],ts⟩)
 (hx:a.eval x= .int .i64 p)(hy:a.eval y= .int .i64 q)(hq:(P.funcs[b.fn]?).any (·.norace)=false):
 stepG P main (G (b.at a (.inRegion ops (i :: rest) :: kk)) cs) w= .go (G (b.at (a.put o.dst (.int .i64 (if q>p then q else p))) (.inRegion ops rest :: kk)) cs) w #[]:=by
 have h0:=Qo2 (o:=o) a.eval hop
 rw[hx,hy] at h0
 have hr:(execOp a.eval o).run P w= .ok (.value (.int .i64 (if q>p then q else p))) w:=by rw[h0];rfl
 have he:(execOp a.eval o).events P w #[]= #[]:=by rw[h0];rfl
 rw[stepG_value ho hw hk hr]
 unfold listed
 rw[he,seen_eq hq (by simp)]
end
theorem QjA:(Tryz.prog.funcs[(base 45).fn]?).any (·.norace)=false:=by kernel_rfl
section
variable (W : World) (A : Option Addr) (la ca : Nat) (B : Option Addr) (lb cb n : Nat)
def w5:World:=((((W.alloc (.cells #[.slice A la ca] 30)).alloc (.cells #[.slice B lb cb] 30)).alloc (.cells (madeCells #[.bool false] n) 4)).alloc (.cells #[.slice (some ⟨W.heap.size+2,0,none⟩) n n] 81)).alloc (.cells #[.int .u64 0,.int .u32 0] 115)
theorem QCz(x:Nat):(w5 W A la ca B lb cb n).heap[W.heap.size+x]? =(#[.cells #[.slice A la ca] 30,.cells #[.slice B lb cb] 30,.cells (madeCells #[.bool false] n) 4,.cells #[.slice (some ⟨W.heap.size+2,0,none⟩) n n] 81,.cells #[.int .u64 0,.int .u32 0] 115]:Array Obj)[x]? :=by
 have e:(w5 W A la ca B lb cb n).heap=W.heap++ #[.cells #[.slice A la ca] 30,.cells #[.slice B lb cb] 30,.cells (madeCells #[.bool false] n) 4,.cells #[.slice (some ⟨W.heap.size+2,0,none⟩) n n] 81,.cells #[.int .u64 0,.int .u32 0] 115]:=by
  apply Array.ext'
  show(((((W.heap.push _).push _).push _).push _).push _).toList=_
  simp
 rw[e,Array.getElem?_append_right (by omega)]
 congr 1
 omega
theorem QCB{b:Nat}(h:b<W.heap.size):(w5 W A la ca B lb cb n).heap[b]? =W.heap[b]? :=by
 unfold w5
 rw[Below.heap_alloc _ _ _ (by simp only[World.size_alloc];omega),Below.heap_alloc _ _ _ (by simp only[World.size_alloc];omega),Below.heap_alloc _ _ _ (by simp only[World.size_alloc];omega),Below.heap_alloc _ _ _ (by simp only[World.size_alloc];omega),Below.heap_alloc _ _ _ h]
theorem QCD:(w5 W A la ca B lb cb n).heap.size=W.heap.size+5:=by simp[w5,World.size_alloc]
def F5(w:World):Prop:=Aside2 (W.heap.size+2) (W.heap.size+4) (w5 W A la ca B lb cb n) w
structure FC(j:Nat)(z:Int)(w:World):Prop where
 tape:w.tape=W.tape
 os:w.os=W.os
 output:w.output=W.output
 size:w.heap.size=W.heap.size+5+(j+1)
 low: ∀x,x<W.heap.size+5→x≠W.heap.size+2→x≠W.heap.size+4→w.heap[x]? =(w5 W A la ca B lb cb n).heap[x]?
 box: ∀i,i<j→∃c,w.heap[W.heap.size+5+i]? =some (.cells c 3)
 cnt:w.heap[W.heap.size+5+j]? =some (.cells #[.int .i64 z] 3)
end
section
variable {W : World} {A B : Option Addr} {la ca lb cb n j : Nat} {z : Int} {w w₁ : World}
theorem QCI: ∀w w',Aside2 (W.heap.size+2) (W.heap.size+4) w w'→F5 W A la ca B lb cb n w→F5 W A la ca B lb cb n w':=fun _ _ h1 h2=>Aside2.trans h2 h1
theorem QCL: ∀w w',Aside2 (W.heap.size+2) (W.heap.size+4) w w'→FC W A la ca B lb cb n j z w→FC W A la ca B lb cb n j z w':=fun _ _ h1 h2=>
 ⟨h1.tape.trans h2.tape,h1.os.trans h2.os,h1.output.trans h2.output,h1.size.trans h2.size,fun k a b c=>(h1.block k b c).trans (h2.low k a b c),fun i hi=>let⟨c,h⟩:=h2.box i hi;⟨c,(h1.block _ (by omega) (by omega)).trans h⟩,(h1.block _ (by omega) (by omega)).trans h2.cnt⟩
theorem F5.size(h:F5 W A la ca B lb cb n w):w.heap.size=W.heap.size+5:=(show Aside2 _ _ _ _ from h).size.trans (QCD W A la ca B lb cb n)
theorem F5.alloc(h:F5 W A la ca B lb cb n w):FC W A la ca B lb cb n 0 0 (w.alloc (.cells #[.int .i64 0] 3)):=by
 have h':Aside2 _ _ _ _:=h
 have hs:=h.size
 refine⟨h'.tape,h'.os,h'.output,by simp[World.size_alloc,hs],fun k a b c=>?_,fun i hi=>absurd hi (Nat.not_lt_zero _),?_⟩
 ·rw[Below.heap_alloc _ _ _ (by omega)]
  exact h'.block k b c
 ·have:=heap_alloc_new w (.cells #[.int .i64 0] 3)
  rw[hs] at this
  exact this
theorem FC.next(h:FC W A la ca B lb cb n j z w):FC W A la ca B lb cb n (j+1) 0 (w.alloc (.cells #[.int .i64 0] 3)):=by
 have hs:=h.size
 refine⟨h.tape,h.os,h.output,by simp[World.size_alloc,hs];omega,fun k a b c=>?_,fun i hi=>?_,?_⟩
 ·rw[Below.heap_alloc _ _ _ (by omega)]
  exact h.low k a b c
 ·rw[Below.heap_alloc _ _ _ (by omega)]
  rcases Nat.lt_or_ge i j with hlt|hge
  ·exact h.box i hlt
  ·obtain rfl:i=j:=by omega
   exact⟨_,h.cnt⟩
 ·have:=heap_alloc_new w (.cells #[.int .i64 0] 3)
  rw[hs] at this
  exact this
theorem FC.cntc(h:FC W A la ca B lb cb n j z w):w.cell? ⟨W.heap.size+5+j,0,none⟩=some (.int .i64 z):=by
 unfold World.cell?
 rw[h.cnt]
 rfl
theorem FC.out(h:FC W A la ca B lb cb n j z w):w.cell? ⟨W.heap.size+3,0,none⟩=some (.slice (some ⟨W.heap.size+2,0,none⟩) n n):=by
 unfold World.cell?
 rw[h.low (W.heap.size+3) (by omega) (by omega) (by omega),QCz]
 rfl
theorem FC.thaw(h:FC W A la ca B lb cb n j z w):w.frozen? ⟨W.heap.size+5+j,0,none⟩=false:=by
 unfold World.frozen?
 rw[h.cnt]
 rfl
theorem FC.set(h:FC W A la ca B lb cb n j z w)(z':Int):FC W A la ca B lb cb n j z' (w.setCell ⟨W.heap.size+5+j,0,none⟩ (.int .i64 z')):=by
 have hA:=aside_setCell w ⟨W.heap.size+5+j,0,none⟩ (.int .i64 z')
 refine⟨hA.tape.trans h.tape,hA.os.trans h.os,hA.output.trans h.output,hA.size.trans h.size,fun k a b c=>(hA.block k (by simp;omega)).trans (h.low k a b c),fun i hi=>let⟨c,h⟩:=h.box i hi;⟨c,(hA.block _ (by simp;omega)).trans h⟩,?_⟩
 rw[setCell_eq_setRow w (W.heap.size+5+j) 0 _ 3 (0,0) _ h.cnt,setRow_heap w (W.heap.size+5+j) _ _ 3 _ h.cnt]
 rfl
abbrev LvD(W:World)(w:World):Prop:=WgLive 115 (W.heap.size+4) w
theorem QCA(o:Obj)(hs:W.heap.size+5≤w.heap.size)(h:LvD W w):LvD W (w.alloc o):=
 let⟨st,sm,hl⟩:=h;⟨st,sm,hl.of_block (Below.heap_alloc _ _ _ (by omega))⟩
theorem QCC(x:Nat)(hx:W.heap.size+5≤x)(v:Value)(h:LvD W w):LvD W (w.setCell ⟨x,0,none⟩ v):=
 let⟨st,sm,hl⟩:=h;⟨st,sm,hl.of_block ((aside_setCell w ⟨x,0,none⟩ v).block _ (by simp;omega))⟩
theorem QCH(h:F5 W A la ca B lb cb n w∧LvD W w):FC W A la ca B lb cb n 0 0 (w.alloc (.cells #[.int .i64 0] 3))∧LvD W (w.alloc (.cells #[.int .i64 0] 3)):=
 ⟨h.1.alloc,QCA _ (by have:=F5.size h.1;omega) h.2⟩
theorem QCJ(h:FC W A la ca B lb cb n j z w∧LvD W w):FC W A la ca B lb cb n (j+1) 0 (w.alloc (.cells #[.int .i64 0] 3))∧LvD W (w.alloc (.cells #[.int .i64 0] 3)):=
 ⟨h.1.next,QCA _ (by have:=h.1.size;omega) h.2⟩
theorem QCK(z':Int)(h:FC W A la ca B lb cb n j z w∧LvD W w):FC W A la ca B lb cb n j z' (w.setCell ⟨W.heap.size+5+j,0,none⟩ (.int .i64 z'))∧LvD W (w.setCell ⟨W.heap.size+5+j,0,none⟩ (.int .i64 z')):=
 ⟨h.1.set z',QCC _ (by omega) _ h.2⟩
theorem QCF{Shun:Loc→Prop}{arr:Array Value}{xs ys:Nat→Int}(hJ:Job W.heap.size Shun A la B lb n arr xs ys)(ha: ∀i ad,i<la→i<lb→A=some ad→W.cell? (ad.add i)=some (.int .i64 (xs i)))(hb: ∀i ad,i<la→i<lb→B=some ad→W.cell? (ad.add i)=some (.int .i64 (ys i)))
 (h:FC W A la ca B lb cb n j (fkw j) w∧LvD W w)(hp:PayAt (W.heap.size+2) n w):CK W.heap.size A la ca B lb cb n arr xs ys j (lo n j) w:=by
 obtain⟨h,hl⟩:=h
 have lw: ∀(a:Addr) v,a.block<W.heap.size→W.cell? a=some v→w.cell? a=some v:=fun a v hlt hv=>
  (World.cell?_of_block ((h.low a.block (by omega) (by omega) (by omega)).trans (QCB W A la ca B lb cb n hlt))).trans hv
 refine⟨?_,?_,h.out,h.cntc,fun i ad h1 h2 e=>?_,fun i ad h1 h2 e=>?_,hl,hp,fun i h1 h2 _=>absurd h2 (by omega)⟩
 ·unfold World.cell?
  rw[h.low W.heap.size (by omega) (by omega) (by omega),show W.heap.size=W.heap.size+0 from rfl,QCz]
  rfl
 ·unfold World.cell?
  rw[h.low (W.heap.size+1) (by omega) (by omega) (by omega),QCz]
  rfl
 ·obtain⟨ad',e',hlt⟩:=hJ.a i h1 h2
  obtain rfl:=Option.some.inj (e.symm.trans e')
  exact lw _ _ (by rw[add_block];exact hlt) (ha i ad h1 h2 e)
 ·obtain⟨ad',e',hlt⟩:=hJ.b i h1 h2
  obtain rfl:=Option.some.inj (e.symm.trans e')
  exact lw _ _ (by rw[add_block];exact hlt) (hb i ad h1 h2 e)
end
noncomputable def LD:Code:=match bodyD with| .seq _ (.seq _ (.seq _ (.seq (.seq _ (.block _ (.loop c))) _)))=>c|_=> .skip
noncomputable def ops7D:Array Oper:=match LD with| .seq _ (.seq (.block _ (.seq _ (.region _ ops _))) _)=>ops|_=>#[]
noncomputable def stepD:Code:=match LD with| .seq _ (.seq _ c)=>c|_=> .skip
noncomputable def tailD:Code:=match bodyD with| .seq _ (.seq _ (.seq _ (.seq _ c)))=>c|_=> .skip
noncomputable def restD:Code:=match bodyD with| .seq _ (.seq _ (.seq _ c))=>c|_=> .skip
noncomputable def ops10D:Array Oper:=match tailD with| .seq (.region _ ops _) _=>ops|_=>#[]
noncomputable def tail11D:Code:=match tailD with| .seq _ r=>r|_=> .skip
noncomputable def gD (A:Option Addr) (la ca:Nat) (B:Option Addr) (lb cb:Nat) (v2 v3 v4 v5 v6 v7 v8 v9 v10 v11 v12 v13 v14 v15 v16 v17 v18 v19 v20 v21 v22 v23 v24:Value) (cs:List Frame):Goroutine:=G ((base 45).at ⟨#[.slice A la ca,.slice B lb cb,v2,v3,v4,v5,v6,v7,v8,v9,v10,v11,v12,v13,v14,v15,v16,v17,v18,v19,v20,v21,v22,v23,v24],[]⟩ [.code bodyD]) cs
noncomputable def gA (N:Nat) (A:Option Addr) (la ca:Nat) (B:Option Addr) (lb cb n:Nat) (v7 v14 v15 v16 v17 v18 v19 v20 v21 v22 v23 v24:Value) (cs:List Frame):Goroutine:=
 G ((base 45).at ⟨#[.slice A la ca,.slice B lb cb,.pointer (some ⟨N,0,none⟩),.pointer (some ⟨N+1,0,none⟩),.slice none 0 0,.pointer (some ⟨N+3,0,none⟩),.pointer (some ⟨N+4,0,none⟩),v7,.slice A la ca,.int .i64 la,.slice B lb cb,.int .i64 lb,.int .i64 n,.slice (some ⟨N+2,0,none⟩) n n,v14,v15,v16,v17,v18,v19,v20,v21,v22,v23,v24],[]⟩ [.code restD]) cs
def TR(N:Nat)(A:Option Addr)(la ca:Nat)(B:Option Addr)(lb cb n j:Nat)(v14 v15 v16 v17 v18 v19 v20 v21 v22 v23 v24:Value):Array Value:=#[.slice A la ca,.slice B lb cb,.pointer (some ⟨N,0,none⟩),.pointer (some ⟨N+1,0,none⟩),.slice none 0 0,.pointer (some ⟨N+3,0,none⟩),.pointer (some ⟨N+4,0,none⟩),.pointer (some ⟨N+5+j,0,none⟩),.slice A la ca,.int .i64 la,.slice B lb cb,.int .i64 lb,.int .i64 n,.slice (some ⟨N+2,0,none⟩) n n,v14,v15,v16,v17,v18,v19,v20,v21,v22,v23,v24]
def QCE(N:Nat)(A:Option Addr)(la ca:Nat)(B:Option Addr)(lb cb n:Nat)(cs:List Frame)(j:Nat)(g:Goroutine):Prop:=
 ∃v14 v15 v16 v17 v18 v19 v20 v21 v22 v23 v24:Value,g=G ((base 45).at ⟨TR N A la ca B lb cb n j v14 v15 v16 v17 v18 v19 v20 v21 v22 v23 v24,[]⟩ [.code LD,.inLoop LD,.inBlock 0,.code tailD]) cs
def AtP(N:Nat)(A:Option Addr)(la ca:Nat)(B:Option Addr)(lb cb n:Nat)(cs:List Frame)(j:Nat)(g:Goroutine):Prop:=
 ∃v14 v15 v16 v17 v18 v19 v20 v21 v22 v23 v24:Value,g=G ((base 45).at ⟨TR N A la ca B lb cb n j v14 v15 v16 v17 v18 v19 v20 v21 v22 v23 v24,[]⟩ [.inRegion ops7D [],.inBlock 1,.code stepD,.inLoop LD,.inBlock 0,.code tailD]) cs
section
variable {W : World} {A B : Option Addr} {la ca lb cb n : Nat} {Shun : Loc → Prop} {cs : List Frame}
set_option maxRecDepth 100000 in
set_option maxHeartbeats 4000000 in
theorem QCG(hfresh: ∀a:Addr,W.heap.size≤a.block→¬Shun (.cell a))(hm:n=max la lb)(hle:n≤1048576)(v2 v3 v4 v5 v6 v7 v8 v9 v10 v11 v12 v13 v14 v15 v16 v17 v18 v19 v20 v21 v22 v23 v24:Value):
 Goes Tryz.prog true AtRel (DE (EvL Shun (W.heap.size+4))) (fun g w=>g=gA W.heap.size A la ca B lb cb n v7 v14 v15 v16 v17 v18 v19 v20 v21 v22 v23 v24 cs∧AtRel (w5 W A la ca B lb cb n) w) 30 (gD A la ca B lb cb v2 v3 v4 v5 v6 v7 v8 v9 v10 v11 v12 v13 v14 v15 v16 v17 v18 v19 v20 v21 v22 v23 v24 cs) W:=by
 have hmx:(if(lb:Int)> (la:Int) then(lb:Int) else la)=(n:Int):=by split<;>omega
 clear hm
 obtain⟨i0,hi,hz0,hz1,hz2⟩:=info_parts Tryz.infoB
 have hmk:=fun w=>run_make (P:= Tryz.prog) w 81 4 i0 (.bool false) Tryz.underlying81 hi hz0 .i64 .i64 n n (by omega) (by omega) (by rw[hz2];omega) (by omega)
 have hme:=fun w es=>events_make (P:= Tryz.prog) w 81 4 i0 (.bool false) Tryz.underlying81 hi hz0 .i64 .i64 n n (by omega) (by omega) (by rw[hz2];omega) (by omega) (by rw[hz2];simp;omega) es
 simp only[gD,bodyD, Tryz.f45,Option.getD_some]
 l_c stepG_seq
 l_reg
 i_opw (hfresh _ (by simp<;>omega))
 i_opw (hfresh _ (by simp<;>omega))
 l_op
 l_c stepG_region_end
 l_c stepG_seq
 l_reg
 i_opw (hfresh _ (by simp<;>omega))
 l_op
 i_opw (hfresh _ (by simp<;>omega))
 l_op
 l_in
 rw[Qlo rfl rfl (by decide) rfl rfl rfl QjA,hmx]
 simp only[goes_go]
 refine⟨by u_nil,?_⟩
 walk_nrm
 i_opw (hfresh _ (by simp<;>omega))
 i_opw (hfresh _ (by simp<;>omega))
 i_opw (hfresh _ (by simp<;>omega))
 l_c stepG_region_end
 l_c stepG_seq
 l_reg
 i_opw (hfresh _ (by simp<;>omega))
 l_c stepG_region_end
 refine Goes.stop (fun w₁ r=>⟨?_,?_⟩)
 ·simp only[gA,restD,bodyD, Tryz.f45,Option.getD_some]
 ·obtain⟨d,rfl⟩:=r
  exact⟨d,rfl⟩
end
end Go.Proofs.YtgaimkihacljdaaGreat
/- The caller of n workers of one call of impl.differences: its loop. (Round C) -/
namespace Go.Proofs.YtgaimkihacljdaaGreat
set_option linter.unusedSectionVars false
set_option linter.unusedSimpArgs false
open Go.Conc Go.RowKit Go.Conc.Lib
open Go.ConcN (ShN RelBy RW RC WgLive PayAt Has)
open Go.ConcR (KK wgBlock WgAt stA smA rd wr mk Payload Aside2 DC0)
open Go.ConcX.Gen (add_block alloc_at)
open Go.ConcR.Gen (nm_add nm_wait body_add body_wait)
section
variable [Payload] {K : Crew}
def QCM(K:Crew):Nat→Goroutine→World→Prop
 |0=>QzV K
 |r+1=>QzU K (K.n - (r+1)) (Qzs K r)
theorem QCQ{r j m:Nat}{g:Goroutine}{w:World}(hj:j+r=K.n)(h:Goes K.P true (RC K.ty K.F.Wg K.C) (DC K j) (QCM K r) m g w):Qzs K r g w:=by
 cases r with
 |zero=>
  obtain rfl:j=K.n:=hj
  exact⟨m,h⟩
 |succ r=>
  obtain rfl:j=K.n - (r+1):=by omega
  exact⟨m,h⟩
end
noncomputable def cWt (N:Nat) (A:Option Addr) (la ca:Nat) (B:Option Addr) (lb cb n:Nat) (v14 v15 v16 v17 v18 v19 v20 v21 v22 v23 v24:Value):Frame:=(base 45).at ⟨TR N A la ca B lb cb n (wk n) v14 v15 v16 v17 v18 v19 v20 v21 v22 v23 v24,[]⟩ (.inRegion ops10D (0 :: []) :: [.code tail11D])
def AnD(W:World)(A:Option Addr)(la ca:Nat)(B:Option Addr)(lb cb n:Nat)(cs:List Frame)(g:Goroutine)(w:World):Prop:=
 ∃v14 v15 v16 v17 v18 v19 v20 v21 v22 v23 v24:Value,QzS Tryz.link 115 (W.heap.size+4) (FC W A la ca B lb cb n (wk n) (fkw (wk n))) (cWt W.heap.size A la ca B lb cb n v14 v15 v16 v17 v18 v19 v20 v21 v22 v23 v24) cs g w
def ED(W:World)(A:Option Addr)(la ca:Nat)(B:Option Addr)(lb cb n:Nat)(c:Frame)(cs:List Frame)(g:Goroutine)(w:World):Prop:=
 g=G (c.finish (.slice (some ⟨W.heap.size+2,0,none⟩) n n)) cs∧FC W A la ca B lb cb n (wk n) (fkw (wk n)) w
noncomputable abbrev crewD (W:World) (A:Option Addr) (la ca:Nat) (B:Option Addr) (lb cb n base:Nat) (Shun:Loc→Prop) (arr:Array Value) (c:Frame) (cs:List Frame):Crew:=
 cfg W.heap.size n base Shun (valD arr) (AnD W A la ca B lb cb n (c :: cs)) (ED W A la ca B lb cb n c cs)
section
variable {W : World} {A B : Option Addr} {la ca lb cb n base : Nat} {Shun : Loc → Prop} {arr : Array Value} {xs ys : Nat → Int} {c : Frame} {cs : List Frame} {S : Goroutine → World → Prop} {j m b : Nat} {w : World}
abbrev GM(W:World)(A:Option Addr)(la ca:Nat)(B:Option Addr)(lb cb n base:Nat)(Shun:Loc→Prop)(arr:Array Value)(c:Frame)(cs:List Frame)(j:Nat)(S:Goroutine→World→Prop)(m:Nat)(g:Goroutine)(w:World):Prop:=
 Goes Tryz.prog true (RC 115 (W.heap.size+4) (W.heap.size+2)) (DC (crewD W A la ca B lb cb n base Shun arr c cs) j) S m g w
theorem lws(h:b<(crewD W A la ca B lb cb n base Shun arr c cs).Lws j):b<W.heap.size+5+j:=h
theorem QCO(h:j<wk n):fkw j<(n:Int):=by unfold fkw;unfold wk at h;omega
theorem QCN(h:j=wk n): ¬(fkw j<(n:Int)):=by subst h;unfold fkw wk;omega
theorem QCP:fkw 0=0:=rfl
set_option maxRecDepth 100000 in
set_option maxHeartbeats 4000000 in
theorem QCS(hfresh: ∀a:Addr,W.heap.size≤a.block→¬Shun (.cell a))(h: ∀g w,QCE W.heap.size A la ca B lb cb n (c :: cs) 0 g→FC W A la ca B lb cb n 0 (fkw 0) w∧LvD W w→GM W A la ca B lb cb n base Shun arr c cs 0 S m g w)
 (v7 v14 v15 v16 v17 v18 v19 v20 v21 v22 v23 v24:Value)(w:World)(hF:F5 W A la ca B lb cb n w∧LvD W w):GM W A la ca B lb cb n base Shun arr c cs 0 S (m+20) (gA W.heap.size A la ca B lb cb n v7 v14 v15 v16 v17 v18 v19 v20 v21 v22 v23 v24 (c :: cs)) w:=by
 simp only[gA,restD,bodyD, Tryz.f45,Option.getD_some]
 ((refine Goes.step rfl (fun _ h₁=>?_);replace hF:=(Go.ConcN.Gen.fl_rely QCI) hF h₁;clear h₁);rw[stepG_seq];simp only[goes_go];refine⟨by((first|refine dc0_none ?_|refine Qzb ?_|refine Qzc ?_);intro e he;simp at he),?_⟩)
 ((refine Goes.step rfl (fun _ h₁=>?_);replace hF:=(Go.ConcN.Gen.fl_rely QCI) hF h₁;clear h₁);rw[stepG_seq];simp only[goes_go];refine⟨by((first|refine dc0_none ?_|refine Qzb ?_|refine Qzc ?_);intro e he;simp at he),?_⟩)
 ((refine Goes.step rfl (fun _ h₁=>?_);replace hF:=(Go.ConcN.Gen.fl_rely QCI) hF h₁;clear h₁);rw[stepG_region];simp only[goes_go,List.size_toArray,List.length_cons,List.length_nil,Nat.reduceAdd,Nat.zero_add,List.range,List.range.loop];refine⟨by((first|refine dc0_none ?_|refine Qzb ?_|refine Qzc ?_);intro e he;simp at he),?_⟩)
 (refine Goes.step rfl (fun _ h₁=>?_);replace hF:=(Go.ConcN.Gen.fl_rely QCI) hF h₁;clear h₁)
 have hsz:=F5.size hF.1
 refine goes_oper_k rfl rfl (by decide) (fun Kx hKx=>?_)
 go_simp
 refine hKx _ _ ⟨⟨fun b hb=>Below.heap_alloc _ _ _ (by have:=lws hb;omega),fun e he=>?_⟩,?_⟩
 ·have hm:=mem_listed he
  simp[go_sem, *] at hm
 clear hKx Kx
 replace hF:=QCH hF
 clear hsz
 try walk_nrm
 have hc0: ∀w,FC W A la ca B lb cb n 0 0 w→w.cell? ⟨W.heap.size+5,0,none⟩=some (.int .i64 0):=fun w h=>h.cntc
 have hz0: ∀w,FC W A la ca B lb cb n 0 0 w→w.frozen? ⟨W.heap.size+5,0,none⟩=false:=fun w h=>h.thaw
 u_opw (Go.ConcN.Gen.fl_rely QCL) hF [hc0 _ (And.left hF),hz0 _ (And.left hF)] (fun b hb=>(aside_setCell _ _ _).block b (by simp;have:=lws hb;omega)) (QCp _ _ (by simp<;>omega) (by simp<;>omega) (hfresh _ (by simp<;>omega)) (.inr (by simp<;>omega)) (by simp<;>omega))
 replace hF:=QCK 0 hF
 ((refine Goes.step rfl (fun _ h₁=>?_);replace hF:=(Go.ConcN.Gen.fl_rely QCL) hF h₁;clear h₁);rw[stepG_region_end];simp only[goes_go];refine⟨by((first|refine dc0_none ?_|refine Qzb ?_|refine Qzc ?_);intro e he;simp at he),?_⟩)
 ((refine Goes.step rfl (fun _ h₁=>?_);replace hF:=(Go.ConcN.Gen.fl_rely QCL) hF h₁;clear h₁);rw[stepG_block];simp only[goes_go];refine⟨by((first|refine dc0_none ?_|refine Qzb ?_|refine Qzc ?_);intro e he;simp at he),?_⟩)
 ((refine Goes.step rfl (fun _ h₁=>?_);replace hF:=(Go.ConcN.Gen.fl_rely QCL) hF h₁;clear h₁);rw[stepG_loop];simp only[goes_go];refine⟨by((first|refine dc0_none ?_|refine Qzb ?_|refine Qzc ?_);intro e he;simp at he),?_⟩)
 refine Goes.mono (n:=m) (h _ _ (?_:QCE W.heap.size A la ca B lb cb n (c :: cs) 0 _) hF) (by omega)
 exact⟨_,_,_,_,_,_,_,_,_,_,_,rfl⟩
set_option maxRecDepth 100000 in
set_option maxHeartbeats 4000000 in
theorem QCR(hfresh: ∀a:Addr,W.heap.size≤a.block→¬Shun (.cell a))(hle:n≤1048576)(hj:j<wk n)(h: ∀g w,QCE W.heap.size A la ca B lb cb n (c :: cs) (j+1) g→FC W A la ca B lb cb n (j+1) (fkw (j+1)) w∧LvD W w→GM W A la ca B lb cb n base Shun arr c cs (j+1) S m g w)
 (g:Goroutine)(w:World)(hg:AtP W.heap.size A la ca B lb cb n (c :: cs) j g)(hF:FC W A la ca B lb cb n j (fkw j) w∧LvD W w):GM W A la ca B lb cb n base Shun arr c cs (j+1) S (m+20) g w:=by
 obtain⟨v14,v15,v16,v17,v18,v19,v20,v21,v22,v23,v24,rfl⟩:=hg
 have hfw:=QCx (n:=n) hj hle
 simp only[TR,ops7D,stepD,tailD,LD,bodyD, Tryz.f45,Option.getD_some]
 ((refine Goes.step rfl (fun _ h₁=>?_);replace hF:=(Go.ConcN.Gen.fl_rely QCL) hF h₁;clear h₁);rw[stepG_region_end];simp only[goes_go];refine⟨by((first|refine dc0_none ?_|refine Qzb ?_|refine Qzc ?_);intro e he;simp at he),?_⟩)
 ((refine Goes.step rfl (fun _ h₁=>?_);replace hF:=(Go.ConcN.Gen.fl_rely QCL) hF h₁;clear h₁);rw[stepG_inBlock];simp only[goes_go];refine⟨by((first|refine dc0_none ?_|refine Qzb ?_|refine Qzc ?_);intro e he;simp at he),?_⟩)
 ((refine Goes.step rfl (fun _ h₁=>?_);replace hF:=(Go.ConcN.Gen.fl_rely QCL) hF h₁;clear h₁);rw[stepG_seq];simp only[goes_go];refine⟨by((first|refine dc0_none ?_|refine Qzb ?_|refine Qzc ?_);intro e he;simp at he),?_⟩)
 ((refine Goes.step rfl (fun _ h₁=>?_);replace hF:=(Go.ConcN.Gen.fl_rely QCL) hF h₁;clear h₁);rw[stepG_seq];simp only[goes_go];refine⟨by((first|refine dc0_none ?_|refine Qzb ?_|refine Qzc ?_);intro e he;simp at he),?_⟩)
 ((refine Goes.step rfl (fun _ h₁=>?_);replace hF:=(Go.ConcN.Gen.fl_rely QCL) hF h₁;clear h₁);rw[stepG_region];simp only[goes_go,List.size_toArray,List.length_cons,List.length_nil,Nat.reduceAdd,Nat.zero_add,List.range,List.range.loop];refine⟨by((first|refine dc0_none ?_|refine Qzb ?_|refine Qzc ?_);intro e he;simp at he),?_⟩)
 u_opw (Go.ConcN.Gen.fl_rely QCL) hF [FC.cntc (And.left hF)] (fun _ _=>rfl) (QCp _ _ (by simp<;>omega) (by simp<;>omega) (hfresh _ (by simp<;>omega)) (.inl rfl) (by simp<;>omega))
 ((refine Goes.step rfl (fun _ h₁=>?_);replace hF:=(Go.ConcN.Gen.fl_rely QCL) hF h₁;clear h₁);rw[stepG_region_end];simp only[goes_go];refine⟨by((first|refine dc0_none ?_|refine Qzb ?_|refine Qzc ?_);intro e he;simp at he),?_⟩)
 ((refine Goes.step rfl (fun _ h₁=>?_);replace hF:=(Go.ConcN.Gen.fl_rely QCL) hF h₁;clear h₁);rw[stepG_region];simp only[goes_go,List.size_toArray,List.length_cons,List.length_nil,Nat.reduceAdd,Nat.zero_add,List.range,List.range.loop];refine⟨by((first|refine dc0_none ?_|refine Qzb ?_|refine Qzc ?_);intro e he;simp at he),?_⟩)
 (refine Goes.step rfl (fun _ h₁=>?_);replace hF:=(Go.ConcN.Gen.fl_rely QCL) hF h₁;clear h₁)
 have hsz:=FC.size hF.1
 refine goes_oper_k rfl rfl (by decide) (fun Kx hKx=>?_)
 go_simp
 refine hKx _ _ ⟨⟨fun b hb=>Below.heap_alloc _ _ _ (by have:=lws hb;omega),fun e he=>?_⟩,?_⟩
 ·have hm:=mem_listed he
  simp[go_sem, *] at hm
 clear hKx Kx
 replace hF:=QCJ hF
 clear hsz
 try walk_nrm
 u_opw (Go.ConcN.Gen.fl_rely QCL) hF [FC.cntc (And.left hF),FC.thaw (And.left hF)] (fun b hb=>(aside_setCell _ _ _).block b (by simp;have:=lws hb;omega)) (QCp _ _ (by simp<;>omega) (by simp<;>omega) (hfresh _ (by simp<;>omega)) (.inr (by simp<;>omega)) (by simp<;>omega))
 replace hF:=QCK (fkw j) hF
 ((refine Goes.step rfl (fun _ h₁=>?_);replace hF:=(Go.ConcN.Gen.fl_rely QCL) hF h₁;clear h₁);rw[stepG_region_end];simp only[goes_go];refine⟨by((first|refine dc0_none ?_|refine Qzb ?_|refine Qzc ?_);intro e he;simp at he),?_⟩)
 ((refine Goes.step rfl (fun _ h₁=>?_);replace hF:=(Go.ConcN.Gen.fl_rely QCL) hF h₁;clear h₁);rw[stepG_region];simp only[goes_go,List.size_toArray,List.length_cons,List.length_nil,Nat.reduceAdd,Nat.zero_add,List.range,List.range.loop];refine⟨by((first|refine dc0_none ?_|refine Qzb ?_|refine Qzc ?_);intro e he;simp at he),?_⟩)
 u_opw (Go.ConcN.Gen.fl_rely QCL) hF [FC.cntc (And.left hF)] (fun _ _=>rfl) (QCp _ _ (by simp<;>omega) (by simp<;>omega) (hfresh _ (by simp<;>omega)) (.inl rfl) (by simp<;>omega))
 ((refine Goes.step rfl (fun _ h₁=>?_);replace hF:=(Go.ConcN.Gen.fl_rely QCL) hF h₁;clear h₁);refine goes_oper_k rfl rfl (by k_ne) (fun Kx hKx=>?_);go_simp;refine hKx _ _ ⟨by((first|refine dc0_none ?_|refine Qzb ?_|refine Qzc ?_);intro e he;have hm:=mem_listed he;simp[go_sem, *] at hm),?_⟩;clear hKx Kx;try w_num)
 u_opw (Go.ConcN.Gen.fl_rely QCL) hF [FC.cntc (And.left hF),FC.thaw (And.left hF)] (fun b hb=>(aside_setCell _ _ _).block b (by simp;have:=lws hb;omega)) (QCp _ _ (by simp<;>omega) (by simp<;>omega) (hfresh _ (by simp<;>omega)) (.inr (by simp<;>omega)) (by simp<;>omega))
 replace hF:=QCK (fkw (j+1)) hF
 ((refine Goes.step rfl (fun _ h₁=>?_);replace hF:=(Go.ConcN.Gen.fl_rely QCL) hF h₁;clear h₁);rw[stepG_region_end];simp only[goes_go];refine⟨by((first|refine dc0_none ?_|refine Qzb ?_|refine Qzc ?_);intro e he;simp at he),?_⟩)
 ((refine Goes.step rfl (fun _ h₁=>?_);replace hF:=(Go.ConcN.Gen.fl_rely QCL) hF h₁;clear h₁);rw[stepG_inLoop];simp only[goes_go];refine⟨by((first|refine dc0_none ?_|refine Qzb ?_|refine Qzc ?_);intro e he;simp at he),?_⟩)
 refine Goes.mono (n:=m) (h _ _ (?_:QCE W.heap.size A la ca B lb cb n (c :: cs) (j+1) _) hF) (by omega)
 exact⟨_,_,_,_,_,_,_,_,_,_,_,rfl⟩
end
end Go.Proofs.YtgaimkihacljdaaGreat
/- The caller of n workers of one call of impl.differences: a round. (Round C) -/
namespace Go.Proofs.YtgaimkihacljdaaGreat
set_option linter.unusedSectionVars false
set_option linter.unusedSimpArgs false
open Go.Conc Go.RowKit Go.Conc.Lib
open Go.ConcN (ShN RelBy RW RC WgLive PayAt Has)
open Go.ConcR (KK wgBlock WgAt stA smA rd wr mk Payload Aside2 DC0)
open Go.ConcX.Gen (add_block alloc_at)
open Go.ConcR.Gen (nm_add nm_wait body_add body_wait)
section
variable {W : World} {A B : Option Addr} {la ca lb cb n base : Nat} {Shun : Loc → Prop} {arr : Array Value} {xs ys : Nat → Int} {c : Frame} {cs : List Frame} {S : Goroutine → World → Prop} {j r m : Nat} {w : World}
set_option maxRecDepth 100000 in
set_option maxHeartbeats 4000000 in
theorem QCW(hb:0<base)(hJ:Job W.heap.size Shun A la B lb n arr xs ys)(ha: ∀i ad,i<la→i<lb→A=some ad→W.cell? (ad.add i)=some (.int .i64 (xs i)))(hbb: ∀i ad,i<la→i<lb→B=some ad→W.cell? (ad.add i)=some (.int .i64 (ys i)))(hj:j+(r+1)=wk n)
 (ih: ∀g w,QCE W.heap.size A la ca B lb cb n (c :: cs) (j+1) g→FC W A la ca B lb cb n (j+1) (fkw (j+1)) w∧LvD W w→GM W A la ca B lb cb n base Shun arr c cs (j+1) (QCM (crewD W A la ca B lb cb n base Shun arr c cs) r) m g w)
 (g:Goroutine)(w:World)(hg:QCE W.heap.size A la ca B lb cb n (c :: cs) j g)(hF:FC W A la ca B lb cb n j (fkw j) w∧LvD W w):GM W A la ca B lb cb n base Shun arr c cs j (QCM (crewD W A la ca B lb cb n base Shun arr c cs) (r+1)) 40 g w:=by
 have hfresh:=hJ.fresh
 have hle:=hJ.le
 have hjw:j<wk n:=by omega
 have hlt:=QCO hjw
 have e:(crewD W A la ca B lb cb n base Shun arr c cs).n - (r+1)=j:=by show wk n - (r+1)=j;omega
 show GM W A la ca B lb cb n base Shun arr c cs j (QzU (crewD W A la ca B lb cb n base Shun arr c cs) ((crewD W A la ca B lb cb n base Shun arr c cs).n - (r+1)) (Qzs (crewD W A la ca B lb cb n base Shun arr c cs) r)) 40 g w
 rw[e]
 clear e
 obtain⟨v14,v15,v16,v17,v18,v19,v20,v21,v22,v23,v24,rfl⟩:=hg
 have hA:= @QCd _ Tryz.link (crewD W A la ca B lb cb n base Shun arr c cs) j (Qzs (crewD W A la ca B lb cb n base Shun arr c cs) r) (FC W A la ca B lb cb n j (fkw j))
 simp only[TR,LD,tailD,bodyD,body_add, Tryz.f45,addFn,Option.getD_some] at hA⊢
 ((refine Goes.step rfl (fun _ h₁=>?_);replace hF:=(Go.ConcN.Gen.fl_rely QCL) hF h₁;clear h₁);rw[stepG_seq];simp only[goes_go];refine⟨by((first|refine dc0_none ?_|refine Qzb ?_|refine Qzc ?_);intro e he;simp at he),?_⟩)
 ((refine Goes.step rfl (fun _ h₁=>?_);replace hF:=(Go.ConcN.Gen.fl_rely QCL) hF h₁;clear h₁);rw[stepG_seq];simp only[goes_go];refine⟨by((first|refine dc0_none ?_|refine Qzb ?_|refine Qzc ?_);intro e he;simp at he),?_⟩)
 ((refine Goes.step rfl (fun _ h₁=>?_);replace hF:=(Go.ConcN.Gen.fl_rely QCL) hF h₁;clear h₁);rw[stepG_region];simp only[goes_go,List.size_toArray,List.length_cons,List.length_nil,Nat.reduceAdd,Nat.zero_add,List.range,List.range.loop];refine⟨by((first|refine dc0_none ?_|refine Qzb ?_|refine Qzc ?_);intro e he;simp at he),?_⟩)
 u_opw (Go.ConcN.Gen.fl_rely QCL) hF [FC.cntc (And.left hF)] (fun _ _=>rfl) (QCp _ _ (by simp<;>omega) (by simp<;>omega) (hfresh _ (by simp<;>omega)) (.inl rfl) (by simp<;>omega))
 u_opw (Go.ConcN.Gen.fl_rely QCL) hF [FC.out (And.left hF)] (fun _ _=>rfl) (QCp _ _ (by simp<;>omega) (by simp<;>omega) (hfresh _ (by simp<;>omega)) (.inl rfl) (by simp<;>omega))
 ((refine Goes.step rfl (fun _ h₁=>?_);replace hF:=(Go.ConcN.Gen.fl_rely QCL) hF h₁;clear h₁);refine goes_oper_k rfl rfl (by k_ne) (fun Kx hKx=>?_);go_simp;refine hKx _ _ ⟨by((first|refine dc0_none ?_|refine Qzb ?_|refine Qzc ?_);intro e he;have hm:=mem_listed he;simp[go_sem, *] at hm),?_⟩;clear hKx Kx;try w_num)
 ((refine Goes.step rfl (fun _ h₁=>?_);replace hF:=(Go.ConcN.Gen.fl_rely QCL) hF h₁;clear h₁);refine goes_oper_k rfl rfl (by k_ne) (fun Kx hKx=>?_);go_simp;refine hKx _ _ ⟨by((first|refine dc0_none ?_|refine Qzb ?_|refine Qzc ?_);intro e he;have hm:=mem_listed he;simp[go_sem, *] at hm),?_⟩;clear hKx Kx;try w_num)
 ((refine Goes.step rfl (fun _ h₁=>?_);replace hF:=(Go.ConcN.Gen.fl_rely QCL) hF h₁;clear h₁);rw[stepG_region_end];simp only[goes_go];refine⟨by((first|refine dc0_none ?_|refine Qzb ?_|refine Qzc ?_);intro e he;simp at he),?_⟩)
 ((refine Goes.step rfl (fun _ h₁=>?_);replace hF:=(Go.ConcN.Gen.fl_rely QCL) hF h₁;clear h₁);rw[stepG_cond (t:=true) (by first|rfl|(simp[Act.eval];omega))];simp only[goes_go,if_true,if_false,Bool.false_eq_true, ↓reduceIte];refine⟨by((first|refine dc0_none ?_|refine Qzb ?_|refine Qzc ?_);intro e he;simp at he),?_⟩)
 ((refine Goes.step rfl (fun _ h₁=>?_);replace hF:=(Go.ConcN.Gen.fl_rely QCL) hF h₁;clear h₁);rw[stepG_skip];simp only[goes_go];refine⟨by((first|refine dc0_none ?_|refine Qzb ?_|refine Qzc ?_);intro e he;simp at he),?_⟩)
 ((refine Goes.step rfl (fun _ h₁=>?_);replace hF:=(Go.ConcN.Gen.fl_rely QCL) hF h₁;clear h₁);rw[stepG_seq];simp only[goes_go];refine⟨by((first|refine dc0_none ?_|refine Qzb ?_|refine Qzc ?_);intro e he;simp at he),?_⟩)
 ((refine Goes.step rfl (fun _ h₁=>?_);replace hF:=(Go.ConcN.Gen.fl_rely QCL) hF h₁;clear h₁);rw[stepG_block];simp only[goes_go];refine⟨by((first|refine dc0_none ?_|refine Qzb ?_|refine Qzc ?_);intro e he;simp at he),?_⟩)
 ((refine Goes.step rfl (fun _ h₁=>?_);replace hF:=(Go.ConcN.Gen.fl_rely QCL) hF h₁;clear h₁);rw[stepG_seq];simp only[goes_go];refine⟨by((first|refine dc0_none ?_|refine Qzb ?_|refine Qzc ?_);intro e he;simp at he),?_⟩)
 ((refine Goes.step rfl (fun _ h₁=>?_);replace hF:=(Go.ConcN.Gen.fl_rely QCL) hF h₁;clear h₁);rw[stepG_region];simp only[goes_go,List.size_toArray,List.length_cons,List.length_nil,Nat.reduceAdd,Nat.zero_add,List.range,List.range.loop];refine⟨by((first|refine dc0_none ?_|refine Qzb ?_|refine Qzc ?_);intro e he;simp at he),?_⟩)
 (refine Goes.step rfl (fun _ h₁=>?_);replace hF:=(Go.ConcN.Gen.fl_rely QCL) hF h₁;clear h₁)
 refine goes_call rfl rfl (by decide) rfl Tryz.func65 (nm_add Tryz.link) rfl ⟨by((first|refine dc0_none ?_|refine Qzb ?_|refine Qzc ?_);intro e he;simp at he),?_⟩
 walk_nrmf Tryz.f65
 refine Goes.mono (n:=12) (hA (mT:=6) Tryz.wgLib (show W.heap.size+4<W.heap.size+6+wk n by omega) QCL ?_ _ hF) (by omega)
 clear hA hF
 intro w hF1 hF2
 have hF:FC W A la ca B lb cb n j (fkw j) w∧LvD W w:=⟨hF1,hF2⟩
 clear hF1 hF2
 walk_nrm
 ((refine Goes.step rfl (fun _ h₁=>?_);replace hF:=(Go.ConcN.Gen.fl_rely QCL) hF h₁;clear h₁);rw[stepG_region_end];simp only[goes_go];refine⟨by((first|refine dc0_none ?_|refine Qzb ?_|refine Qzc ?_);intro e he;simp at he),?_⟩)
 ((refine Goes.step rfl (fun _ h₁=>?_);replace hF:=(Go.ConcN.Gen.fl_rely QCL) hF h₁;clear h₁);rw[stepG_region];simp only[goes_go,List.size_toArray,List.length_cons,List.length_nil,Nat.reduceAdd,Nat.zero_add,List.range,List.range.loop];refine⟨by((first|refine dc0_none ?_|refine Qzb ?_|refine Qzc ?_);intro e he;simp at he),?_⟩)
 ((refine Goes.step rfl (fun _ h₁=>?_);replace hF:=(Go.ConcN.Gen.fl_rely QCL) hF h₁;clear h₁);refine goes_oper_k rfl rfl (by k_ne) (fun Kx hKx=>?_);go_simp;refine hKx _ _ ⟨by((first|refine dc0_none ?_|refine Qzb ?_|refine Qzc ?_);intro e he;have hm:=mem_listed he;simp[go_sem, *] at hm),?_⟩;clear hKx Kx;try w_num)
 refine Goes.stop (fun w₁ h₁=>?_)
 replace hF:=Go.ConcN.Gen.fl_rely QCL hF h₁
 clear h₁
 refine⟨rfl,G ((Conc.base 45).at ⟨#[.slice A la ca,.slice B lb cb,.pointer (some ⟨W.heap.size,0,none⟩),.pointer (some ⟨W.heap.size+1,0,none⟩),.slice none 0 0,.pointer (some ⟨W.heap.size+3,0,none⟩),.pointer (some ⟨W.heap.size+4,0,none⟩),.pointer (some ⟨W.heap.size+5+j,0,none⟩),.slice A la ca,.int .i64 la,.slice B lb cb,.int .i64 lb,.int .i64 n,.slice (some ⟨W.heap.size+2,0,none⟩) n n,.int .i64 (fkw j),.slice (some ⟨W.heap.size+2,0,none⟩) n n,.int .i64 n,.bool true,v18,v19,.tuple #[],.func (.func 66) #[] #[.pointer (some ⟨W.heap.size+4,0,none⟩),.pointer (some ⟨W.heap.size+5+j,0,none⟩),.pointer (some ⟨W.heap.size+3,0,none⟩),.pointer (some ⟨W.heap.size,0,none⟩),.pointer (some ⟨W.heap.size+1,0,none⟩)],v22,v23,v24],[]⟩ [.inRegion ops7D [],.inBlock 1,.code stepD,.inLoop LD,.inBlock 0,.code tailD]) (c :: cs),born Tryz.prog (QcQ W.heap.size j),?_,rfl,fun hp=>Qxh hb hJ hjw _ (QCF hJ ha hbb hF hp),
  QCQ (j:=j+1) (show j+1+r=wk n by omega) (QCR hfresh hle hjw ih _ _ ⟨_,_,_,_,_,_,_,_,_,_,_,rfl⟩ hF)⟩
 simp only[ops7D,stepD,tailD,LD,bodyD, Tryz.f45,Option.getD_some]
 rw[stepG_spawn (d:=QcQ W.heap.size j) (w':=w₁) (f:= .func 66) (c:=#[.pointer (some ⟨W.heap.size+4,0,none⟩),.pointer (some ⟨W.heap.size+5+j,0,none⟩),.pointer (some ⟨W.heap.size+3,0,none⟩),.pointer (some ⟨W.heap.size,0,none⟩),.pointer (some ⟨W.heap.size+1,0,none⟩)]) rfl rfl (by decide) (by simp[go_sem,QcQ,Deferred.ofValue]) rfl]
 simp[listed,go_sem,seen,Deferred.ofValue]
 rfl
end
end Go.Proofs.YtgaimkihacljdaaGreat
