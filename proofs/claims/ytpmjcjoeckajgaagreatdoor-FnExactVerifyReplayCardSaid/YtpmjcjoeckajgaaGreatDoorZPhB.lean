/- Lemmas: PhK PhM. -/
import Derived.Test.YtpmjcjoeckajgaaGreatDoorZSimC
import Derived.Test.YtpmjcjoeckajgaaGreatDoorZPhA
/- The one function that differs: the stand-in's way and the given program's. (Round C) -/
namespace Go.Proofs.YtpmjcjoeckajgaaGreatDoor
set_option linter.unusedSectionVars false
open Go.Conc Go.ConcX Go.RowKit Go.Conc.Lib Go.ConcX.Gen
theorem QmK(T:Array Value)(h:T.size=25): ∃v0 v1 v2 v3 v4 v5 v6 v7 v8 v9 v10 v11 v12 v13 v14 v15 v16 v17 v18 v19 v20 v21 v22 v23 v24:Value,T= #[v0,v1,v2,v3,v4,v5,v6,v7,v8,v9,v10,v11,v12,v13,v14,v15,v16,v17,v18,v19,v20,v21,v22,v23,v24]:=by
 obtain⟨l⟩:=T
 simp only[List.size_toArray] at h
 rcases l with _|⟨v0,l⟩
 ·simp at h
 rcases l with _|⟨v1,l⟩
 ·simp at h
 rcases l with _|⟨v2,l⟩
 ·simp at h
 rcases l with _|⟨v3,l⟩
 ·simp at h
 rcases l with _|⟨v4,l⟩
 ·simp at h
 rcases l with _|⟨v5,l⟩
 ·simp at h
 rcases l with _|⟨v6,l⟩
 ·simp at h
 rcases l with _|⟨v7,l⟩
 ·simp at h
 rcases l with _|⟨v8,l⟩
 ·simp at h
 rcases l with _|⟨v9,l⟩
 ·simp at h
 rcases l with _|⟨v10,l⟩
 ·simp at h
 rcases l with _|⟨v11,l⟩
 ·simp at h
 rcases l with _|⟨v12,l⟩
 ·simp at h
 rcases l with _|⟨v13,l⟩
 ·simp at h
 rcases l with _|⟨v14,l⟩
 ·simp at h
 rcases l with _|⟨v15,l⟩
 ·simp at h
 rcases l with _|⟨v16,l⟩
 ·simp at h
 rcases l with _|⟨v17,l⟩
 ·simp at h
 rcases l with _|⟨v18,l⟩
 ·simp at h
 rcases l with _|⟨v19,l⟩
 ·simp at h
 rcases l with _|⟨v20,l⟩
 ·simp at h
 rcases l with _|⟨v21,l⟩
 ·simp at h
 rcases l with _|⟨v22,l⟩
 ·simp at h
 rcases l with _|⟨v23,l⟩
 ·simp at h
 rcases l with _|⟨v24,l⟩
 ·simp at h
 rcases l with _|⟨x,l⟩
 ·exact⟨v0,v1,v2,v3,v4,v5,v6,v7,v8,v9,v10,v11,v12,v13,v14,v15,v16,v17,v18,v19,v20,v21,v22,v23,v24,rfl⟩
 ·simp at h
theorem QoQ{args:Array Value}{A B:Option Addr}{la ca lb cb:Nat}{cs:List Frame}(hV:(args++Array.replicate (25 - args.size) undef).size=25)(ha:(args++Array.replicate (25 - args.size) undef).getD 0 undef= .slice A la ca)(hb:(args++Array.replicate (25 - args.size) undef).getD 1 undef= .slice B lb cb):
 ∃v2 v3 v4 v5 v6 v7 v8 v9 v10 v11 v12 v13 v14 v15 v16 v17 v18 v19 v20 v21 v22 v23 v24:Value,Conc.G (Frame.enter Tryz.prog 118 args .normal) cs=gD A la ca B lb cb v2 v3 v4 v5 v6 v7 v8 v9 v10 v11 v12 v13 v14 v15 v16 v17 v18 v19 v20 v21 v22 v23 v24 cs:=by
 have e:Frame.enter Tryz.prog 118 args .normal=(base 118).at ⟨args++Array.replicate (25 - args.size) undef,[]⟩ [.code bodyD]:=by
  simp[Frame.enter,Frame.at, Tryz.func118,base,bodyD, Tryz.f118]
 rw[e]
 obtain⟨v0,v1,v2,v3,v4,v5,v6,v7,v8,v9,v10,v11,v12,v13,v14,v15,v16,v17,v18,v19,v20,v21,v22,v23,v24,hv⟩:=QmK _ hV
 rw[hv] at ha hb⊢
 have ha':v0= .slice A la ca:=ha
 have hb':v1= .slice B lb cb:=hb
 subst ha' hb'
 exact⟨v2,v3,v4,v5,v6,v7,v8,v9,v10,v11,v12,v13,v14,v15,v16,v17,v18,v19,v20,v21,v22,v23,v24,rfl⟩
theorem Qqu{w:World}{N:Nat} [Shy (N+4) (N+2)]{A B:Option Addr}{la lb:Nat}{arr:Array Value}(hN:w.heap.size=N)(hok: ∀(a:Addr) v,a.block<N→w.cell? a=some v→Shy.ok (N+4) (N+2) (.access ⟨.cell a,false,false⟩))(hD:Done w A la B lb arr (max la lb))(hle:max la lb≤64):
 ∃xs ys:Nat→Int,Job N A la B lb (max la lb) arr xs ys∧(∀i ad,i<la→i<lb→A=some ad→w.cell? (ad.add i)=some (.int .i64 (xs i)))∧∀i ad,i<la→i<lb→B=some ad→w.cell? (ad.add i)=some (.int .i64 (ys i)):=by
 subst hN
 have key: ∀i,∃p:Int×Int,i<la→i<lb→RdS w A i p.1∧RdS w B i p.2∧arr[i]? =some (.bool (p.1 != p.2)):=by
  intro i
  by_cases h:i<la∧i<lb
  ·obtain⟨q,h1,h2⟩:=hD.done i (by omega)
   rcases h2 with⟨_,_,x,y,hx,hy,rfl⟩|⟨hn,_⟩
   ·exact⟨(x,y),fun _ _=>⟨hx,hy,h1⟩⟩
   ·exact absurd h hn
  ·exact⟨(0,0),fun a b=>absurd ⟨a,b⟩ h⟩
 have ra: ∀i ad,i<la→i<lb→A=some ad→ad.block<w.heap.size∧w.cell? (ad.add i)=some (.int .i64 (key i).choose.1):=fun i ad h1 h2 e=>by
  obtain⟨ad',e',hb,h⟩:=((key i).choose_spec h1 h2).1
  obtain rfl:=Option.some.inj (e.symm.trans e')
  exact⟨hb,h⟩
 have rb: ∀i ad,i<la→i<lb→B=some ad→ad.block<w.heap.size∧w.cell? (ad.add i)=some (.int .i64 (key i).choose.2):=fun i ad h1 h2 e=>by
  obtain⟨ad',e',hb,h⟩:=((key i).choose_spec h1 h2).2.1
  obtain rfl:=Option.some.inj (e.symm.trans e')
  exact⟨hb,h⟩
 refine⟨fun i=>(key i).choose.1,fun i=>(key i).choose.2,⟨hD.size,rfl,hle,fun i h1 h2=>?_,fun i h1 h2=>?_,fun i ad h1 h2 e=>hok _ _ (by rw[add_block];exact(ra i ad h1 h2 e).1) (ra i ad h1 h2 e).2,fun i ad h1 h2 e=>hok _ _ (by rw[add_block];exact(rb i ad h1 h2 e).1) (rb i ad h1 h2 e).2,fun i hi=>?_⟩,fun i ad h1 h2 e=>(ra i ad h1 h2 e).2,fun i ad h1 h2 e=>(rb i ad h1 h2 e).2⟩
 ·obtain⟨ad,e,h,_⟩:=((key i).choose_spec h1 h2).1
  exact⟨ad,e,h⟩
 ·obtain⟨ad,e,h,_⟩:=((key i).choose_spec h1 h2).2.1
  exact⟨ad,e,h⟩
 ·by_cases h:i<la∧i<lb
  ·refine((key i).choose_spec h.1 h.2).2.2.trans ?_
   have e1:decide (la≤i)=false:=by simpa using h.1
   have e2:decide (lb≤i)=false:=by simpa using h.2
   rw[e1,e2]
   rfl
  ·obtain⟨q,h1,h2⟩:=hD.done i hi
   rcases h2 with⟨a,b,_⟩|⟨_,rfl⟩
   ·exact absurd ⟨a,b⟩ h
   ·refine h1.trans ?_
    by_cases h3:la≤i
    ·simp[h3]
    ·have:lb≤i:=by omega
     simp[this]
end Go.Proofs.YtpmjcjoeckajgaaGreatDoor
/- What is to be shown of the one function that differs: lists of at most 64 elements. (Round C) -/
namespace Go.Proofs.YtpmjcjoeckajgaaGreatDoor
set_option linter.unusedSectionVars false
set_option linter.unusedSimpArgs false
open Go.Conc Go.ConcX Go.RowKit Go.Conc.Lib Go.ConcX.Gen
def W2(W:Nat→Prop)(N n:Nat)(r:Nat):Prop:=W r∨∃x,r=N+x∧x≠2∧x<6+(if n=0 then 0 else 1)
section
variable {tI tB tW ti tb : TypeId} {N0 : Ctx} {H : Nat → Option Obj} {K : Code → Prop} {V : FuncId → Prop} {W : Nat → Prop} {w w' w2 : World} {n : Nat} {arr : Array Value}
theorem Qcm:(made tI tB tW ti tb n arr).size=6+(if n=0 then 0 else 1):=by
 unfold made
 split<;>simp
theorem Qkf(h:Rel N0 H K V W w w')(ho:w2.os=w.os)(hu:w2.output=w.output)(hs:w2.heap.size=w.heap.size+(made tI tB tW ti tb n arr).size)(hlo: ∀r,r<w.heap.size→w2.heap[r]? =w.heap[r]?)
 (hnew: ∀x o,x≠2→(made tI tB tW ti tb n arr)[x]? =some o→∃c e,o= .cells #[] e∧w2.heap[w.heap.size+x]? =some (.cells c e))(hdat:w2.heap[w.heap.size+2]? =some (.cells arr tb))(tp:Nat→Question→Nat)(k:Nat):
 ∃N1,Rel N1 H K V (W2 W w.heap.size n) w2 (on (fw tI tB tW ti tb w' n arr) tp k):=by
 have hsz:=h.size
 have lo: ∀r,r<w.heap.size→(on (fw tI tB tW ti tb w' n arr) tp k).heap[r]? =w'.heap[r]? :=fun r hr=>Qiq (by omega)
 have hi: ∀x,(on (fw tI tB tW ti tb w' n arr) tp k).heap[w.heap.size+x]? =(made tI tB tW ti tb n arr)[x]? :=fun x=>by
  rw[←hsz]
  exact Qep x
 have at_x: ∀r,w.heap.size≤r→∃x,r=w.heap.size+x:=fun r hr=>⟨r - w.heap.size,by omega⟩
 have cel: ∀r,w.heap.size≤r→∀o,(on (fw tI tB tW ti tb w' n arr) tp k).heap[r]? =some o→∃c e,o= .cells c e:=fun r hr o ho=>by
  obtain⟨x,rfl⟩:=at_x r hr
  rw[hi] at ho
  by_cases e:x=2
  ·subst e
   rw[QdO] at ho
   exact⟨_,_,(Option.some.inj ho).symm⟩
  ·obtain⟨c,e1,h1,_⟩:=hnew x o e ho
   exact⟨_,_,h1⟩
 refine⟨⟨0,w2.tape,k,w2.drawn⟩,?_,?_,fun i h=>absurd h (by show¬_<0;omega),⟨rfl,Nat.add_comm _ _⟩,?_,?_,?_,?_,?_,?_,?_,?_⟩
 ·show w'.os=w2.os
  rw[h.os,ho]
 ·show w'.output=w2.output
  rw[h.output,hu]
 ·show(w'.heap++_).size=_
  rw[Array.size_append,hs,hsz]
 ·rintro r (hW|⟨x,rfl,hx,hlt⟩)
  ·have hl:=h.lt hW
   rw[hlo r hl,lo r hl]
   exact h.dead r hW
  ·have hx':x<(made tI tB tW ti tb n arr).size:=by rw[Qcm];exact hlt
   obtain⟨c,e,h1,h2⟩:=hnew x _ hx (Array.getElem?_eq_getElem hx')
   exact⟨c,e,h2,by rw[hi,Array.getElem?_eq_getElem hx',h1]⟩
 ·intro r hr
  by_cases hl:r<w.heap.size
  ·rw[hlo r hl,lo r hl]
   exact h.live r fun hW=>hr (.inl hW)
  ·obtain⟨x,rfl⟩:=at_x r (by omega)
   refine .inl ?_
   rw[hi]
   by_cases e:x=2
   ·subst e
    rw[QdO,hdat]
   ·have hx: ¬x<6+(if n=0 then 0 else 1):=fun hlt=>hr (.inr ⟨x,rfl,e,hlt⟩)
    rw[Array.getElem?_eq_none (by rw[Qcm];omega),Array.getElem?_eq_none (by rw[hs,Qcm];omega)]
 ·intro r a u hv
  by_cases hl:r<w.heap.size
  ·rw[lo r hl] at hv
   exact h.view r a u hv
  ·obtain⟨c,e,h1⟩:=cel r (by omega) _ hv
   cases h1
 ·intro r l hv
  by_cases hl:r<w.heap.size
  ·rw[lo r hl] at hv
   exact h.loop r l hv
  ·obtain⟨c,e,h1⟩:=cel r (by omega) _ hv
   cases h1
 ·intro r l hv
  by_cases hl:r<w.heap.size
  ·rw[lo r hl] at hv
   exact h.defer r l hv
  ·obtain⟨c,e,h1⟩:=cel r (by omega) _ hv
   cases h1
 ·intro r c e hv
  by_cases hl:r<w.heap.size
  ·rw[lo r hl] at hv
   exact h.pend r c e hv
  ·obtain⟨c,e,h1⟩:=cel r (by omega) _ hv
   cases h1
 ·intro r a u hv
  by_cases hl:r<w.heap.size
  ·rw[hlo r hl] at hv
   exact h.rview r a u hv
  ·obtain⟨x,rfl⟩:=at_x r (by omega)
   by_cases e:x=2
   ·subst e
    rw[hdat] at hv
    cases hv
   ·by_cases hx:x<(made tI tB tW ti tb n arr).size
    ·obtain⟨c,e,_,h2⟩:=hnew x _ e (Array.getElem?_eq_getElem hx)
     rw[h2] at hv
     cases hv
    ·rw[Array.getElem?_eq_none (by rw[hs];omega)] at hv
     cases hv
end
theorem Qo9{W:World}{A B:Option Addr}{la ca lb cb n:Nat}{arr:Array Value}{z st sm:Int}{w:World}(hn:0<n)(h:F1 W A la ca B lb cb n z w)(hg:WgAt 194 (W.heap.size+4) w st sm):
 ∀x o,x≠2→(made 31 150 194 3 4 n arr)[x]? =some o→∃c e,o= .cells #[] e∧w.heap[W.heap.size+x]? =some (.cells c e):=by
 intro x o hx ho
 have hlt:x<7:=by
  have:=(Array.getElem?_eq_some_iff.1 ho).1
  rw[Qcm,if_neg (by omega)] at this
  exact this
 unfold made at ho
 rw[if_neg (by omega)] at ho
 have key: ∀y,y<6→y≠2→y≠4→w.heap[W.heap.size+y]? =(#[.cells #[.slice A la ca] 31,.cells #[.slice B lb cb] 31,.cells (madeCells #[.bool false] n) 4,.cells #[.slice (some ⟨W.heap.size+2,0,none⟩) n n] 150,.cells #[.int .u64 0,.int .u32 0] 194,.cells #[.int .i64 0] 3]:Array Obj)[y]? :=fun y h1 h2 h3=>
  ((h.low (W.heap.size+y) (by omega) (by omega) (by omega)).trans (Qex W A la ca B lb cb n y h3)).trans (Qbw W A la ca B lb cb n y)
 match x,hx,hlt,ho with
 |0,_,_,ho=>exact⟨_,_,(Option.some.inj ho).symm,key 0 (by omega) (by omega) (by omega)⟩
 |1,_,_,ho=>exact⟨_,_,(Option.some.inj ho).symm,key 1 (by omega) (by omega) (by omega)⟩
 |3,_,_,ho=>exact⟨_,_,(Option.some.inj ho).symm,key 3 (by omega) (by omega) (by omega)⟩
 |4,_,_,ho=>exact⟨_,_,(Option.some.inj ho).symm,hg⟩
 |5,_,_,ho=>exact⟨_,_,(Option.some.inj ho).symm,key 5 (by omega) (by omega) (by omega)⟩
 |6,_,_,ho=>exact⟨_,_,(Option.some.inj ho).symm,h.cnt⟩
theorem Qpa{W:World}{A B:Option Addr}{la ca lb cb n:Nat}{arr:Array Value}{st sm:Int}{w:World}(hn:n=0)(h:F6 W A la ca B lb cb n w)(hg:WgAt 194 (W.heap.size+4) w st sm):
 ∀x o,x≠2→(made 31 150 194 3 4 n arr)[x]? =some o→∃c e,o= .cells #[] e∧w.heap[W.heap.size+x]? =some (.cells c e):=by
 intro x o hx ho
 have hlt:x<6:=by
  have:=(Array.getElem?_eq_some_iff.1 ho).1
  rw[Qcm,if_pos hn] at this
  exact this
 unfold made at ho
 rw[if_pos hn] at ho
 have key: ∀y,y<6→y≠2→y≠4→w.heap[W.heap.size+y]? =(#[.cells #[.slice A la ca] 31,.cells #[.slice B lb cb] 31,.cells (madeCells #[.bool false] n) 4,.cells #[.slice (some ⟨W.heap.size+2,0,none⟩) n n] 150,.cells #[.int .u64 0,.int .u32 0] 194,.cells #[.int .i64 0] 3]:Array Obj)[y]? :=fun y h1 h2 h3=>
  ((show Aside2 _ _ _ _ from h).block (W.heap.size+y) (by omega) (by omega)).trans (Qbw W A la ca B lb cb n y)
 match x,hx,hlt,ho with
 |0,_,_,ho=>exact⟨_,_,(Option.some.inj ho).symm,key 0 (by omega) (by omega) (by omega)⟩
 |1,_,_,ho=>exact⟨_,_,(Option.some.inj ho).symm,key 1 (by omega) (by omega) (by omega)⟩
 |3,_,_,ho=>exact⟨_,_,(Option.some.inj ho).symm,key 3 (by omega) (by omega) (by omega)⟩
 |4,_,_,ho=>exact⟨_,_,(Option.some.inj ho).symm,hg⟩
 |5,_,_,ho=>exact⟨_,_,(Option.some.inj ho).symm,key 5 (by omega) (by omega) (by omega)⟩
theorem QtO{N:Nat}{A B:Option Addr}{la ca lb cb n:Nat}{c:Frame}{cs:List Frame}(w:World):
 Goes Tryz.prog true AtRel DC0 (fun g w'=>g=G (c.finish (.slice (some ⟨N+2,0,none⟩) n n)) cs∧AtRel w w') 1 (gRet N A la ca B lb cb n (c :: cs)) w:=by
 refine Goes.step rfl (fun w₁ r=>?_)
 have e:stepG Tryz.prog true (gRet N A la ca B lb cb n (c :: cs)) w₁= .go (G (c.finish (.slice (some ⟨N+2,0,none⟩) n n)) cs) w₁ #[]:=by
  simp[gRet,G,stepG,unwind,doReturn,results,Frame.at,base, Tryz.func118, Tryz.f118,seen,GStep.after]
 rw[e]
 exact⟨⟨rfl,rfl⟩,fun w₂ r₂=>⟨rfl,atRel_trans _ _ _ r r₂⟩⟩
theorem QtP{N:Nat}{A B:Option Addr}{la ca lb cb n:Nat}{v18 v19 v20 v21 v22:Value}{c:Frame}{cs:List Frame}(w:World):
 Goes Tryz.prog true AtRel DC0 (fun g w'=>g=G (c.finish (.slice (some ⟨N+2,0,none⟩) n n)) cs∧AtRel w w') 1 (QcY N A la ca B lb cb n v18 v19 v20 v21 v22 (c :: cs)) w:=by
 refine Goes.step rfl (fun w₁ r=>?_)
 have e:stepG Tryz.prog true (QcY N A la ca B lb cb n v18 v19 v20 v21 v22 (c :: cs)) w₁= .go (G (c.finish (.slice (some ⟨N+2,0,none⟩) n n)) cs) w₁ #[]:=by
  simp[QcY,G,stepG,unwind,doReturn,results,Frame.at,base, Tryz.func118, Tryz.f118,seen,GStep.after]
 rw[e]
 exact⟨⟨rfl,rfl⟩,fun w₂ r₂=>⟨rfl,atRel_trans _ _ _ r r₂⟩⟩
theorem Qj9{G:Array Func}{d0 f:FuncId}{R:Value→World→Prop}{s0:Cf}{W0:World}{fn:Func}{ii ib:TypeInfo}(E:Env Tryz.prog.toTables G d0 f R s0)(hT:Ty 31 150 3 4 ⟨Tryz.prog.toTables,G⟩ ii ib)(hg:G[(118:FuncId)]? =some fn)(hr:fn.results= #[.tmp 4])(hn:fn.ntmps=25)
 (hb:fn.body=some (QcE 31 150 194 3 4)):Qfj Tryz.prog.toTables Tryz.prog.funcs G 118 W0 s0:=by
 intro s args c cs hfr hcs hS hre gs w sl q Shun t W hC
 obtain⟨N0,hrel⟩:=hC.rel
 have hsz:=hrel.size
 have henter:Frame.enter ⟨Tryz.prog.toTables,G⟩ 118 args .normal=(bF 118).at ⟨args++Array.replicate (25 - args.size) undef,[]⟩ [.code (QcE 31 150 194 3 4)]:=by
  simp[Frame.enter,Frame.at,hg,hb,hn,bF]
 have hnice:Nice Tryz.prog.toTables G d0 s:=by
  have h1:=QjO (d:=118) (F:= Tryz.prog.funcs) (s:=⟨c,cs,s.w⟩) E.none hS hrel
  have hv:VV G G d0 118:=⟨(fun e=>by rw[e,E.none] at hg;cases hg),rfl,_,hg⟩
  refine⟨⟨?_,?_,?_⟩,h1.clean⟩
  ·rw[hfr]
   exact QfQ E.bodies hg hv (by rw[hb];rfl) args
  ·rw[hcs]
   intro x hx
   rcases List.mem_cons.1 hx with rfl|hx
   ·exact h1.stack.top
   ·exact h1.stack.rest x hx
  ·have h2:=Qfw (fr':=s.fr) h1.stack.bottom
   simp only[hcs]
   exact h2
 have hon:On Tryz.prog.toTables G d0 s0 s ((bF 118).at ⟨args++Array.replicate (25 - args.size) undef,[]⟩ [.code (QcE 31 150 194 3 4)]) (c :: cs) s.w:=by
  have e:(⟨(bF 118).at ⟨args++Array.replicate (25 - args.size) undef,[]⟩ [.code (QcE 31 150 194 3 4)],c :: cs,on s.w s.w.tape s.w.drawn⟩:Cf)=s:=by
   rw[←henter,←hfr,←hcs]
   rfl
  exact⟨s.w.tape,s.w.drawn,by rw[e];exact⟨hre,hnice⟩,.inl e⟩
 obtain⟨hV,A,la,ca,B,lb,cb,arr,ha,hbb,hle,hD,tp,k,hpl,hch⟩:=QvR E hT hg hr (by simp;omega) hon
 have hbk:Relation.TransGen (BkS ⟨Tryz.prog.toTables,G⟩) ⟨c.finish (.slice (some ⟨s.w.heap.size+2,0,none⟩) (max la lb) (max la lb)),cs,on (fw 31 150 194 3 4 s.w (max la lb) arr) tp k⟩ s:=by
  rcases hch with e|h
  ·have e2:cs=c :: cs:=(congrArg Cf.cs e).trans hcs
   have:=congrArg List.length e2
   simp at this
  ·exact h
 refine⟨_,hbk,⟨hS.top.finish _,hS.rest,JM hS.bottom (Qb3 _ _)⟩,?_⟩
 have hSh: ∀a:Addr,¬W a.block→¬Shun (.cell a):=fun a hW hs=>by
  obtain⟨a',e,h⟩:=hC.shun _ hs
  cases e
  exact hW h
 have hfresh: ∀a:Addr,w.heap.size≤a.block→¬W a.block:=fun a h hW=>absurd (hrel.lt hW) (by omega)
 have hlow:=hC.low
 have hzero:=hC.zero
 rw[hcs] at hzero
 obtain⟨v2,v3,v4,v5,v6,v7,v8,v9,v10,v11,v12,v13,v14,v15,v16,v17,v18,v19,v20,v21,v22,v23,v24,hgd⟩:=QoQ (cs:=c :: cs) hV ha hbb
 rw[show Frame.enter ⟨Tryz.prog.toTables, Tryz.prog.funcs⟩ 118 args .normal=Frame.enter Tryz.prog 118 args .normal from rfl,hgd] at hzero
 by_cases hpos:0<max la lb
 ·letI I:Shy (w.heap.size+4) (w.heap.size+2):=shyOf Shun (w.heap.size+7) _ _ (fun g w2=>g=gRet w.heap.size A la ca B lb cb (max la lb) (c :: cs)∧F1 w A la ca B lb cb (max la lb) 64 w2∧WgAt 194 (w.heap.size+4) w2 0 0∧Full (w.heap.size+2) arr.toList w2) (by omega) (by omega) (fun a h=>hSh a (hfresh a (by omega)))
  haveI J:ShyD w.heap.size A B:=⟨fun a wr h1 h2 _=>okF_plain a wr (hSh a (hfresh a h1)) h2⟩
  obtain⟨xs,ys,hJ,hxa,hxb⟩:=Qqu (N:=w.heap.size) hsz (fun a v h1 h2=>okF_plain a false (hSh a (hrel.not_dead h2)) (by omega)) hD hle
  obtain⟨n1,gs1,a1,w1,sl1,t1,q1,r1,z1,h1,_,⟨rfl,hF,hWg,hFu⟩,L1,P1⟩:=Qor (W:=w) (cs:=c :: cs) (sl:=sl) (B₀:=s.w.heap.size+1) (B':=w.heap.size+7) (fun _ h=>h) (by omega) (fun w h1 h2 h3=>⟨rfl,h1,h2,h3⟩) hJ hpos (fun i ad h1 h2 h3=>hrel.cell (hxa i ad h1 h2 h3)) (fun i ad h1 h2 h3=>hrel.cell (hxb i ad h1 h2 h3)) v2 v3 v4 v5 v6 v7 v8 v9 v10 v11 v12 v13 v14 v15 v16 v17 v18 v19 v20 v21 v22 v23 v24 hzero hC.leavers hC.past
  obtain⟨n2,gs2,a2,w2,sl2,t2,q2,r2,z2,h2,⟨rfl,dd,rfl⟩,L2,P2⟩:=walk_beside (P:= Tryz.prog) dc0_evL _ 1 gs1 _ w1 sl1 t1 q1 (Nat.le_refl _) h1 L1 P1 (QtO w1)
  have hms:(made 31 150 194 3 4 (max la lb) arr).size=7:=by rw[Qcm,if_neg (by omega)]
  have hs2:(on (fw 31 150 194 3 4 s.w (max la lb) arr) tp k).heap.size=w.heap.size+7:=by
   show(s.w.heap++_).size=_
   rw[Array.size_append,hms,hsz]
  refine⟨n1+n2,gs2,w1.at dd,sl2,q2,_,t2,W2 W w.heap.size (max la lb),runNT_trans r1 r2,⟨by rw[hsz];exact h2,L2,P2.mono (by rw[hs2];omega),?_,?_,by rw[hs2];omega,?_,hF.tape.trans hC.tape⟩⟩
  ·rintro l (hl|⟨a,rfl,e⟩)
   ·obtain⟨a,e,h⟩:=hC.shun l hl
    exact⟨a,e,.inl h⟩
   ·exact⟨a,rfl,.inr ⟨4,e,by omega,by omega⟩⟩
  ·have hfull:=hFu rfl
   rw[Array.toArray_toList] at hfull
   exact Qkf (w2:=w1.at dd) hrel hF.os hF.output (by rw[hms];exact hF.size) (fun r hr=>(hF.low r (by omega) (by omega) (by omega)).trans (((as67 w A la ca B lb cb (max la lb)).block r (by omega)).trans (Qf6 w A la ca B lb cb (max la lb) hr))) (fun x o e1 e2=>Qo9 hpos hF hWg x o e1 e2) hfull tp k
  ·rintro r (hW|⟨x,rfl,_⟩)
   ·exact hC.far r hW
   ·omega
 ·have hz:max la lb=0:=by omega
  letI I:Shy (w.heap.size+4) (w.heap.size+2):=shyOf Shun (w.heap.size+7) _ _ (fun g w2=>g=QcY w.heap.size A la ca B lb cb (max la lb) v18 v19 v20 v21 v22 (c :: cs)∧F6 w A la ca B lb cb (max la lb) w2∧WgAt 194 (w.heap.size+4) w2 0 0∧Full (w.heap.size+2) [] w2) (by omega) (by omega) (fun a h=>hSh a (hfresh a (by omega)))
  haveI J:ShyD w.heap.size A B:=⟨fun a wr h1 h2 _=>okF_plain a wr (hSh a (hfresh a h1)) h2⟩
  obtain⟨n1,gs1,a1,w1,sl1,t1,q1,r1,z1,h1,⟨_,rfl,hF,hWg,hFu⟩,L1,P1⟩:=Qxp (W:=w) (A:=A) (B:=B) (la:=la) (lb:=lb) (ca:=ca) (cb:=cb) (n:=max la lb) (cs:=c :: cs) (sl:=sl) (B₀:=s.w.heap.size+1) (B':=w.heap.size+7) (fun _ h=>h) (by omega) rfl hz v2 v3 v4 v5 v6 v7 v8 v9 v10 v11 v12 v13 v14 v15 v16 v17 v18 v19 v20 v21 v22 v23 v24 (fun w h1 h2 h3=>⟨rfl,h1,h2,h3⟩) hzero hC.leavers hC.past
  obtain⟨n2,gs2,a2,w2,sl2,t2,q2,r2,z2,h2,⟨rfl,dd,rfl⟩,L2,P2⟩:=walk_beside (P:= Tryz.prog) dc0_evL _ 1 gs1 _ w1 sl1 t1 q1 (Nat.le_refl _) h1 L1 P1 (QtP w1)
  have hms:(made 31 150 194 3 4 (max la lb) arr).size=6:=by rw[Qcm,if_pos hz]
  have hs2:(on (fw 31 150 194 3 4 s.w (max la lb) arr) tp k).heap.size=w.heap.size+6:=by
   show(s.w.heap++_).size=_
   rw[Array.size_append,hms,hsz]
  have harr:arr= #[]:=Array.eq_empty_of_size_eq_zero (by rw[hD.size];exact hz)
  refine⟨n1+n2,gs2,w1.at dd,sl2,q2,Shun,t2,W2 W w.heap.size (max la lb),runNT_trans r1 r2,⟨by rw[hsz];exact h2,L2,P2.mono (by rw[hs2];omega),?_,?_,by rw[hs2];omega,?_,(show w1.tape=w.tape from(show Aside2 _ _ _ _ from hF).tape).trans hC.tape⟩⟩
  ·intro l hl
   obtain⟨a,e,h⟩:=hC.shun l hl
   exact⟨a,e,.inl h⟩
  ·have hfull:=hFu rfl
   have h6:Aside2 _ _ _ _:=hF
   exact Qkf (w2:=w1.at dd) hrel h6.os h6.output (by rw[hms];exact h6.size.trans (Qlh w A la ca B lb cb (max la lb))) (fun r hr=>(h6.block r (by omega) (by omega)).trans (Qf6 w A la ca B lb cb (max la lb) hr)) (fun x o e1 e2=>Qpa hz hF hWg x o e1 e2) (by rw[harr];exact hfull) tp k
  ·rintro r (hW|⟨x,rfl,_⟩)
   ·exact hC.far r hW
   ·omega
end Go.Proofs.YtpmjcjoeckajgaaGreatDoor
