/- Lemmas: PhT PhU PhV. -/
import Derived.Test.YtgaimkihacljdaaGreatZPhB
import Derived.Test.YtgaimkihacljdaaGreatZCrC
import Derived.Test.YtgaimkihacljdaaGreatZSimC
/- The caller of n workers of one call of impl.differences: the join, the return. (Round C) -/
namespace Go.Proofs.YtgaimkihacljdaaGreat
set_option linter.unusedSectionVars false
set_option linter.unusedSimpArgs false
open Go.Conc Go.RowKit Go.Conc.Lib
open Go.ConcN (ShN RelBy RW RC WgLive PayAt Has)
open Go.ConcR (KK wgBlock WgAt stA smA rd wr mk Payload Aside2 DC0)
open Go.ConcX.Gen (add_block alloc_at)
open Go.ConcR.Gen (nm_add nm_wait body_add body_wait)
section
variable {W : World} {A B : Option Addr} {la ca lb cb n base : Nat} {Shun : Loc → Prop} {arr : Array Value} {xs ys : Nat → Int} {c : Frame} {cs : List Frame} {S : Goroutine → World → Prop} {j r m : Nat} {w : World}
set_option maxRecDepth 100000 in
theorem QCX(t0 t1 t2 t3 t4 t5 t6 t7 t8 t9 t10 t11 t12 t13 t14 t15 t16 t17 t18 t19 t20 t21 t22 t23 t24:Value)(w:World):stepG Tryz.prog true (G { (Conc.base 45).at ⟨#[t0,t1,t2,t3,t4,t5,t6,t7,t8,t9,t10,t11,t12,t13,t14,t15,t16,t17,t18,t19,t20,t21,t22,t23,t24],[]⟩ [.code .ret] with mode:= .returning} (c :: cs)) w= .go (G (c.finish t4) cs) w #[]:=by
 simp[G,stepG,unwind,doReturn,results,Frame.at,Conc.base, Tryz.func45, Tryz.f45,seen,GStep.after]
set_option maxRecDepth 100000 in
set_option maxHeartbeats 4000000 in
theorem QCU(hfresh: ∀a:Addr,W.heap.size≤a.block→¬Shun (.cell a))(v14 v15 v16 v17 v18 v19 v20 v21 v22 v23 v24:Value)(w:World)(h1:FC W A la ca B lb cb n (wk n) (fkw (wk n)) w)(h2:LvD W w):
 GM W A la ca B lb cb n base Shun arr c cs (wk n) (ED W A la ca B lb cb n c cs) 9 (G ((Conc.base 45).at ((⟨TR W.heap.size A la ca B lb cb n (wk n) v14 v15 v16 v17 v18 v19 v20 v21 v22 v23 v24,[]⟩:Act).put ((ops10D[0]?).bind (·.dst)) (.tuple #[])) (.inRegion ops10D [] :: [.code tail11D])) (c :: cs)) w:=by
 have hF:FC W A la ca B lb cb n (wk n) (fkw (wk n)) w∧LvD W w:=⟨h1,h2⟩
 clear h1 h2
 simp only[TR,ops10D,tail11D,tailD,bodyD, Tryz.f45,Option.getD_some]
 walk_nrm
 ((refine Goes.step rfl (fun _ h₁=>?_);replace hF:=(Go.ConcN.Gen.fl_rely QCL) hF h₁;clear h₁);rw[stepG_region_end];simp only[goes_go];refine⟨by((first|refine dc0_none ?_|refine Qzb ?_|refine Qzc ?_);intro e he;simp at he),?_⟩)
 ((refine Goes.step rfl (fun _ h₁=>?_);replace hF:=(Go.ConcN.Gen.fl_rely QCL) hF h₁;clear h₁);rw[stepG_seq];simp only[goes_go];refine⟨by((first|refine dc0_none ?_|refine Qzb ?_|refine Qzc ?_);intro e he;simp at he),?_⟩)
 ((refine Goes.step rfl (fun _ h₁=>?_);replace hF:=(Go.ConcN.Gen.fl_rely QCL) hF h₁;clear h₁);rw[stepG_region];simp only[goes_go,List.size_toArray,List.length_cons,List.length_nil,Nat.reduceAdd,Nat.zero_add,List.range,List.range.loop];refine⟨by((first|refine dc0_none ?_|refine Qzb ?_|refine Qzc ?_);intro e he;simp at he),?_⟩)
 u_opw (Go.ConcN.Gen.fl_rely QCL) hF [FC.out (And.left hF)] (fun _ _=>rfl) (QCp _ _ (by simp<;>omega) (by simp<;>omega) (hfresh _ (by simp<;>omega)) (.inl rfl) (by simp<;>omega))
 ((refine Goes.step rfl (fun _ h₁=>?_);replace hF:=(Go.ConcN.Gen.fl_rely QCL) hF h₁;clear h₁);refine goes_oper_k rfl rfl (by k_ne) (fun Kx hKx=>?_);go_simp;refine hKx _ _ ⟨by((first|refine dc0_none ?_|refine Qzb ?_|refine Qzc ?_);intro e he;have hm:=mem_listed he;simp[go_sem, *] at hm),?_⟩;clear hKx Kx;try w_num)
 ((refine Goes.step rfl (fun _ h₁=>?_);replace hF:=(Go.ConcN.Gen.fl_rely QCL) hF h₁;clear h₁);rw[stepG_region_end];simp only[goes_go];refine⟨by((first|refine dc0_none ?_|refine Qzb ?_|refine Qzc ?_);intro e he;simp at he),?_⟩)
 ((refine Goes.step rfl (fun _ h₁=>?_);replace hF:=(Go.ConcN.Gen.fl_rely QCL) hF h₁;clear h₁);rw[stepG_ret'];simp only[goes_go];refine⟨by((first|refine dc0_none ?_|refine Qzb ?_|refine Qzc ?_);intro e he;simp at he),?_⟩)
 (refine Goes.step rfl (fun _ h₁=>?_);replace hF:=(Go.ConcN.Gen.fl_rely QCL) hF h₁;clear h₁)
 rw[QCX]
 simp only[goes_go]
 refine⟨by((first|refine dc0_none ?_|refine Qzb ?_|refine Qzc ?_);intro e he;simp at he),?_⟩
 exact Goes.stop (fun w₁ h₁=>⟨rfl,(Go.ConcN.Gen.fl_rely QCL hF h₁).1⟩)
set_option maxRecDepth 100000 in
set_option maxHeartbeats 4000000 in
theorem QCV(hJ:Job W.heap.size Shun A la B lb n arr xs ys)(g:Goroutine)(w:World)(hg:QCE W.heap.size A la ca B lb cb n (c :: cs) (wk n) g)(hF:FC W A la ca B lb cb n (wk n) (fkw (wk n)) w∧LvD W w):GM W A la ca B lb cb n base Shun arr c cs (wk n) (QCM (crewD W A la ca B lb cb n base Shun arr c cs) 0) 40 g w:=by
 have hfresh:=hJ.fresh
 have hnl:=QCN (n:=n) rfl
 obtain⟨v14,v15,v16,v17,v18,v19,v20,v21,v22,v23,v24,rfl⟩:=hg
 have hA:= @QCj _ Tryz.link (crewD W A la ca B lb cb n base Shun arr c cs) (FC W A la ca B lb cb n (wk n) (fkw (wk n)))
 simp only[TR,LD,tailD,bodyD,body_wait, Tryz.f45,waitFn,Option.getD_some] at hA⊢
 ((refine Goes.step rfl (fun _ h₁=>?_);replace hF:=(Go.ConcN.Gen.fl_rely QCL) hF h₁;clear h₁);rw[stepG_seq];simp only[goes_go];refine⟨by((first|refine dc0_none ?_|refine Qzb ?_|refine Qzc ?_);intro e he;simp at he),?_⟩)
 ((refine Goes.step rfl (fun _ h₁=>?_);replace hF:=(Go.ConcN.Gen.fl_rely QCL) hF h₁;clear h₁);rw[stepG_seq];simp only[goes_go];refine⟨by((first|refine dc0_none ?_|refine Qzb ?_|refine Qzc ?_);intro e he;simp at he),?_⟩)
 ((refine Goes.step rfl (fun _ h₁=>?_);replace hF:=(Go.ConcN.Gen.fl_rely QCL) hF h₁;clear h₁);rw[stepG_region];simp only[goes_go,List.size_toArray,List.length_cons,List.length_nil,Nat.reduceAdd,Nat.zero_add,List.range,List.range.loop];refine⟨by((first|refine dc0_none ?_|refine Qzb ?_|refine Qzc ?_);intro e he;simp at he),?_⟩)
 u_opw (Go.ConcN.Gen.fl_rely QCL) hF [FC.cntc (And.left hF)] (fun _ _=>rfl) (QCp _ _ (by simp<;>omega) (by simp<;>omega) (hfresh _ (by simp<;>omega)) (.inl rfl) (by simp<;>omega))
 u_opw (Go.ConcN.Gen.fl_rely QCL) hF [FC.out (And.left hF)] (fun _ _=>rfl) (QCp _ _ (by simp<;>omega) (by simp<;>omega) (hfresh _ (by simp<;>omega)) (.inl rfl) (by simp<;>omega))
 ((refine Goes.step rfl (fun _ h₁=>?_);replace hF:=(Go.ConcN.Gen.fl_rely QCL) hF h₁;clear h₁);refine goes_oper_k rfl rfl (by k_ne) (fun Kx hKx=>?_);go_simp;refine hKx _ _ ⟨by((first|refine dc0_none ?_|refine Qzb ?_|refine Qzc ?_);intro e he;have hm:=mem_listed he;simp[go_sem, *] at hm),?_⟩;clear hKx Kx;try w_num)
 ((refine Goes.step rfl (fun _ h₁=>?_);replace hF:=(Go.ConcN.Gen.fl_rely QCL) hF h₁;clear h₁);refine goes_oper_k rfl rfl (by k_ne) (fun Kx hKx=>?_);go_simp;refine hKx _ _ ⟨by((first|refine dc0_none ?_|refine Qzb ?_|refine Qzc ?_);intro e he;have hm:=mem_listed he;simp[go_sem, *] at hm),?_⟩;clear hKx Kx;try w_num)
 ((refine Goes.step rfl (fun _ h₁=>?_);replace hF:=(Go.ConcN.Gen.fl_rely QCL) hF h₁;clear h₁);rw[stepG_region_end];simp only[goes_go];refine⟨by((first|refine dc0_none ?_|refine Qzb ?_|refine Qzc ?_);intro e he;simp at he),?_⟩)
 ((refine Goes.step rfl (fun _ h₁=>?_);replace hF:=(Go.ConcN.Gen.fl_rely QCL) hF h₁;clear h₁);rw[stepG_cond (t:=false) (by first|rfl|(simp[Act.eval];omega))];simp only[goes_go,if_true,if_false,Bool.false_eq_true, ↓reduceIte];refine⟨by((first|refine dc0_none ?_|refine Qzb ?_|refine Qzc ?_);intro e he;simp at he),?_⟩)
 ((refine Goes.step rfl (fun _ h₁=>?_);replace hF:=(Go.ConcN.Gen.fl_rely QCL) hF h₁;clear h₁);refine goes_exit rfl ?_;refine⟨by((first|refine dc0_none ?_|refine Qzb ?_|refine Qzc ?_);intro e he;simp at he),?_⟩)
 ((refine Goes.step rfl (fun _ h₁=>?_);replace hF:=(Go.ConcN.Gen.fl_rely QCL) hF h₁;clear h₁);rw[stepG_seq];simp only[goes_go];refine⟨by((first|refine dc0_none ?_|refine Qzb ?_|refine Qzc ?_);intro e he;simp at he),?_⟩)
 ((refine Goes.step rfl (fun _ h₁=>?_);replace hF:=(Go.ConcN.Gen.fl_rely QCL) hF h₁;clear h₁);rw[stepG_region];simp only[goes_go,List.size_toArray,List.length_cons,List.length_nil,Nat.reduceAdd,Nat.zero_add,List.range,List.range.loop];refine⟨by((first|refine dc0_none ?_|refine Qzb ?_|refine Qzc ?_);intro e he;simp at he),?_⟩)
 (refine Goes.step rfl (fun _ h₁=>?_);replace hF:=(Go.ConcN.Gen.fl_rely QCL) hF h₁;clear h₁)
 refine goes_call rfl rfl (by decide) rfl Tryz.func68 (nm_wait Tryz.link) rfl ⟨by((first|refine dc0_none ?_|refine Qzb ?_|refine Qzc ?_);intro e he;simp at he),?_⟩
 walk_nrmf Tryz.f68
 exact Goes.mono (n:=3) (hA Tryz.wgLib (fun g w h=>⟨_,_,_,_,_,_,_,_,_,_,_,h⟩) QCL _ hF) (by omega)
theorem QCT(hb:0<base)(hJ:Job W.heap.size Shun A la B lb n arr xs ys)(ha: ∀i ad,i<la→i<lb→A=some ad→W.cell? (ad.add i)=some (.int .i64 (xs i)))(hbb: ∀i ad,i<la→i<lb→B=some ad→W.cell? (ad.add i)=some (.int .i64 (ys i))):
 ∀(r j:Nat),j+r=wk n→∃m,∀(g:Goroutine) (w:World),QCE W.heap.size A la ca B lb cb n (c :: cs) j g→FC W A la ca B lb cb n j (fkw j) w∧LvD W w→GM W A la ca B lb cb n base Shun arr c cs j (QCM (crewD W A la ca B lb cb n base Shun arr c cs) r) m g w
 |0,j,hj=>by
  obtain rfl:j=wk n:=hj
  exact⟨40,QCV hJ⟩
 |r+1,j,hj=>by
  obtain⟨m,ih⟩:=QCT hb hJ ha hbb r (j+1) (by omega)
  exact⟨40,QCW hb hJ ha hbb hj ih⟩
theorem QC0(hb:0<base)(hJ:Job W.heap.size Shun A la B lb n arr xs ys)(ha: ∀i ad,i<la→i<lb→A=some ad→W.cell? (ad.add i)=some (.int .i64 (xs i)))(hbb: ∀i ad,i<la→i<lb→B=some ad→W.cell? (ad.add i)=some (.int .i64 (ys i)))
 (v7 v14 v15 v16 v17 v18 v19 v20 v21 v22 v23 v24:Value)(w:World)(hF:F5 W A la ca B lb cb n w∧LvD W w):Qzs (crewD W A la ca B lb cb n base Shun arr c cs) (wk n) (gA W.heap.size A la ca B lb cb n v7 v14 v15 v16 v17 v18 v19 v20 v21 v22 v23 v24 (c :: cs)) w:=by
 obtain⟨m,h⟩:=QCT (A:=A) (B:=B) (la:=la) (lb:=lb) (ca:=ca) (cb:=cb) (c:=c) (cs:=cs) hb hJ ha hbb (wk n) 0 (Nat.zero_add _)
 exact QCQ (j:=0) (Nat.zero_add _) (QCS hJ.fresh h v7 v14 v15 v16 v17 v18 v19 v20 v21 v22 v23 v24 w hF)
theorem QCY(hJ:Job W.heap.size Shun A la B lb n arr xs ys)(g:Goroutine)(w:World)(h:AnD W A la ca B lb cb n (c :: cs) g w): ∃m,Goes Tryz.prog true (RC 115 (W.heap.size+4) (W.heap.size+2)) (DC (crewD W A la ca B lb cb n base Shun arr c cs) (wk n)) (Qzr (crewD W A la ca B lb cb n base Shun arr c cs)) m g w:=by
 obtain⟨v14,v15,v16,v17,v18,v19,v20,v21,v22,v23,v24,h⟩:=h
 exact QCi (K:=(crewD W A la ca B lb cb n base Shun arr c cs)) Tryz.wgLib (show W.heap.size+4<W.heap.size+6+wk n by omega) (fun g w h=>⟨_,_,_,_,_,_,_,_,_,_,_,h⟩) QCL (fun w h1 h2=>QCU hJ.fresh v14 v15 v16 v17 v18 v19 v20 v21 v22 v23 v24 w h1 h2) g w h
theorem QCZ(g:Goroutine)(w:World)(h:AnD W A la ca B lb cb n cs g w):g.status= .running:=by
 obtain⟨v14,v15,v16,v17,v18,v19,v20,v21,v22,v23,v24,T,rfl,_⟩:=h
 rfl
end
end Go.Proofs.YtgaimkihacljdaaGreat
/- The one function that differs: the stand-in's way and the given program's: what they share. (Round C) -/
namespace Go.Proofs.YtgaimkihacljdaaGreat
set_option linter.unusedSectionVars false
set_option linter.unusedSimpArgs false
open Go.Conc Go.RowKit Go.Conc.Lib
open Go.ConcN (ShN RelBy RW RC WgLive PayAt Has Full full_of)
open Go.ConcR (KK wgBlock WgAt stA smA rd wr mk Payload Aside2 DC0)
open Go.ConcX.Gen (add_block)
theorem QmK(T:Array Value)(h:T.size=25): ∃v0 v1 v2 v3 v4 v5 v6 v7 v8 v9 v10 v11 v12 v13 v14 v15 v16 v17 v18 v19 v20 v21 v22 v23 v24:Value,T= #[v0,v1,v2,v3,v4,v5,v6,v7,v8,v9,v10,v11,v12,v13,v14,v15,v16,v17,v18,v19,v20,v21,v22,v23,v24]:=by
 obtain⟨l⟩:=T
 simp only[List.size_toArray] at h
 rcases l with _|⟨v0,l⟩
 ·simp at h
 rcases l with _|⟨v1,l⟩
 ·simp at h
 rcases l with _|⟨v2,l⟩
 ·simp at h
 rcases l with _|⟨v3,l⟩
 ·simp at h
 rcases l with _|⟨v4,l⟩
 ·simp at h
 rcases l with _|⟨v5,l⟩
 ·simp at h
 rcases l with _|⟨v6,l⟩
 ·simp at h
 rcases l with _|⟨v7,l⟩
 ·simp at h
 rcases l with _|⟨v8,l⟩
 ·simp at h
 rcases l with _|⟨v9,l⟩
 ·simp at h
 rcases l with _|⟨v10,l⟩
 ·simp at h
 rcases l with _|⟨v11,l⟩
 ·simp at h
 rcases l with _|⟨v12,l⟩
 ·simp at h
 rcases l with _|⟨v13,l⟩
 ·simp at h
 rcases l with _|⟨v14,l⟩
 ·simp at h
 rcases l with _|⟨v15,l⟩
 ·simp at h
 rcases l with _|⟨v16,l⟩
 ·simp at h
 rcases l with _|⟨v17,l⟩
 ·simp at h
 rcases l with _|⟨v18,l⟩
 ·simp at h
 rcases l with _|⟨v19,l⟩
 ·simp at h
 rcases l with _|⟨v20,l⟩
 ·simp at h
 rcases l with _|⟨v21,l⟩
 ·simp at h
 rcases l with _|⟨v22,l⟩
 ·simp at h
 rcases l with _|⟨v23,l⟩
 ·simp at h
 rcases l with _|⟨v24,l⟩
 ·simp at h
 rcases l with _|⟨x,l⟩
 ·exact⟨v0,v1,v2,v3,v4,v5,v6,v7,v8,v9,v10,v11,v12,v13,v14,v15,v16,v17,v18,v19,v20,v21,v22,v23,v24,rfl⟩
 ·simp at h
theorem QoQ{args:Array Value}{A B:Option Addr}{la ca lb cb:Nat}{cs:List Frame}(hV:(args++Array.replicate (25 - args.size) undef).size=25)(ha:(args++Array.replicate (25 - args.size) undef).getD 0 undef= .slice A la ca)(hb:(args++Array.replicate (25 - args.size) undef).getD 1 undef= .slice B lb cb):
 ∃v2 v3 v4 v5 v6 v7 v8 v9 v10 v11 v12 v13 v14 v15 v16 v17 v18 v19 v20 v21 v22 v23 v24:Value,Conc.G (Frame.enter Tryz.prog 45 args .normal) cs=gD A la ca B lb cb v2 v3 v4 v5 v6 v7 v8 v9 v10 v11 v12 v13 v14 v15 v16 v17 v18 v19 v20 v21 v22 v23 v24 cs:=by
 have e:Frame.enter Tryz.prog 45 args .normal=(Conc.base 45).at ⟨args++Array.replicate (25 - args.size) undef,[]⟩ [.code bodyD]:=by
  simp[Frame.enter,Frame.at, Tryz.func45,Conc.base,bodyD, Tryz.f45]
 rw[e]
 obtain⟨v0,v1,v2,v3,v4,v5,v6,v7,v8,v9,v10,v11,v12,v13,v14,v15,v16,v17,v18,v19,v20,v21,v22,v23,v24,hv⟩:=QmK _ hV
 rw[hv] at ha hb⊢
 have ha':v0= .slice A la ca:=ha
 have hb':v1= .slice B lb cb:=hb
 subst ha' hb'
 exact⟨v2,v3,v4,v5,v6,v7,v8,v9,v10,v11,v12,v13,v14,v15,v16,v17,v18,v19,v20,v21,v22,v23,v24,rfl⟩
theorem Qqu{w:World}{N:Nat}{Shun:Loc→Prop}{A B:Option Addr}{la lb:Nat}{arr:Array Value}(hN:w.heap.size=N)(hfresh: ∀a:Addr,N≤a.block→¬Shun (.cell a))(hok: ∀(a:Addr) v,a.block<N→w.cell? a=some v→¬Shun (.cell a))(hD:Done w A la B lb arr (max la lb))(hle:max la lb≤1048576):
 ∃xs ys:Nat→Int,Job N Shun A la B lb (max la lb) arr xs ys∧(∀i ad,i<la→i<lb→A=some ad→w.cell? (ad.add i)=some (.int .i64 (xs i)))∧∀i ad,i<la→i<lb→B=some ad→w.cell? (ad.add i)=some (.int .i64 (ys i)):=by
 subst hN
 have key: ∀i,∃p:Int×Int,i<la→i<lb→RdS w A i p.1∧RdS w B i p.2∧arr[i]? =some (.bool (p.1 != p.2)):=by
  intro i
  by_cases h:i<la∧i<lb
  ·obtain⟨q,h1,h2⟩:=hD.done i (by omega)
   rcases h2 with⟨_,_,x,y,hx,hy,rfl⟩|⟨hn,_⟩
   ·exact⟨(x,y),fun _ _=>⟨hx,hy,h1⟩⟩
   ·exact absurd h hn
  ·exact⟨(0,0),fun a b=>absurd ⟨a,b⟩ h⟩
 have ra: ∀i ad,i<la→i<lb→A=some ad→ad.block<w.heap.size∧w.cell? (ad.add i)=some (.int .i64 (key i).choose.1):=fun i ad h1 h2 e=>by
  obtain⟨ad',e',hb,h⟩:=((key i).choose_spec h1 h2).1
  obtain rfl:=Option.some.inj (e.symm.trans e')
  exact⟨hb,h⟩
 have rb: ∀i ad,i<la→i<lb→B=some ad→ad.block<w.heap.size∧w.cell? (ad.add i)=some (.int .i64 (key i).choose.2):=fun i ad h1 h2 e=>by
  obtain⟨ad',e',hb,h⟩:=((key i).choose_spec h1 h2).2.1
  obtain rfl:=Option.some.inj (e.symm.trans e')
  exact⟨hb,h⟩
 refine⟨fun i=>(key i).choose.1,fun i=>(key i).choose.2,⟨hD.size,rfl,hle,hfresh,fun i h1 h2=>?_,fun i h1 h2=>?_,fun i ad h1 h2 e=>hok _ _ (by rw[add_block];exact(ra i ad h1 h2 e).1) (ra i ad h1 h2 e).2,fun i ad h1 h2 e=>hok _ _ (by rw[add_block];exact(rb i ad h1 h2 e).1) (rb i ad h1 h2 e).2,fun i hi=>?_⟩,fun i ad h1 h2 e=>(ra i ad h1 h2 e).2,fun i ad h1 h2 e=>(rb i ad h1 h2 e).2⟩
 ·obtain⟨ad,e,h,_⟩:=((key i).choose_spec h1 h2).1
  exact⟨ad,e,h⟩
 ·obtain⟨ad,e,h,_⟩:=((key i).choose_spec h1 h2).2.1
  exact⟨ad,e,h⟩
 ·by_cases h:i<la∧i<lb
  ·refine((key i).choose_spec h.1 h.2).2.2.trans ?_
   have e1:decide (la≤i)=false:=by simpa using h.1
   have e2:decide (lb≤i)=false:=by simpa using h.2
   rw[e1,e2]
   rfl
  ·obtain⟨q,h1,h2⟩:=hD.done i hi
   rcases h2 with⟨a,b,_⟩|⟨_,rfl⟩
   ·exact absurd ⟨a,b⟩ h
   ·refine h1.trans ?_
    by_cases h3:la≤i
    ·simp[h3]
    ·have:lb≤i:=by omega
     simp[this]
def W2(W:Nat→Prop)(N n:Nat)(r:Nat):Prop:=W r∨∃x,r=N+x∧x≠2∧x<6+wk n
section
variable {tI tB tW ti tb : TypeId} {N0 : Ctx} {H : Nat → Option Obj} {K : Code → Prop} {V : FuncId → Prop} {W : Nat → Prop} {w w' w2 : World} {n : Nat} {arr : Array Value}
theorem Qcm:(made tI tB tW ti tb n arr).size=6+wk n:=by
 unfold made wk
 simp
theorem Qkf(h:Rel N0 H K V W w w')(ho:w2.os=w.os)(hu:w2.output=w.output)(hs:w2.heap.size=w.heap.size+(made tI tB tW ti tb n arr).size)(hlo: ∀r,r<w.heap.size→w2.heap[r]? =w.heap[r]?)
 (hnew: ∀x o,x≠2→(made tI tB tW ti tb n arr)[x]? =some o→∃c e,o= .cells #[] e∧w2.heap[w.heap.size+x]? =some (.cells c e))(hdat:w2.heap[w.heap.size+2]? =some (.cells arr tb))(tp:Nat→Question→Nat)(k:Nat):
 ∃N1,Rel N1 H K V (W2 W w.heap.size n) w2 (on (fw tI tB tW ti tb w' n arr) tp k):=by
 have hsz:=h.size
 have lo: ∀r,r<w.heap.size→(on (fw tI tB tW ti tb w' n arr) tp k).heap[r]? =w'.heap[r]? :=fun r hr=>Qiq (by omega)
 have hi: ∀x,(on (fw tI tB tW ti tb w' n arr) tp k).heap[w.heap.size+x]? =(made tI tB tW ti tb n arr)[x]? :=fun x=>by
  rw[←hsz]
  exact Qep x
 have at_x: ∀r,w.heap.size≤r→∃x,r=w.heap.size+x:=fun r hr=>⟨r - w.heap.size,by omega⟩
 have cel: ∀r,w.heap.size≤r→∀o,(on (fw tI tB tW ti tb w' n arr) tp k).heap[r]? =some o→∃c e,o= .cells c e:=fun r hr o ho=>by
  obtain⟨x,rfl⟩:=at_x r hr
  rw[hi] at ho
  by_cases e:x=2
  ·subst e
   rw[QdO] at ho
   exact⟨_,_,(Option.some.inj ho).symm⟩
  ·obtain⟨c,e1,h1,_⟩:=hnew x o e ho
   exact⟨_,_,h1⟩
 refine⟨⟨0,w2.tape,k,w2.drawn⟩,?_,?_,fun i h=>absurd h (by show¬_<0;omega),⟨rfl,Nat.add_comm _ _⟩,?_,?_,?_,?_,?_,?_,?_,?_⟩
 ·show w'.os=w2.os
  rw[h.os,ho]
 ·show w'.output=w2.output
  rw[h.output,hu]
 ·show(w'.heap++_).size=_
  rw[Array.size_append,hs,hsz]
 ·rintro r (hW|⟨x,rfl,hx,hlt⟩)
  ·have hl:=h.lt hW
   rw[hlo r hl,lo r hl]
   exact h.dead r hW
  ·have hx':x<(made tI tB tW ti tb n arr).size:=by rw[Qcm];exact hlt
   obtain⟨c,e,h1,h2⟩:=hnew x _ hx (Array.getElem?_eq_getElem hx')
   exact⟨c,e,h2,by rw[hi,Array.getElem?_eq_getElem hx',h1]⟩
 ·intro r hr
  by_cases hl:r<w.heap.size
  ·rw[hlo r hl,lo r hl]
   exact h.live r fun hW=>hr (.inl hW)
  ·obtain⟨x,rfl⟩:=at_x r (by omega)
   refine .inl ?_
   rw[hi]
   by_cases e:x=2
   ·subst e
    rw[QdO,hdat]
   ·have hx: ¬x<6+wk n:=fun hlt=>hr (.inr ⟨x,rfl,e,hlt⟩)
    rw[Array.getElem?_eq_none (by rw[Qcm];omega),Array.getElem?_eq_none (by rw[hs,Qcm];omega)]
 ·intro r a u hv
  by_cases hl:r<w.heap.size
  ·rw[lo r hl] at hv
   exact h.view r a u hv
  ·obtain⟨c,e,h1⟩:=cel r (by omega) _ hv
   cases h1
 ·intro r l hv
  by_cases hl:r<w.heap.size
  ·rw[lo r hl] at hv
   exact h.loop r l hv
  ·obtain⟨c,e,h1⟩:=cel r (by omega) _ hv
   cases h1
 ·intro r l hv
  by_cases hl:r<w.heap.size
  ·rw[lo r hl] at hv
   exact h.defer r l hv
  ·obtain⟨c,e,h1⟩:=cel r (by omega) _ hv
   cases h1
 ·intro r c e hv
  by_cases hl:r<w.heap.size
  ·rw[lo r hl] at hv
   exact h.pend r c e hv
  ·obtain⟨c,e,h1⟩:=cel r (by omega) _ hv
   cases h1
 ·intro r a u hv
  by_cases hl:r<w.heap.size
  ·rw[hlo r hl] at hv
   exact h.rview r a u hv
  ·obtain⟨x,rfl⟩:=at_x r (by omega)
   by_cases e:x=2
   ·subst e
    rw[hdat] at hv
    cases hv
   ·by_cases hx:x<(made tI tB tW ti tb n arr).size
    ·obtain⟨c,e,_,h2⟩:=hnew x _ e (Array.getElem?_eq_getElem hx)
     rw[h2] at hv
     cases hv
    ·rw[Array.getElem?_eq_none (by rw[hs];omega)] at hv
     cases hv
end
theorem QC2{W:World}{A B:Option Addr}{la ca lb cb n:Nat}{arr:Array Value}{z st sm:Int}{w:World}(h:FC W A la ca B lb cb n (wk n) z w)(hg:WgAt 115 (W.heap.size+4) w st sm):
 ∀x o,x≠2→(made 30 81 115 3 4 n arr)[x]? =some o→∃c e,o= .cells #[] e∧w.heap[W.heap.size+x]? =some (.cells c e):=by
 intro x o hx ho
 have hlt:x<6+wk n:=by
  have:=(Array.getElem?_eq_some_iff.1 ho).1
  rw[Qcm] at this
  exact this
 unfold made at ho
 have key: ∀y,y<5→y≠2→y≠4→w.heap[W.heap.size+y]? =(#[.cells #[.slice A la ca] 30,.cells #[.slice B lb cb] 30,.cells (madeCells #[.bool false] n) 4,.cells #[.slice (some ⟨W.heap.size+2,0,none⟩) n n] 81,.cells #[.int .u64 0,.int .u32 0] 115]:Array Obj)[y]? :=fun y h1 h2 h3=>
  (h.low (W.heap.size+y) (by omega) (by omega) (by omega)).trans (QCz W A la ca B lb cb n y)
 have hbox: ∀i,i≤wk n→∃c,w.heap[W.heap.size+5+i]? =some (.cells c 3):=fun i hi=>by
  rcases Nat.lt_or_ge i (wk n) with h1|h1
  ·exact h.box i h1
  ·obtain rfl:i=wk n:=by omega
   exact⟨_,h.cnt⟩
 rcases Nat.lt_or_ge x 6 with h6|h6
 ·rw[Array.getElem?_append_left (by simpa using h6)] at ho
  match x,hx,h6,ho with
  |0,_,_,ho=>exact⟨_,_,(Option.some.inj ho).symm,key 0 (by omega) (by omega) (by omega)⟩
  |1,_,_,ho=>exact⟨_,_,(Option.some.inj ho).symm,key 1 (by omega) (by omega) (by omega)⟩
  |3,_,_,ho=>exact⟨_,_,(Option.some.inj ho).symm,key 3 (by omega) (by omega) (by omega)⟩
  |4,_,_,ho=>exact⟨_,_,(Option.some.inj ho).symm,hg⟩
  |5,_,_,ho=>
   obtain⟨c,hc⟩:=hbox 0 (Nat.zero_le _)
   exact⟨c,_,(Option.some.inj ho).symm,hc⟩
 ·rw[Array.getElem?_append_right (by simpa using h6)] at ho
  obtain⟨i,rfl⟩: ∃i,x=5+i:=⟨x - 5,by omega⟩
  obtain⟨c,hc⟩:=hbox i (by omega)
  obtain⟨hlt2,ho⟩:=Array.getElem?_eq_some_iff.1 ho
  rw[Array.getElem_replicate] at ho
  exact⟨c,_,ho.symm,by rw[show W.heap.size+(5+i)=W.heap.size+5+i by omega];exact hc⟩
section
variable {P : Program} {main : Bool} {R : World → World → Prop} {D : World → World → Array Event → Prop} {S : Goroutine → World → Prop} {L : Nat}
theorem QC1(hR: ∀a b,R a b→∀x,x<L→b.heap[x]? =a.heap[x]?)(hD: ∀w w' es,D w w' es→∀x,x<L→w'.heap[x]? =w.heap[x]?)(w₀:World):
 ∀{m:Nat} {g:Goroutine} {w:World},(∀x,x<L→w.heap[x]? =w₀.heap[x]?)→Goes P main R D S m g w→Goes P main R D (fun g w₁=>S g w₁∧∀x,x<L→w₁.heap[x]? =w₀.heap[x]?) m g w
 |0,g,w,hw,h=>fun w₁ r=>⟨h w₁ r,fun x hx=>(hR _ _ r x hx).trans (hw x hx)⟩
 |m+1,g,w,hw,h=>by
  rcases h with h|⟨hr,h⟩
  ·exact .inl fun w₁ r=>⟨h w₁ r,fun x hx=>(hR _ _ r x hx).trans (hw x hx)⟩
  ·refine .inr ⟨hr,fun w₁ r=>?_⟩
   obtain⟨g',w',es,e,hd,hn⟩:=goes_elim (h w₁ r)
   rw[e]
   exact⟨hd,QC1 hR hD w₀ (fun x hx=>(hD _ _ _ hd x hx).trans ((hR _ _ r x hx).trans (hw x hx))) hn⟩
end
end Go.Proofs.YtgaimkihacljdaaGreat
/- What is to be shown of the one function that differs: whatever lists, n workers. (Round C) -/
namespace Go.Proofs.YtgaimkihacljdaaGreat
set_option linter.unusedSectionVars false
set_option linter.unusedSimpArgs false
open Go.Conc Go.RowKit Go.Conc.Lib
open Go.ConcN (ShN RelBy RW RC WgLive PayAt Has Full full_of)
open Go.ConcR (KK wgBlock WgAt stA smA rd wr mk Payload Aside2 DC0)
open Go.ConcX.Gen (add_block)
theorem Qj9{G:Array Func}{d0 f:FuncId}{R:Value→World→Prop}{s0:Cf}{W0:World}{fn:Func}{ii ib:TypeInfo}(E:Env Tryz.prog.toTables G d0 f R s0)(hT:Ty 30 81 3 4 ⟨Tryz.prog.toTables,G⟩ ii ib)(hg:G[(45:FuncId)]? =some fn)(hr:fn.results= #[.tmp 4])(hn:fn.ntmps=25)
 (hb:fn.body=some (QcE 30 81 115 3 4)):Qfj Tryz.prog.toTables Tryz.prog.funcs G 45 W0 s0:=by
 intro s args c cs hfr hcs hS hre gs w sl q Shun t W hC
 obtain⟨N0,hrel⟩:=hC.rel
 have hsz:=hrel.size
 have henter:Frame.enter ⟨Tryz.prog.toTables,G⟩ 45 args .normal=(bF 45).at ⟨args++Array.replicate (25 - args.size) undef,[]⟩ [.code (QcE 30 81 115 3 4)]:=by
  simp[Frame.enter,Frame.at,hg,hb,hn,bF]
 have hnice:Nice Tryz.prog.toTables G d0 s:=by
  have h1:=QjO (d:=45) (F:= Tryz.prog.funcs) (s:=⟨c,cs,s.w⟩) E.none hS hrel
  have hv:VV G G d0 45:=⟨(fun e=>by rw[e,E.none] at hg;cases hg),rfl,_,hg⟩
  refine⟨⟨?_,?_,?_⟩,h1.clean⟩
  ·rw[hfr]
   exact QfQ E.bodies hg hv (by rw[hb];rfl) args
  ·rw[hcs]
   intro x hx
   rcases List.mem_cons.1 hx with rfl|hx
   ·exact h1.stack.top
   ·exact h1.stack.rest x hx
  ·have h2:=Qfw (fr':=s.fr) h1.stack.bottom
   simp only[hcs]
   exact h2
 have hon:On Tryz.prog.toTables G d0 s0 s ((bF 45).at ⟨args++Array.replicate (25 - args.size) undef,[]⟩ [.code (QcE 30 81 115 3 4)]) (c :: cs) s.w:=by
  have e:(⟨(bF 45).at ⟨args++Array.replicate (25 - args.size) undef,[]⟩ [.code (QcE 30 81 115 3 4)],c :: cs,on s.w s.w.tape s.w.drawn⟩:Cf)=s:=by
   rw[←henter,←hfr,←hcs]
   rfl
  exact⟨s.w.tape,s.w.drawn,by rw[e];exact⟨hre,hnice⟩,.inl e⟩
 obtain⟨hV,A,la,ca,B,lb,cb,arr,ha,hbb,hle,hD,tp,k,hpl,hch⟩:=QvR E hT hg hr (by simp;omega) hon
 have hbk:Relation.TransGen (BkS ⟨Tryz.prog.toTables,G⟩) ⟨c.finish (.slice (some ⟨s.w.heap.size+2,0,none⟩) (max la lb) (max la lb)),cs,on (fw 30 81 115 3 4 s.w (max la lb) arr) tp k⟩ s:=by
  rcases hch with e|h
  ·have e2:cs=c :: cs:=(congrArg Cf.cs e).trans hcs
   have:=congrArg List.length e2
   simp at this
  ·exact h
 refine⟨_,hbk,⟨hS.top.finish _,hS.rest,JM hS.bottom (Qb3 _ _)⟩,?_⟩
 have hSh: ∀a:Addr,¬W a.block→¬Shun (.cell a):=fun a hW hs=>by
  obtain⟨a',e,h⟩:=hC.shun _ hs
  cases e
  exact hW h
 have hfresh: ∀a:Addr,w.heap.size≤a.block→¬W a.block:=fun a h hW=>absurd (hrel.lt hW) (by omega)
 have hlow:=hC.low
 have hzero:=hC.zero
 rw[hcs] at hzero
 obtain⟨v2,v3,v4,v5,v6,v7,v8,v9,v10,v11,v12,v13,v14,v15,v16,v17,v18,v19,v20,v21,v22,v23,v24,hgd⟩:=QoQ (cs:=c :: cs) hV ha hbb
 rw[show Frame.enter ⟨Tryz.prog.toTables, Tryz.prog.funcs⟩ 45 args .normal=Frame.enter Tryz.prog 45 args .normal from rfl,hgd] at hzero
 have hfr2: ∀a:Addr,w.heap.size≤a.block→¬Shun (.cell a):=fun a h=>hSh a (hfresh a h)
 obtain⟨xs,ys,hJ,hxa,hxb⟩:=Qqu (N:=w.heap.size) (Shun:=Shun) hsz hfr2 (fun a v h1 h2=>hSh a (hrel.not_dead h2)) hD hle
 have hxa': ∀i ad,i<la→i<lb→A=some ad→w.cell? (ad.add i)=some (.int .i64 (xs i)):=fun i ad h1 h2 h3=>hrel.cell (hxa i ad h1 h2 h3)
 have hxb': ∀i ad,i<la→i<lb→B=some ad→w.cell? (ad.add i)=some (.int .i64 (ys i)):=fun i ad h1 h2 h3=>hrel.cell (hxb i ad h1 h2 h3)
 have hbase:0<gs.size:=(Array.getElem?_eq_some_iff.1 hC.zero).1
 obtain⟨n0,gs0,a0,w0,sl0,t0,q0,r0,z0,h0,⟨rfl,d0',rfl⟩,L0,P0⟩:=walk_beside (P:= Tryz.prog) (Shun:=Shun) (B:=w.heap.size+4) (D:=DE (EvL Shun (w.heap.size+4))) (fun _ _ _ h=>h) _ 30 gs _ w sl t q (Nat.le_refl _) hzero hC.leavers (hC.past.mono (by omega)) (QCG hfr2 rfl hle v2 v3 v4 v5 v6 v7 v8 v9 v10 v11 v12 v13 v14 v15 v16 v17 v18 v19 v20 v21 v22 v23 v24)
 generalize hn':max la lb=n at*
 have hwg:WgAt 115 (w.heap.size+4) ((w5 w A la ca B lb cb n).at d0') 0 0:=QCz w A la ca B lb cb n 4
 have hpay:PayAt (w.heap.size+2) n ((w5 w A la ca B lb cb n).at d0'):=⟨madeCells #[.bool false] n,QCz w A la ca B lb cb n 2,size_madeCells _ _⟩
 have h5:F5 w A la ca B lb cb n ((w5 w A la ca B lb cb n).at d0'):=⟨rfl,rfl,rfl,rfl,fun _ _ _=>rfl⟩
 obtain⟨n1,gs1,a1,w1,sl1,t1,q1,x1,r1,h1,z1,g1,hwg1,hhas,hpay1,L1,P1⟩:=QCh (K:=crewD w A la ca B lb cb n gs.size Shun arr c cs) (B₀:=w.heap.size+4) (sl:=sl0) (QCo hbase hle hfr2) QCZ (QCY hJ) (Nat.le_refl _) h0 z0 L0 P0 hwg hpay (QC0 hbase hJ hxa' hxb' v7 v14 v15 v16 v17 v18 v19 v20 v21 v22 v23 v24 _ ⟨h5,_,_,hwg⟩)
 have g2:=QC1 (L:=w.heap.size+5+wk n) (fun a b r x _=>by obtain⟨d,rfl⟩:=r;rfl) (fun w' w'' es (h:DC (crewD w A la ca B lb cb n gs.size Shun arr c cs) (wk n) w' w'' es) x hx=>h.1 x hx) w1 (fun _ _=>rfl) (QAE (R':=AtRel) (D':=DC (crewD w A la ca B lb cb n gs.size Shun arr c cs) (wk n)) (fun a b ⟨d,hd⟩=>hd ▸ RC.at a d) (fun _ _ _ h=>h) g1)
 obtain⟨n2,gs2,a2,w2,sl2,t2,q2,r2,z2,h2,⟨⟨rfl,hF⟩,hkeep⟩,L2,P2⟩:=walk_beside (P:= Tryz.prog) (Shun:=fun l=>Shun l∨ShN (w.heap.size+4) l) (B:=w.heap.size+6+wk n) (D:=DC (crewD w A la ca B lb cb n gs.size Shun arr c cs) (wk n)) (fun _ _ _ h e he=>QCg (h.2 e he)) _ x1 gs1 _ w1 sl1 t1 q1 (Nat.le_refl _) h1 L1 P1 g2
 have hwg2:WgAt 115 (w.heap.size+4) w2 0 0:=WgAt.of_block (w:=w1) hwg1 (hkeep (w.heap.size+4) (by omega))
 have hsa:arr.size=n:=hJ.size
 have hfull:w2.heap[w.heap.size+2]? =some (.cells arr 4):=by
  refine(hkeep _ (by omega)).trans ?_
  have hf:Full (w.heap.size+2) arr.toList w1:=full_of (n:=n) (val:=valD arr) (by simpa using hsa) (fun i hi=>by
   unfold valD
   rw[Array.getD_eq_getD_getElem?,Array.getElem?_toList,Array.getElem?_eq_getElem (by omega),Option.getD_some]) hpay1 (fun i hi=>by
   have hk:i/64<wk n:=by unfold wk;omega
   exact hhas (i/64) hk i (show lo n (i/64)≤i by unfold lo;omega) (show i<lo n (i/64+1) by unfold lo;omega))
  have hf':w1.heap[w.heap.size+2]? =some (.cells arr.toList.toArray 4):=hf
  rwa [Array.toArray_toList] at hf'
 have hms:(made 30 81 115 3 4 n arr).size=6+wk n:=Qcm
 have hs2:(on (fw 30 81 115 3 4 s.w n arr) tp k).heap.size=w.heap.size+6+wk n:=by
  show(s.w.heap++_).size=_
  rw[Array.size_append,hms,hsz]
  omega
 refine⟨n0+(n1+n2),gs2,w2,sl2,q2,_,t2,W2 W w.heap.size n,Go.ConcX.runNT_trans r0 (Go.ConcX.runNT_trans r1 r2),⟨by rw[hsz];exact h2,L2,P2.mono (show w.heap.size+6+wk n≤_ by rw[hs2];omega),?_,?_,by rw[hs2];omega,?_,hF.tape.trans hC.tape⟩⟩
 ·rintro l (hl|⟨a,rfl,e⟩)
  ·obtain⟨a,e,h⟩:=hC.shun l hl
   exact⟨a,e,.inl h⟩
  ·exact⟨a,rfl,.inr ⟨4,e,by omega,by omega⟩⟩
 ·exact Qkf (w2:=w2) hrel hF.os hF.output (by rw[hms,hF.size];omega) (fun r hr=>(hF.low r (by omega) (by omega) (by omega)).trans (QCB w A la ca B lb cb n hr)) (fun x o e1 e2=>QC2 hF hwg2 x o e1 e2) hfull tp k
 ·rintro r (hW|⟨x,rfl,_⟩)
  ·exact hC.far r hW
  ·omega
end Go.Proofs.YtgaimkihacljdaaGreat
