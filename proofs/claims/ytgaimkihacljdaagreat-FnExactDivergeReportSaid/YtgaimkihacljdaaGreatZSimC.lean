/- Lemmas: SimQ SimR SimS SimU SimV SimW SimX SimY BGen. -/
import Derived.Test.YtgaimkihacljdaaGreatZSimB
import Derived.Calls
import Derived.RowKit3
import Derived.Laws.MakeOwn
/- Forward along the lone run over the stand-in: what each operation on its way has found. (Round C) -/
namespace Go.Proofs.YtgaimkihacljdaaGreat
section
variable {T : Tables} {G : Array Func} {d0 : FuncId} {s0 sE : Cf} {f : FuncId} {R : Value → World → Prop} {b : Frame} {a : Act} {k : List Item} {cs : List Frame} {w : World} {ops : Array Oper} {i : Nat} {rest : List Nat} {o : Oper}
structure Env(T:Tables)(G:Array Func)(d0:FuncId)(f:FuncId)(R:Value→World→Prop)(s0:Cf):Prop where
 twin:Twin G G d0
 bodies:JL T G d0
 none:G[d0]? =none
 all: ∀tp,QbT ⟨T,G⟩ f R (s0.at' tp 0)
structure Pl(T:Tables)(G:Array Func)(d0:FuncId)(s0 s:Cf):Prop where
 reach:JE ⟨T,G⟩ s0 s
 nice:Nice T G d0 s
theorem fwd(E:Env T G d0 f R s0){s:Cf}(h:Pl T G d0 s0 s)(hf: ¬s.fin): ∃tp K s',Pl T G d0 s0 s'∧BkS ⟨T,G⟩ s' s∧step ⟨T,G⟩ (s.at' tp K)= .next (lone s'.fr (s'.cs++ [QF]) s'.w):=by
 obtain⟨tp,K,m,_,hm,hv⟩:=Qke E.all h.reach hf (fun _ _=>0)
 obtain⟨s',n,h1,h2,h3,h4⟩:=QjT E.twin E.bodies E.none h.nice hf hm hv
 have hb:BkS ⟨T,G⟩ s' s:=⟨hf,n,_,h4⟩
 exact⟨tp,K,s',⟨h.reach.more hb,h3⟩,hb,by rw[hm,h2]⟩
def On(T:Tables)(G:Array Func)(d0:FuncId)(s0 sE:Cf)(fr:Frame)(cs:List Frame)(w:World):Prop:=
 ∃tp k,Pl T G d0 s0 ⟨fr,cs,on w tp k⟩∧(⟨fr,cs,on w tp k⟩=sE∨Relation.TransGen (BkS ⟨T,G⟩) ⟨fr,cs,on w tp k⟩ sE)
theorem QfC{Q:Program}{s s' sE:Cf}(h:s=sE∨Relation.TransGen (BkS Q) s sE)(hb:BkS Q s' s):Relation.TransGen (BkS Q) s' sE:=by
 rcases h with rfl|h
 ·exact .single hb
 ·exact Relation.TransGen.trans (.single hb) h
theorem Qgt{s:Cf}(h:s.fr.mode= .run): ¬s.fin:=fun hf=>by
 have:=hf.1
 rw[h] at this
 cases this
theorem Qao(E:Env T G d0 f R s0){fr fr':Frame}{cs':List Frame}(h:On T G d0 s0 sE fr cs w)(hm:fr.mode= .run)(hs: ∀w:World,∃es,stepG ⟨T,G⟩ true (Conc.G fr (cs++ [QF])) w= .go (Conc.G fr' (cs'++ [QF])) w es):
 On T G d0 s0 sE fr' cs' w:=by
 obtain⟨tp,k,hp,hc⟩:=h
 obtain⟨tp1,K,s',hp',hb,hst⟩:=fwd E hp (Qgt hm)
 obtain⟨es,he⟩:=hs (on w tp1 K)
 have e:=Qd2 he rfl
 have e':step ⟨T,G⟩ ((⟨fr,cs,on w tp k⟩:Cf).at' tp1 K)= .next (lone fr' (cs'++ [QF]) (on w tp1 K)):=e
 rw[e'] at hst
 injection hst with hst
 obtain⟨q1,q2,q3⟩:=J2 hst
 replace q2:=List.append_cancel_right q2
 obtain⟨fr1,cs1,w1⟩:=s'
 dsimp only at q1 q2 q3
 subst q1 q2 q3
 exact⟨tp1,K,hp',.inr (QfC hc hb)⟩
theorem Qf1(E:Env T G d0 f R s0)(h:On T G d0 s0 sE (b.at a (.inRegion ops (i :: rest) :: k)) cs w)(ho:ops[i]? =some o)(hw:Region.wanted o (yielded ops a.tmps)=true)(hok:okOp T o.op=true):
 ∃tp K x w2 s',(execOp a.eval o).run ⟨T,G⟩ (on w tp K)= .ok x w2∧Pl T G d0 s0 s'∧BkS ⟨T,G⟩ s' ⟨b.at a (.inRegion ops (i :: rest) :: k),cs,on w tp K⟩∧Relation.TransGen (BkS ⟨T,G⟩) s' sE∧
  ∀fr',(∃es,stepG ⟨T,G⟩ true (Conc.G (b.at a (.inRegion ops (i :: rest) :: k)) (cs++ [QF])) (on w tp K)= .go (Conc.G fr' (cs++ [QF])) w2 es)→s'=⟨fr',cs,w2⟩:=by
 obtain⟨tp0,k0,hp,hc⟩:=h
 obtain⟨tp,K,s',hp',hb,hst⟩:=fwd E hp (Qgt rfl)
 have hg:=stepG_op (P:=⟨T,G⟩) (b:=b) (k:=k) (cs:=cs++ [QF]) (w:=on w tp K) (rest:=rest) ho hw
 have hb':BkS ⟨T,G⟩ s' ⟨b.at a (.inRegion ops (i :: rest) :: k),cs,on w tp K⟩:=hb
 have hst':step ⟨T,G⟩ { world:=on w tp K,gs:=#[Conc.G (b.at a (.inRegion ops (i :: rest) :: k)) (cs++ [QF])],rest:={ timers:=#[],alone:=none,slice:=none}}= .next (lone s'.fr (s'.cs++ [QF]) s'.w):=hst
 have hg':stepG ⟨T,G⟩ true (Conc.G (b.at a (.inRegion ops (i :: rest) :: k)) (cs++ [QF])) (on w tp K)=stepG.apply ⟨T,G⟩ true (b.at a (.inRegion ops (i :: rest) :: k)) (cs++ [QF]) none (execOp a.eval o) (on w tp K):=hg
 match hrun:(execOp a.eval o).runT ⟨T,G⟩ (on w tp K) #[] with
 |(.ok x w2,es)=>
  refine⟨tp,K,x,w2,s',?_,hp',hb',QfC hc hb,fun fr' ⟨es',he⟩=>?_⟩
  ·rw[Sem.runT_eq] at hrun
   exact(Prod.mk.inj hrun).1
  ·rw[Qd2 he rfl] at hst'
   injection hst' with e
   obtain⟨q1,q2,q3⟩:=J2 (show lone fr' (cs++ [QF]) w2=_ from e)
   replace q2:=List.append_cancel_right q2
   obtain⟨fr1,cs1,w1⟩:=s'
   dsimp only at q1 q2 q3
   subst q1 q2 q3
   rfl
 |(.halt x w2,es)=>
  exfalso
  have hHalt:JU x:=by
   have hs:=QkC (T:=T) (K:=KK T) (V:=VV G G d0) (W:=fun _=>False) E.twin a.eval o hok
   have hcl:QaU (KK T) (VV G G d0) w:=⟨hp.nice.clean.view,hp.nice.clean.loop,hp.nice.clean.defer,hp.nice.clean.pend⟩
   exact((hs _ _ _ _ #[] (hcl.rel w2.drawn tp tp K K fun _ _=>rfl)).2 x w2 es hrun (Nat.le_refl _)).1
  have hap: ∀y,stepG.apply ⟨T,G⟩ true (b.at a (.inRegion ops (i :: rest) :: k)) (cs++ [QF]) none (execOp a.eval o) (on w tp K)=y→(∃o' w' es',y= .ended o' w' es')∨∃chain w' es',y= .go (Conc.G ((b.at a (.inRegion ops (i :: rest) :: k)).raise chain) (cs++ [QF])) w' es':=by
   intro y hy
   unfold stepG.apply at hy
   simp only[hrun,if_true] at hy
   cases x<;>first
    |(cases hHalt;done)
    |exact .inr ⟨_,_,_,hy.symm⟩
    |exact .inl ⟨_,_,_,hy.symm⟩
    |(rename_i u
      cases u<;>first
       |(cases hHalt;done)
       |exact .inl ⟨_,_,_,hy.symm⟩)
  rcases hap _ rfl with⟨o',w',es',e⟩|⟨chain,w',es',e⟩
  ·obtain⟨o1,w3,e2⟩:=QcD (Q:=⟨T,G⟩) (fr:=b.at a (.inRegion ops (i :: rest) :: k)) (cs:=cs++ [QF]) (w:=on w tp K) ⟨o',w',es',hg'.trans e⟩
   have:step ⟨T,G⟩ (lone (b.at a (.inRegion ops (i :: rest) :: k)) (cs++ [QF]) (on w tp K))=_:=hst'
   rw[e2] at this
   cases this
  ·rw[Qd2 (hg'.trans e) rfl] at hst'
   injection hst' with e3
   obtain⟨q1,_,_⟩:=J2 (show lone ((b.at a (.inRegion ops (i :: rest) :: k)).raise chain) (cs++ [QF]) w'=_ from e3)
   have:=hp'.nice.stack.top.mode
   rw[←q1] at this
   rcases this with h|h<;>simp[Frame.raise,Frame.at] at h
theorem QmI{P:Program}{fr:Frame}{s:Sem Next}{v:Value}{w':World}{es:Array Event}(h:s.runT P w #[]=(.ok (.value v) w',es)): ∃es',stepG.apply P true fr cs none s w= .go (Conc.G (fr.finish v) cs) w' es':=by
 unfold stepG.apply
 simp only[if_true,h]
 exact⟨_,rfl⟩
theorem QmH{P:Program}{fr:Frame}{s:Sem Next}{w':World}{es:Array Event}(h:s.runT P w #[]=(.ok .skip w',es)): ∃es',stepG.apply P true fr cs none s w= .go (Conc.G (fr.finish undef) cs) w' es':=by
 unfold stepG.apply
 simp only[if_true,h]
 exact⟨_,rfl⟩
theorem Qit(E:Env T G d0 f R s0)(h:On T G d0 s0 sE (b.at a (.inRegion ops (i :: rest) :: k)) cs w)(ho:ops[i]? =some o)(hw:Region.wanted o (yielded ops a.tmps)=true)(hok:okOp T o.op=true){s:Sem Value}(hs:execOp a.eval o=(do pure (.value (←s)))):
 ∃tp K v w2,s.run ⟨T,G⟩ (on w tp K)= .ok v w2∧On T G d0 s0 sE (b.at (a.put o.dst v) (.inRegion ops rest :: k)) cs w2:=by
 obtain⟨tp,K,x,w2,s',h1,h2,h3,h4,h5⟩:=Qf1 E h ho hw hok
 have hex:(execOp a.eval o).run ⟨T,G⟩ (on w tp K)=(match s.run ⟨T,G⟩ (on w tp K) with| .ok v w=> .ok (.value v) w| .halt x w=> .halt x w):=by
  rw[hs]
  have e:=Sem.run_bind ⟨T,G⟩ (on w tp K) s (fun v=>pure (Next.value v))
  refine e.trans ?_
  cases s.run ⟨T,G⟩ (on w tp K)<;>rfl
 rw[hex] at h1
 cases hr:s.run ⟨T,G⟩ (on w tp K) with
 |halt x w=>rw[hr] at h1;cases h1
 |ok v w3=>
  rw[hr] at h1
  injection h1 with e1 e2
  subst e1 e2
  have hfin:(b.at a (.inRegion ops (i :: rest) :: k)).finish v=b.at (a.put o.dst v) (.inRegion ops rest :: k):=by
   rw[Frame.finish_at,ho];rfl
  have hg:=stepG_op (P:=⟨T,G⟩) (b:=b) (k:=k) (cs:=cs++ [QF]) (w:=on w tp K) (rest:=rest) ho hw
  have hrt:(execOp a.eval o).runT ⟨T,G⟩ (on w tp K) #[]=(.ok (.value v) w3,(execOp a.eval o).events ⟨T,G⟩ (on w tp K) #[]):=by rw[Sem.runT_eq,hex,hr]
  obtain⟨es',he⟩:=QmI (fr:=b.at a (.inRegion ops (i :: rest) :: k)) (cs:=cs++ [QF]) hrt
  have:s'=⟨b.at (a.put o.dst v) (.inRegion ops rest :: k),cs,w3⟩:=h5 _ ⟨es',by rw[←hfin];exact hg.trans he⟩
  subst this
  exact⟨tp,K,v,w3,hr,w3.tape,w3.drawn,h2,.inr h4⟩
theorem QpE(E:Env T G d0 f R s0)(h:On T G d0 s0 sE (b.at a (.inRegion ops (i :: rest) :: k)) cs w)(ho:ops[i]? =some o)(hw:Region.wanted o (yielded ops a.tmps)=true)(hok:okOp T o.op=true){s:Sem Unit}(hs:execOp a.eval o=(do s;pure .skip)):
 ∃tp K w2,s.run ⟨T,G⟩ (on w tp K)= .ok () w2∧On T G d0 s0 sE (b.at (a.put o.dst undef) (.inRegion ops rest :: k)) cs w2:=by
 obtain⟨tp,K,x,w2,s',h1,h2,h3,h4,h5⟩:=Qf1 E h ho hw hok
 have hex:(execOp a.eval o).run ⟨T,G⟩ (on w tp K)=(match s.run ⟨T,G⟩ (on w tp K) with| .ok _ w=> .ok .skip w| .halt x w=> .halt x w):=by
  rw[hs]
  have e:=Sem.run_bind ⟨T,G⟩ (on w tp K) s (fun _=>pure Next.skip)
  refine e.trans ?_
  cases s.run ⟨T,G⟩ (on w tp K)<;>rfl
 rw[hex] at h1
 cases hr:s.run ⟨T,G⟩ (on w tp K) with
 |halt x w=>rw[hr] at h1;cases h1
 |ok v w3=>
  rw[hr] at h1
  injection h1 with e1 e2
  subst e1 e2
  have hfin:(b.at a (.inRegion ops (i :: rest) :: k)).finish undef=b.at (a.put o.dst undef) (.inRegion ops rest :: k):=by
   rw[Frame.finish_at,ho];rfl
  have hg:=stepG_op (P:=⟨T,G⟩) (b:=b) (k:=k) (cs:=cs++ [QF]) (w:=on w tp K) (rest:=rest) ho hw
  have hrt:(execOp a.eval o).runT ⟨T,G⟩ (on w tp K) #[]=(.ok .skip w3,(execOp a.eval o).events ⟨T,G⟩ (on w tp K) #[]):=by rw[Sem.runT_eq,hex,hr]
  obtain⟨es',he⟩:=QmH (fr:=b.at a (.inRegion ops (i :: rest) :: k)) (cs:=cs++ [QF]) hrt
  have:s'=⟨b.at (a.put o.dst undef) (.inRegion ops rest :: k),cs,w3⟩:=h5 _ ⟨es',by rw[←hfin];exact hg.trans he⟩
  subst this
  exact⟨tp,K,w3,hr,w3.tape,w3.drawn,h2,.inr h4⟩
end
end Go.Proofs.YtgaimkihacljdaaGreat
/- What an operation has found that has not ended the run; the steps between. (Round C) -/
namespace Go.Proofs.YtgaimkihacljdaaGreat
section
variable {P : Program} {w w' : World} {t ti : TypeId} {u v x : Value}
theorem XA{α β:Type}{s:Sem α}{f:α→Sem β}{b:β}(h:(s>>= f).run P w= .ok b w'): ∃a w1,s.run P w= .ok a w1∧(f a).run P w1= .ok b w':=by
 rw[Sem.run_bind] at h
 cases hs:s.run P w with
 |ok a w1=>rw[hs] at h;exact⟨a,w1,rfl,h⟩
 |halt y w1=>rw[hs] at h;cases h
theorem JA{α:Type}{a b:α}(h:(pure a:Sem α).run P w= .ok b w'):b=a∧w'=w:=by
 injection h with h1 h2
 exact⟨h1.symm,h2.symm⟩
theorem Qfh{d:TypeDesc}{e:TypeDesc}(hu:P.underlying t=some d)(h:(underlying t).run P w= .ok e w'):e=d∧w'=w:=by
 unfold underlying at h
 obtain⟨p,w1,h1,h2⟩:=XA h
 injection h1 with h1 h3
 subst h1 h3
 rw[hu] at h2
 exact JA h2
theorem Qvo{i:TypeInfo}{n:Nat}(hi:P.info? t=some i)(h:(sizeOf t).run P w= .ok n w'):n=i.size∧w'=w:=by
 unfold sizeOf typeInfo at h
 obtain⟨j,w1,h1,h2⟩:=XA h
 obtain⟨p,w2,h3,h4⟩:=XA h1
 injection h3 with h3 h5
 subst h3 h5
 rw[hi] at h4
 obtain⟨rfl,rfl⟩:=JA h4
 exact JA h2
theorem QiX{ty:TypeId}(hu:P.underlying t=some (.slice ti))(h:(Builtin.len_ #[t] ty #[v]).run P w= .ok u w'): ∃A n c,v= .slice A n c∧u= .int .i64 n∧w'=w:=by
 unfold Builtin.len_ at h
 obtain⟨d,w1,h1,h2⟩:=XA h
 obtain⟨rfl,rfl⟩:=Qfh hu h1
 cases v<;>first
  |(cases h2;done)
  |(obtain⟨e1,e2⟩:=JA h2
    exact⟨_,_,_,rfl,e1,e2⟩)
theorem QjS{α:Type}{k:IntKind}{y z:Int}{c:BoundsCode}{a:α}(h:(boundsPanic k y z c:Sem α).run P w= .ok a w'):False:=by
 unfold boundsPanic at h
 extract_lets jp at h
 have hj: ∀b w1,(jp b).run P w1≠ .ok a w':=fun b w1 e=>by cases e
 split at h
 ·obtain⟨_,_,_,h2⟩:=XA h
  exact hj _ _ h2
 ·obtain⟨_,_,_,h2⟩:=XA h
  exact hj _ _ h2
theorem QiW{e:TypeId}{i:TypeInfo}(hu:P.underlying t=some (.slice e))(hi:P.info? e=some i)(hs:i.size=1){A:Option Addr}{n c j:Nat}(h:(Instr.indexAt t (.slice A n c) (.int .i64 j)).run P w= .ok u w'):
 j<n∧∃ad,A=some ad∧u= .pointer (some (ad.add j))∧w'=w:=by
 unfold Instr.indexAt at h
 obtain⟨d,w1,h1,h2⟩:=XA h
 obtain⟨rfl,rfl⟩:=JA h1
 dsimp only at h2
 obtain⟨d2,w3,h5,h6⟩:=XA h2
 obtain⟨rfl,rfl⟩:=Qfh hu h5
 dsimp only at h6
 obtain⟨q,w4,h7,h8⟩:=XA h6
 obtain⟨rfl,rfl⟩:=JA h7
 dsimp only at h8
 obtain⟨d3,w5,h9,h10⟩:=XA h8
 obtain⟨rfl,rfl⟩:=Qfh hu h9
 cases A with
 |none=>exact(QjS h10).elim
 |some ad=>
  dsimp only at h10
  split at h10
  ·rename_i hj
   obtain⟨sz,w6,h11,h12⟩:=XA h10
   obtain⟨rfl,rfl⟩:=Qvo hi h11
   obtain⟨e1,e2⟩:=JA h12
   refine⟨by omega,ad,rfl,?_,e2⟩
   rw[e1,hs]
   simp
  ·split at h10
   ·cases h10
   ·exact(QjS h10).elim
theorem QmG{d:TypeDesc}{b:Bool}(hu:P.underlying t=some d)(hd: ∀fs,d≠ .struct fs)(hd2: ∀n e,d≠ .array n e)(h:(isAgg t).run P w= .ok b w'):b=false∧w'=w:=by
 unfold isAgg at h
 obtain⟨e,w1,h1,h2⟩:=XA h
 obtain⟨rfl,rfl⟩:=Qfh hu h1
 cases e<;>first
  |exact absurd rfl (hd _)
  |exact absurd rfl (hd2 _ _)
  |exact JA h2
theorem Qqo{d:TypeDesc}{K:Code→Prop}{V:FuncId→Prop}(hcl:QaU K V w)(hu:P.underlying t=some d)(hd: ∀fs,d≠ .struct fs)(hd2: ∀n e,d≠ .array n e){a:Addr}(h:(Instr.loadAt t (.pointer (some a))).run P w= .ok u w'):w.cell? a=some u∧w'=w:=by
 unfold Instr.loadAt at h
 obtain⟨a',w1,h1,h2⟩:=XA h
 obtain⟨rfl,rfl⟩:=JA h1
 unfold loadVar at h2
 obtain⟨b,w2,h3,h4⟩:=XA h2
 obtain⟨rfl,rfl⟩:=QmG hu hd hd2 h3
 simp only[Bool.false_eq_true,if_false] at h4
 have hr:Rel ⟨0,w2.tape,w2.drawn,w2.drawn⟩ (fun _=>none) K V (fun _=>False) w2 w2:=hcl.rel 0 w2.tape w2.tape w2.drawn w2.drawn (fun i h=>absurd h (by omega))
 simp only[load,Sem.run] at h4
 cases hc:w2.cell? a' with
 |some x=>
  rw[hc] at h4
  injection h4 with e1 e2
  exact⟨congrArg some e1,e2.symm⟩
 |none=>
  rw[hc] at h4
  cases hf:w2.farLoad P a' (Mode.plain == .atomic) with
  |ok x=>exact absurd hf (QfT P hr x)
  |error x=>simp only[hf] at h4;cases h4
theorem QiY{ty:TypeId}{x y:Operand}(h:(do eqGuard .or ty x y u (.int .i64 0);binOp .or ty u (.int .i64 0):Sem Value).run P w= .ok v w'): ∃z,u= .int .i64 z∧w'=w:=by
 obtain⟨_,w1,h1,h2⟩:=XA h
 have e1:w1=w:=by
  unfold eqGuard at h1
  exact(JA h1).2
 subst e1
 unfold binOp at h2
 cases u<;>first
  |(cases h2;done)
  |(dsimp only at h2
    split at h2
    ·cases h2
    ·rename_i k z hk
     have:k= .i64:=by simpa using hk
     subst this
     exact⟨z,rfl,(JA h2).2⟩)
end
end Go.Proofs.YtgaimkihacljdaaGreat
/- The stand-in's body of the one function that differs; its way, from its entry. (Round C) -/
namespace Go.Proofs.YtgaimkihacljdaaGreat
section
variable {T : Tables} {G : Array Func} {d0 : FuncId} {s0 sE : Cf} {f : FuncId} {R : Value → World → Prop} {b : Frame} {a : Act} {k : List Item} {cs : List Frame} {w w' : World} {ops : Array Oper} {i : Nat} {rest : List Nat} {o : Oper}
theorem On.to(h:On T G d0 s0 sE b cs w){tp:Nat→Question→Nat}{j:Nat}(e:w=on w' tp j):On T G d0 s0 sE b cs w':=by
 subst e
 exact h
theorem Qb7(E:Env T G d0 f R s0){x y:Code}(h:On T G d0 s0 sE (b.at a (.code (.seq x y) :: k)) cs w):On T G d0 s0 sE (b.at a (.code x :: .code y :: k)) cs w:=
 Qao E h rfl fun _=>⟨#[],rfl⟩
theorem Qb5(E:Env T G d0 f R s0){id:Nat}(h:On T G d0 s0 sE (b.at a (.code (.region id ops false) :: k)) cs w):On T G d0 s0 sE (b.at a (.inRegion ops (List.range ops.size) :: k)) cs w:=
 Qao E h rfl fun _=>⟨#[],rfl⟩
theorem Qb6(E:Env T G d0 f R s0)(h:On T G d0 s0 sE (b.at a (.inRegion ops [] :: k)) cs w):On T G d0 s0 sE (b.at a k) cs w:=
 Qao E h rfl fun _=>⟨#[],rfl⟩
theorem Qf2(E:Env T G d0 f R s0)(h:On T G d0 s0 sE (b.at a (.code .skip :: k)) cs w):On T G d0 s0 sE (b.at a k) cs w:=
 Qao E h rfl fun _=>⟨#[],rfl⟩
theorem Qdz(E:Env T G d0 f R s0){c:Operand}{x y:Code}{q:Bool}(hq:a.eval c= .bool q)(h:On T G d0 s0 sE (b.at a (.code (.cond c x y) :: k)) cs w):On T G d0 s0 sE (b.at a (.code (if q then x else y) :: k)) cs w:=
 Qao E h rfl fun w=>⟨#[],by
  have e:=Frame.eval_at b a (.code (.cond c x y) :: k) c
  have e2:(b.at a (.code (.cond c x y) :: k)).eval c= .bool q:=e.trans hq
  simp only[Frame.at] at e2⊢
  simp only[stepG,stepG.exec,Conc.G,e2]⟩
theorem Qir(E:Env T G d0 f R s0){id:Nat}{x:Code}(h:On T G d0 s0 sE (b.at a (.code (.block id x) :: k)) cs w):On T G d0 s0 sE (b.at a (.code x :: .inBlock id :: k)) cs w:=
 Qao E h rfl fun _=>⟨#[],rfl⟩
theorem Qis(E:Env T G d0 f R s0){x:Code}(h:On T G d0 s0 sE (b.at a (.code (.loop x) :: k)) cs w):On T G d0 s0 sE (b.at a (.code x :: .inLoop x :: k)) cs w:=
 Qao E h rfl fun _=>⟨#[],rfl⟩
theorem Qf0(E:Env T G d0 f R s0){x:Code}(h:On T G d0 s0 sE (b.at a (.inLoop x :: k)) cs w):On T G d0 s0 sE (b.at a (.code x :: .inLoop x :: k)) cs w:=
 Qao E h rfl fun _=>⟨#[],rfl⟩
theorem Qxw(E:Env T G d0 f R s0){x:Code}{id:Nat}(h:On T G d0 s0 sE (b.at a (.code (.exit id) :: .inLoop x :: .inBlock id :: k)) cs w):On T G d0 s0 sE (b.at a k) cs w:=
 Qao E h rfl fun w=>⟨#[],by
  simp[stepG,stepG.exec,Frame.at,exitTo,Conc.G]⟩
theorem QpA(E:Env T G d0 f R s0)(h:On T G d0 s0 sE (b.at a []) cs w):On T G d0 s0 sE { b.at a [] with mode:= .returning} cs w:=
 Qao E h rfl fun _=>⟨#[],rfl⟩
theorem QpC(E:Env T G d0 f R s0){why:String}(h:On T G d0 s0 sE (b.at a (.code (.refuse why) :: k)) cs w):False:=by
 obtain⟨tp,j,hp,hc⟩:=h
 obtain⟨tp1,K,s',hp',hb,hst⟩:=fwd E hp (Qgt rfl)
 obtain⟨o,w1,e⟩:=QcD (Q:=⟨T,G⟩) (fr:=b.at a (.code (.refuse why) :: k)) (cs:=cs++ [QF]) (w:=on w tp1 K) ⟨_,_,_,rfl⟩
 have e2:step ⟨T,G⟩ (lone (b.at a (.code (.refuse why) :: k)) (cs++ [QF]) (on w tp1 K))=_:=hst
 rw[e] at e2
 cases e2
theorem Qxx(E:Env T G d0 f R s0)(h:On T G d0 s0 sE (b.at a (.inRegion ops (i :: rest) :: k)) cs w)(ho:ops[i]? =some o)(hw:Region.wanted o (yielded ops a.tmps)=true)(hok:okOp T o.op=true){v:Value}{w':World}
 (hs: ∀tp K,∃s:Sem Value,execOp a.eval o=(do pure (.value (←s)))∧s.run ⟨T,G⟩ (on w tp K)= .ok v (on w' tp K)):On T G d0 s0 sE (b.at (a.put o.dst v) (.inRegion ops rest :: k)) cs w':=by
 obtain⟨s,hs1,_⟩:=hs (fun _ _=>0) 0
 obtain⟨tp,K,v1,w2,h1,h2⟩:=Qit E h ho hw hok hs1
 obtain⟨s',hs2,hr⟩:=hs tp K
 have:execOp a.eval o=(do pure (.value (←s')):Sem Next):=hs2
 have e:(execOp a.eval o).run ⟨T,G⟩ (on w tp K)= .ok (.value v) (on w' tp K):=by rw[hs2,Sem.run_bind,hr];rfl
 have e2:(execOp a.eval o).run ⟨T,G⟩ (on w tp K)= .ok (.value v1) w2:=by rw[hs1,Sem.run_bind,h1];rfl
 rw[e] at e2
 injection e2 with e3 e4
 injection e3 with e3
 subst e3
 exact h2.to e4.symm
end
end Go.Proofs.YtgaimkihacljdaaGreat
/- The stand-in's body of the one function that differs: its text; its way from its entry to its loop. (Round C) -/
namespace Go.Proofs.YtgaimkihacljdaaGreat
def sop(dst:Option Tmp)(op:Op):Oper:={ dst,op,type:=0,pos:= "",after:=#[],guard:=none}
section
variable (tI tB tW ti tb : TypeId)
def sR0:Array Oper:=#[sop (some 25) (.assign (.const (.pointer none))),sop none (.nilCheck (.tmp 25)),sop (some 2) (.call ⟨.builtin .len,#[.tmp 0],#[tI]⟩),sop (some 3) (.call ⟨.builtin .len,#[.tmp 1],#[tI]⟩),
 sop (some 5) (.call ⟨.builtin .max,#[.tmp 2,.tmp 3],#[ti,ti]⟩),sop (some 7) (.binOp .leq ti (.tmp 5) (.const (.int .i64 1048576)) ti),sop (some 8) (.binOp .gtr ti (.tmp 5) (.const (.int .i64 0)) ti)]
def sR1:Array Oper:=#[sop none (.box tI (.const (.agg #[]))),sop none (.box tI (.const (.agg #[]))),sop (some 4) (.makeSlice tB (.tmp 5) (.tmp 5)),sop none (.box tB (.const (.agg #[]))),sop none (.box tW (.const (.agg #[]))),
 sop none (.box ti (.const (.agg #[]))),sop (some 6) (.assign (.const (.int .i64 0)))]
def sR2:Array Oper:=#[sop none (.box ti (.const (.agg #[]))),sop (some 9) (.binOp .add ti (.tmp 9) (.const (.int .i64 64)) ti)]
def sRA:Array Oper:=#[sop (some 9) (.assign (.const (.int .i64 0)))]
def sRB:Array Oper:=#[sop (some 7) (.binOp .lss ti (.tmp 9) (.tmp 5) ti)]
def sBox:Code:= .seq (.region 8 (sRB ti) false) (.seq (.cond (.tmp 7) .skip (.exit 1)) (.region 2 (sR2 ti) false))
def sR3:Array Oper:=#[sop (some 7) (.binOp .lss ti (.tmp 6) (.tmp 5) ti),sop (some 8) (.binOp .lss ti (.tmp 6) (.tmp 2) ti),sop (some 9) (.binOp .lss ti (.tmp 6) (.tmp 3) ti)]
def sR4:Array Oper:=#[sop (some 9) (.indexAddr tI (.tmp 0) (.tmp 6)),sop (some 9) (.load ti (.tmp 9)),sop (some 10) (.indexAddr tI (.tmp 1) (.tmp 6)),sop (some 10) (.load ti (.tmp 10)),
 sop none (.binOp .or ti (.tmp 9) (.const (.int .i64 0)) ti),sop none (.binOp .or ti (.tmp 10) (.const (.int .i64 0)) ti),sop (some 11) (.binOp .neq ti (.tmp 9) (.tmp 10) ti)]
def sR5:Array Oper:=#[sop (some 11) (.assign (.const (.bool true)))]
def sR6:Array Oper:=#[sop (some 9) (.indexAddr tB (.tmp 4) (.tmp 6)),sop none (.store tb (.tmp 9) (.tmp 11)),sop (some 6) (.binOp .add ti (.tmp 6) (.const (.int .i64 1)) ti)]
def JI:Code:= .seq (.region 3 (sR3 ti) false) (.seq (.cond (.tmp 7) .skip (.exit 0)) (.seq (.cond (.tmp 8) (.cond (.tmp 9) (.region 4 (sR4 tI ti) false) (.region 5 sR5 false)) (.region 5 sR5 false)) (.region 6 (sR6 tB ti tb) false)))
def QcE:Code:= .seq (.region 0 (sR0 tI ti) false) (.seq (.cond (.tmp 7) .skip (.refuse "long")) (.seq (.region 1 (sR1 tI tB tW ti) false) (.seq (.region 7 sRA false) (.seq (.block 1 (.loop (sBox ti))) (.block 0 (.loop (JI tI tB ti tb)))))))
structure Ty(P:Program)(ii ib:TypeInfo):Prop where
 uI:P.underlying tI=some (.slice ti)
 uB:P.underlying tB=some (.slice tb)
 ui:P.underlying ti=some (.int .i64)
 ub:P.underlying tb=some .bool
 ni:P.info? ti=some ii
 nb:P.info? tb=some ib
 si:ii.size=1
 sb:ib.size=1
 zb:ib.zero=some (.bool false)
 bb:ib.bytes=1
def made(n:Nat)(arr:Array Value):Array Obj:=
 #[.cells #[] tI,.cells #[] tI,.cells arr tb,.cells #[] tB,.cells #[] tW,.cells #[] ti]++Array.replicate ((n+63)/64) (.cells #[] ti)
def fw(w:World)(n:Nat)(arr:Array Value):World:={ w with heap:=w.heap++made tI tB tW ti tb n arr}
end
def bF(d:FuncId):Frame:={ fn:=d,tmps:=#[],todo:=[],defers:=[],mode:= .run,kind:= .normal}
theorem J0(T:Array Value)(d i:Nat)(v:Value):(T.setIfInBounds d v).getD i undef=if i=d∧d<T.size then v else T.getD i undef:=by
 simp only[Array.getD_eq_getD_getElem?,Array.getElem?_setIfInBounds]
 by_cases e:d=i
 ·subst e
  by_cases h:d<T.size
  ·simp[h]
  ·simp[h]
 ·have e': ¬i=d:=fun x=>e x.symm
  simp[e,e']
section
variable {tI tB tW ti tb : TypeId} {ii ib : TypeInfo}
variable {T : Tables} {G : Array Func} {d d0 : FuncId} {s0 sE : Cf} {f : FuncId} {R : Value → World → Prop} {cs : List Frame} {w : World}
def putO(V:Array Value):Option Tmp→Value→Array Value
 |some d,v=>V.setIfInBounds d v
 |none,_=>V
section
variable {V : Array Value} {ops : Array Oper} {i : Nat} {rest : List Nat} {k : List Item} {dst : Option Tmp} {op : Op}
theorem QhE(ρ:Operand→Value)(t:TypeId)(x:Operand):execOp ρ (sop dst (.call ⟨.builtin .len,#[x],#[t]⟩))=(do pure (.value (←Builtin.len_ #[t] 0 #[ρ x]))):=by
 have e:(#[x].map ρ)= #[ρ x]:=by simp
 show(do let d←resolve ρ ⟨.builtin .len,#[x],#[t]⟩ 0;invoke d.target d.args:Sem Next)=_
 unfold resolve
 simp only[e]
 rfl
theorem Qm8(ρ:Operand→Value)(t:TypeId)(x y:Operand):execOp ρ (sop dst (.call ⟨.builtin .max,#[x,y],#[t,t]⟩))=(do pure (.value (←Builtin.max_ #[t,t] 0 #[ρ x,ρ y]))):=by
 have e:(#[x,y].map ρ)= #[ρ x,ρ y]:=by simp
 show(do let d←resolve ρ ⟨.builtin .max,#[x,y],#[t,t]⟩ 0;invoke d.target d.args:Sem Next)=_
 unfold resolve
 simp only[e]
 rfl
theorem Qtz(v:Value):(⟨V,[]⟩:Act).put dst v=⟨putO V dst v,[]⟩:=by cases dst<;>rfl
theorem QaS(E:Env T G d0 f R s0)(op:Op)(dst:Option Tmp)(s:Sem Value)(h:On T G d0 s0 sE ((bF d).at ⟨V,[]⟩ (.inRegion ops (i :: rest) :: k)) cs w)(ho:ops[i]? =some (sop dst op))(hok:okOp T op=true)
 (hs:execOp (⟨V,[]⟩:Act).eval (sop dst op)=(do pure (.value (←s)))):
 ∃tp K v w2,s.run ⟨T,G⟩ (on w tp K)= .ok v w2∧On T G d0 s0 sE ((bF d).at ⟨putO V dst v,[]⟩ (.inRegion ops rest :: k)) cs w2:=by
 obtain⟨tp,K,v,w2,h1,h2⟩:=Qit E h ho rfl hok hs
 have e:=Qtz (V:=V) (dst:=dst) v
 exact⟨tp,K,v,w2,h1,by rw[←e];exact h2⟩
theorem QaR(E:Env T G d0 f R s0)(op:Op)(dst:Option Tmp)(s:Sem Value)(v:Value)(h:On T G d0 s0 sE ((bF d).at ⟨V,[]⟩ (.inRegion ops (i :: rest) :: k)) cs w)(ho:ops[i]? =some (sop dst op))(hok:okOp T op=true)
 (hs:execOp (⟨V,[]⟩:Act).eval (sop dst op)=(do pure (.value (←s))))(hr: ∀w:World,s.run ⟨T,G⟩ w= .ok v w):
 On T G d0 s0 sE ((bF d).at ⟨putO V dst v,[]⟩ (.inRegion ops rest :: k)) cs w:=by
 obtain⟨tp,K,v1,w2,h1,h2⟩:=QaS E op dst s h ho hok hs
 rw[hr] at h1
 injection h1 with e1 e2
 subst e1
 exact h2.to e2.symm
theorem Qdh(E:Env T G d0 f R s0)(t:TypeId)(dst:Option Tmp)(h:On T G d0 s0 sE ((bF d).at ⟨V,[]⟩ (.inRegion ops (i :: rest) :: k)) cs w)(ho:ops[i]? =some (sop dst (.box t (.const (.agg #[]))))):
 On T G d0 s0 sE ((bF d).at ⟨putO V dst (.pointer (some ⟨w.heap.size,0,none⟩)),[]⟩ (.inRegion ops rest :: k)) cs (w.alloc (.cells #[] t)):=by
 obtain⟨tp,K,v1,w2,h1,h2⟩:=QaS E (.box t (.const (.agg #[]))) dst (Instr.box t (.agg #[])) h ho rfl rfl
 have e:(Instr.box t (.agg #[])).run ⟨T,G⟩ (on w tp K)= .ok (.pointer (some ⟨w.heap.size,0,none⟩)) (on (w.alloc (.cells #[] t)) tp K):=rfl
 rw[e] at h1
 injection h1 with e1 e2
 subst e1
 exact h2.to e2.symm
end
theorem QvS(E:Env T G d0 f R s0)(hT:Ty tI tB ti tb ⟨T,G⟩ ii ib){V:Array Value}(hV:25≤V.size)(h:On T G d0 s0 sE ((bF d).at ⟨V,[]⟩ [.code (QcE tI tB tW ti tb)]) cs w):
 V.size=25∧∃A la ca B lb cb,V.getD 0 undef= .slice A la ca∧V.getD 1 undef= .slice B lb cb∧max la lb≤1048576∧∃V',V'.size=25∧V'.getD 0 undef= .slice A la ca∧V'.getD 1 undef= .slice B lb cb∧V'.getD 2 undef= .int .i64 la∧V'.getD 3 undef= .int .i64 lb∧
  V'.getD 5 undef= .int .i64 (max la lb:Nat)∧V'.getD 8 undef= .bool (decide (0<max la lb))∧
  On T G d0 s0 sE ((bF d).at ⟨V',[]⟩ [.code (.seq (.region 1 (sR1 tI tB tW ti) false) (.seq (.region 7 sRA false) (.seq (.block 1 (.loop (sBox ti))) (.block 0 (.loop (JI tI tB ti tb))))))]) cs w:=by
 have h1:=Qb5 E (Qb7 E h)
 have h2:=QaR E (.assign (.const (.pointer none))) (some 25) (pure (.pointer none)) (.pointer none) h1 rfl rfl rfl (fun _=>rfl)
 have hsz:V.size=25:=by
  refine Classical.byContradiction fun hne=>?_
  have hlt:25<V.size:=by omega
  obtain⟨tp,K,x,w2,s',e1,_⟩:=Qf1 (o:=sop none (.nilCheck (.tmp 25))) E h2 rfl rfl rfl
  have e2:(⟨putO V (some 25) (.pointer none),[]⟩:Act).eval (.tmp 25)= .pointer none:=by
   show(V.setIfInBounds 25 (.pointer none)).getD 25 undef=_
   rw[J0,if_pos ⟨rfl,hlt⟩]
  have e3:execOp (⟨putO V (some 25) (.pointer none),[]⟩:Act).eval (sop none (.nilCheck (.tmp 25)))=runtimePanic .nilDeref:=by
   unfold execOp sop
   simp only[e2]
  rw[e3] at e1
  cases e1
 have h2':On T G d0 s0 sE ((bF d).at ⟨V,[]⟩ (.inRegion (sR0 tI ti) [1,2,3,4,5,6] :: [.code (.seq (.cond (.tmp 7) .skip (.refuse "long")) (.seq (.region 1 (sR1 tI tB tW ti) false) (.seq (.region 7 sRA false) (.seq (.block 1 (.loop (sBox ti))) (.block 0 (.loop (JI tI tB ti tb)))))))])) cs w:=by
  have e:putO V (some 25) (.pointer none)=V:=by
   show V.setIfInBounds 25 _=V
   rw[Array.setIfInBounds_eq_of_size_le (by omega)]
  rw[e] at h2
  exact h2
 have hu:(⟨V,[]⟩:Act).eval (.tmp 25)=undef:=by
  show V.getD 25 undef=undef
  rw[Array.getD_eq_getD_getElem?,Array.getElem?_eq_none (by omega)]
  rfl
 have h3:=QaR E (.nilCheck (.tmp 25)) none (pure undef) undef h2' rfl rfl (by unfold execOp sop;simp only[hu];rfl) (fun _=>rfl)
 obtain⟨tp,K,v,w2,e,h4⟩:=QaS E (.call ⟨.builtin .len,#[.tmp 0],#[tI]⟩) (some 2) (Builtin.len_ #[tI] 0 #[V.getD 0 undef]) h3 rfl rfl (QhE _ _ _)
 obtain⟨A,la,ca,ha,rfl,rfl⟩:=QiX hT.uI e
 replace h4:=h4.to (w':=w) (tp:=tp) (j:=K) rfl
 obtain⟨tp,K,v,w2,e,h5⟩:=QaS E (.call ⟨.builtin .len,#[.tmp 1],#[tI]⟩) (some 3) (Builtin.len_ #[tI] 0 #[(⟨putO (putO V none undef) (some 2) (.int .i64 la),[]⟩:Act).eval (.tmp 1)]) h4 rfl rfl (QhE _ _ _)
 obtain⟨B,lb,cb,hb,rfl,rfl⟩:=QiX hT.uI e
 replace h5:=h5.to (w':=w) (tp:=tp) (j:=K) rfl
 have hb':V.getD 1 undef= .slice B lb cb:=by
  have:(⟨putO (putO V none undef) (some 2) (.int .i64 la),[]⟩:Act).eval (.tmp 1)=V.getD 1 undef:=by
   show(V.setIfInBounds 2 _).getD 1 undef=_
   rw[J0,if_neg (by omega)]
  rw[←this];exact hb
 obtain⟨V3,hV3⟩: ∃V3,putO (putO (putO V none undef) (some 2) (.int .i64 la)) (some 3) (.int .i64 lb)=V3:=⟨_,rfl⟩
 rw[hV3] at h5
 have s3:V3.size=25:=by rw[←hV3];simp[putO,hsz]
 have g: ∀i,V3.getD i undef=if i=3 then .int .i64 lb else if i=2 then .int .i64 la else V.getD i undef:=by
  intro i
  rw[←hV3]
  simp only[putO,J0,Array.size_setIfInBounds,hsz]
  simp
 have hmx: ∀w:World,(Builtin.max_ #[ti,ti] 0 #[V3.getD 2 undef,V3.getD 3 undef]).run ⟨T,G⟩ w= .ok (.int .i64 (max la lb:Nat)) w:=by
  intro w
  rw[g 2,g 3,if_neg (by omega),if_pos rfl,if_pos rfl]
  show Result.ok (Value.int .i64 (if(lb:Int)> (la:Int) then(lb:Int) else la)) w=_
  congr 2
  split<;>omega
 have h6:=QaR E (.call ⟨.builtin .max,#[.tmp 2,.tmp 3],#[ti,ti]⟩) (some 5) _ _ h5 rfl rfl (Qm8 _ _ _ _) hmx
 obtain⟨V4,hV4⟩: ∃V4,putO V3 (some 5) (.int .i64 (max la lb:Nat))=V4:=⟨_,rfl⟩
 rw[hV4] at h6
 have s4:V4.size=25:=by rw[←hV4];simp[putO,s3]
 have g4: ∀i,V4.getD i undef=if i=5 then .int .i64 (max la lb:Nat) else V3.getD i undef:=by
  intro i
  rw[←hV4]
  simp only[putO,J0,s3]
  simp
 have e5:V4.getD 5 undef= .int .i64 (max la lb:Nat):=by rw[g4,if_pos rfl]
 have h7:=QaR E (.binOp .leq ti (.tmp 5) (.const (.int .i64 1048576)) ti) (some 7) (do eqGuard .leq ti (.tmp 5) (.const (.int .i64 1048576)) (V4.getD 5 undef) (.int .i64 1048576);binOp .leq ti (V4.getD 5 undef) (.int .i64 1048576)) (.bool (decide (max la lb≤1048576))) h6 rfl rfl rfl
  (fun w=>by rw[e5];show Result.ok (Value.bool (decide (((max la lb:Nat):Int)≤1048576))) w=_;congr 2;exact decide_eq_decide.2 (by omega))
 obtain⟨V5,hV5⟩: ∃V5,putO V4 (some 7) (.bool (decide (max la lb≤1048576)))=V5:=⟨_,rfl⟩
 rw[hV5] at h7
 have s5:V5.size=25:=by rw[←hV5];simp[putO,s4]
 have g5: ∀i,V5.getD i undef=if i=7 then .bool (decide (max la lb≤1048576)) else V4.getD i undef:=by
  intro i
  rw[←hV5]
  simp only[putO,J0,s4]
  simp
 have e5':V5.getD 5 undef= .int .i64 (max la lb:Nat):=by rw[g5,if_neg (by omega)];exact e5
 have h8:=QaR E (.binOp .gtr ti (.tmp 5) (.const (.int .i64 0)) ti) (some 8) (do eqGuard .gtr ti (.tmp 5) (.const (.int .i64 0)) (V5.getD 5 undef) (.int .i64 0);binOp .gtr ti (V5.getD 5 undef) (.int .i64 0)) (.bool (decide (0<max la lb))) h7 rfl rfl rfl
  (fun w=>by rw[e5'];show Result.ok (Value.bool (decide (((max la lb:Nat):Int)>0))) w=_;congr 2;exact decide_eq_decide.2 (by omega))
 obtain⟨V6,hV6⟩: ∃V6,putO V5 (some 8) (.bool (decide (0<max la lb)))=V6:=⟨_,rfl⟩
 rw[hV6] at h8
 have s6:V6.size=25:=by rw[←hV6];simp[putO,s5]
 have g6: ∀i,V6.getD i undef=if i=8 then .bool (decide (0<max la lb)) else V5.getD i undef:=by
  intro i
  rw[←hV6]
  simp only[putO,J0,s5]
  simp
 have e7:(⟨V6,[]⟩:Act).eval (.tmp 7)= .bool (decide (max la lb≤1048576)):=by
  show V6.getD 7 undef=_
  rw[g6,if_neg (by omega),g5,if_pos rfl]
 have h9:=Qdz E e7 (Qb7 E (Qb6 E h8))
 have hle:max la lb≤1048576:=by
  refine Classical.byContradiction fun hn=>?_
  rw[if_neg (by simpa using hn)] at h9
  exact QpC E h9
 rw[if_pos (by simpa using hle)] at h9
 refine⟨hsz,A,la,ca,B,lb,cb,ha,hb',hle,V6,s6,?_,?_,?_,?_,?_,?_,Qf2 E h9⟩
 ·rw[g6,if_neg (by omega),g5,if_neg (by omega),g4,if_neg (by omega),g,if_neg (by omega),if_neg (by omega)];exact ha
 ·rw[g6,if_neg (by omega),g5,if_neg (by omega),g4,if_neg (by omega),g,if_neg (by omega),if_neg (by omega)];exact hb'
 ·rw[g6,if_neg (by omega),g5,if_neg (by omega),g4,if_neg (by omega),g,if_neg (by omega),if_pos rfl]
 ·rw[g6,if_neg (by omega),g5,if_neg (by omega),g4,if_neg (by omega),g,if_pos rfl]
 ·rw[g6,if_neg (by omega)];exact e5'
 ·rw[g6,if_pos rfl]
end
end Go.Proofs.YtgaimkihacljdaaGreat
/- The stand-in's body: its blocks. (Round C) -/
namespace Go.Proofs.YtgaimkihacljdaaGreat
section
variable {tI tB tW ti tb : TypeId} {ii ib : TypeInfo}
variable {T : Tables} {G : Array Func} {d d0 : FuncId} {s0 sE : Cf} {f : FuncId} {R : Value → World → Prop} {cs : List Frame} {w : World}
structure Tm(N:Nat)(A:Option Addr)(la ca:Nat)(B:Option Addr)(lb cb j:Nat)(V:Array Value):Prop where
 size:V.size=25
 xa:V.getD 0 undef= .slice A la ca
 xb:V.getD 1 undef= .slice B lb cb
 xla:V.getD 2 undef= .int .i64 la
 xlb:V.getD 3 undef= .int .i64 lb
 out:V.getD 4 undef= .slice (some ⟨N+2,0,none⟩) (max la lb) (max la lb)
 xn:V.getD 5 undef= .int .i64 (max la lb:Nat)
 xj:V.getD 6 undef= .int .i64 j
theorem QsO(n:Nat):madeCells #[.bool false] n=Array.replicate n (.bool false):=by
 apply Array.ext
 ·simp[madeCells]
 ·intro i h1 h2
  simp[madeCells,Nat.mod_one]
theorem QzO{N:Nat}{A:Option Addr}{la ca:Nat}{B:Option Addr}{lb cb j:Nat}{V:Array Value}(h:Tm N A la ca B lb cb j V){x:Nat}(hx:7≤x)(v:Value):Tm N A la ca B lb cb j (putO V (some x) v):=by
 have g: ∀i,i<7→(putO V (some x) v).getD i undef=V.getD i undef:=fun i hi=>by
  show(V.setIfInBounds x v).getD i undef=_
  rw[J0,if_neg (by omega)]
 exact⟨by show(V.setIfInBounds x v).size=_;simp[h.size],(g 0 (by omega)).trans h.xa,(g 1 (by omega)).trans h.xb,(g 2 (by omega)).trans h.xla,(g 3 (by omega)).trans h.xlb,(g 4 (by omega)).trans h.out,(g 5 (by omega)).trans h.xn,(g 6 (by omega)).trans h.xj⟩
theorem QzN{V:Array Value}(hV:V.size=25){x:Nat}(hx:x<25)(v:Value):(putO V (some x) v).getD x undef=v:=by
 show(V.setIfInBounds x v).getD x undef=v
 rw[J0,if_pos ⟨rfl,by omega⟩]
theorem QB0{V:Array Value}{x y:Nat}(hx:y≠x)(v:Value):(putO V (some x) v).getD y undef=V.getD y undef:=by
 show(V.setIfInBounds x v).getD y undef=_
 rw[J0,if_neg (by omega)]
theorem QAZ(E:Env T G d0 f R s0){V:Array Value}{ops:Array Oper}{i:Nat}{rest:List Nat}{k:List Item}{x y dst:Nat}{a b:Int}(h:On T G d0 s0 sE ((bF d).at ⟨V,[]⟩ (.inRegion ops (i :: rest) :: k)) cs w)(ho:ops[i]? =some (sop (some dst) (.binOp .lss ti (.tmp x) (.tmp y) ti)))(hx:V.getD x undef= .int .i64 a)(hy:V.getD y undef= .int .i64 b):
 On T G d0 s0 sE ((bF d).at ⟨putO V (some dst) (.bool (decide (a<b))),[]⟩ (.inRegion ops rest :: k)) cs w:=
 QaR E (.binOp .lss ti (.tmp x) (.tmp y) ti) (some dst) (do eqGuard .lss ti (.tmp x) (.tmp y) (V.getD x undef) (V.getD y undef);binOp .lss ti (V.getD x undef) (V.getD y undef)) _ h ho rfl rfl (fun w=>by rw[hx,hy];rfl)
theorem QBw(E:Env T G d0 f R s0){b:Frame}{a:Act}{id:Nat}{k k':List Item}(hk:exitTo id k=some k')(h:On T G d0 s0 sE (b.at a (.code (.exit id) :: k)) cs w):On T G d0 s0 sE (b.at a k') cs w:=
 Qao E h rfl fun _=>⟨#[],by
  simp[stepG,stepG.exec,Frame.at,hk,Conc.G]⟩
def fwb(tI tB tW ti tb:TypeId)(w:World)(n x:Nat):World:=
 { w with heap:=w.heap++(#[.cells #[] tI,.cells #[] tI,.cells (Array.replicate n (.bool false)) tb,.cells #[] tB,.cells #[] tW,.cells #[] ti]++Array.replicate x (.cells #[] ti))}
theorem QBv(n x:Nat):(fwb tI tB tW ti tb w n x).alloc (.cells #[] ti)=fwb tI tB tW ti tb w n (x+1):=by
 unfold fwb World.alloc
 congr 1
 rw[Array.replicate_succ,←Array.append_push,←Array.append_push]
theorem QBu(n:Nat):fwb tI tB tW ti tb w n ((n+63)/64)=fw tI tB tW ti tb w n (Array.replicate n (.bool false)):=rfl
structure Tb(N:Nat)(A:Option Addr)(la ca:Nat)(B:Option Addr)(lb cb x:Nat)(V:Array Value):Prop where
 tm:Tm N A la ca B lb cb 0 V
 x9:V.getD 9 undef= .int .i64 (64*x:Nat)
theorem QCa(E:Env T G d0 f R s0){A:Option Addr}{la ca:Nat}{B:Option Addr}{lb cb:Nat}(hle:max la lb≤1048576){K:List Item}: ∀(m x:Nat) (V:Array Value),x+m=(max la lb+63)/64→Tb w.heap.size A la ca B lb cb x V→
 On T G d0 s0 sE ((bF d).at ⟨V,[]⟩ (.code (sBox ti) :: .inLoop (sBox ti) :: .inBlock 1 :: K)) cs (fwb tI tB tW ti tb w (max la lb) x)→
 ∃V',Tm w.heap.size A la ca B lb cb 0 V'∧On T G d0 s0 sE ((bF d).at ⟨V',[]⟩ K) cs (fwb tI tB tW ti tb w (max la lb) ((max la lb+63)/64)):=by
 intro m
 induction m with
 |zero=>
  intro x V hx hV h
  obtain rfl:x=(max la lb+63)/64:=by omega
  have k1:=Qb5 E (Qb7 E h)
  have k2:=QAZ (i:=0) (rest:=[]) (dst:=7) (x:=9) (y:=5) E k1 rfl hV.x9 hV.tm.xn
  have hV2:=QzO hV.tm (x:=7) (by omega) (.bool (decide (((64*((max la lb+63)/64):Nat):Int)<((max la lb:Nat):Int))))
  have h7:=QzN hV.tm.size (x:=7) (by omega) (.bool (decide (((64*((max la lb+63)/64):Nat):Int)<((max la lb:Nat):Int))))
  have k3:=Qdz E (show(⟨_,[]⟩:Act).eval (.tmp 7)=_ from h7) (Qb7 E (Qb6 E k2))
  rw[if_neg (by simp;omega)] at k3
  exact⟨_,hV2,QBw E rfl k3⟩
 |succ m ih=>
  intro x V hx hV h
  have k1:=Qb5 E (Qb7 E h)
  have k2:=QAZ (i:=0) (rest:=[]) (dst:=7) (x:=9) (y:=5) E k1 rfl hV.x9 hV.tm.xn
  have hV2:=QzO hV.tm (x:=7) (by omega) (.bool (decide (((64*x:Nat):Int)<((max la lb:Nat):Int))))
  have h7:=QzN hV.tm.size (x:=7) (by omega) (.bool (decide (((64*x:Nat):Int)<((max la lb:Nat):Int))))
  have h9:(putO V (some 7) (.bool (decide (((64*x:Nat):Int)<((max la lb:Nat):Int))))).getD 9 undef= .int .i64 (64*x:Nat):=(QB0 (by omega) _).trans hV.x9
  revert k2 hV2 h7 h9
  generalize putO V (some 7) (.bool (decide (((64*x:Nat):Int)<((max la lb:Nat):Int))))=V2
  intro k2 hV2 h7 h9
  have k3:=Qdz E (show(⟨V2,[]⟩:Act).eval (.tmp 7)=_ from h7) (Qb7 E (Qb6 E k2))
  rw[if_pos (decide_eq_true (by omega))] at k3
  have k4:=Qdh E ti none (Qb5 E (Qf2 E k3)) rfl
  rw[QBv] at k4
  have k4':On T G d0 s0 sE ((bF d).at ⟨V2,[]⟩ (.inRegion (sR2 ti) [1] :: .inLoop (sBox ti) :: .inBlock 1 :: K)) cs (fwb tI tB tW ti tb w (max la lb) (x+1)):=k4
  have k5:=QaR E (.binOp .add ti (.tmp 9) (.const (.int .i64 64)) ti) (some 9) (do eqGuard .add ti (.tmp 9) (.const (.int .i64 64)) (V2.getD 9 undef) (.int .i64 64);binOp .add ti (V2.getD 9 undef) (.int .i64 64)) (.int .i64 (64*(x+1):Nat)) k4' rfl rfl rfl (fun w=>by
   rw[h9]
   show Result.ok (Value.int .i64 (IntKind.i64.wrap (((64*x:Nat):Int)+64))) w=_
   congr 2
   rw[IntKind.wrap_i64]
   omega)
  exact ih (x+1) _ (by omega) ⟨QzO hV2 (by omega) _,QzN hV2.size (by omega) _⟩ (Qf0 E (Qb6 E k5))
theorem QvT(E:Env T G d0 f R s0)(hT:Ty tI tB ti tb ⟨T,G⟩ ii ib){V:Array Value}{A:Option Addr}{la ca:Nat}{B:Option Addr}{lb cb:Nat}(hV:V.size=25)(h0:V.getD 0 undef= .slice A la ca)(h1:V.getD 1 undef= .slice B lb cb)(h2:V.getD 2 undef= .int .i64 la)
 (h3:V.getD 3 undef= .int .i64 lb)(h5:V.getD 5 undef= .int .i64 (max la lb:Nat))(hle:max la lb≤1048576)
 (h:On T G d0 s0 sE ((bF d).at ⟨V,[]⟩ [.code (.seq (.region 1 (sR1 tI tB tW ti) false) (.seq (.region 7 sRA false) (.seq (.block 1 (.loop (sBox ti))) (.block 0 (.loop (JI tI tB ti tb))))))]) cs w):
 ∃V',Tm w.heap.size A la ca B lb cb 0 V'∧On T G d0 s0 sE ((bF d).at ⟨V',[]⟩ [.code (JI tI tB ti tb),.inLoop (JI tI tB ti tb),.inBlock 0]) cs (fw tI tB tW ti tb w (max la lb) (Array.replicate (max la lb) (.bool false))):=by
 have k1:=Qb5 E (Qb7 E h)
 have k2:=Qdh E tI none k1 rfl
 have k3:=Qdh E tI none k2 rfl
 have hmk: ∀w:World,(Instr.makeSlice tB (V.getD 5 undef) (V.getD 5 undef)).run ⟨T,G⟩ w= .ok (.slice (some ⟨w.heap.size,0,none⟩) (max la lb) (max la lb)) (w.alloc (.cells (Array.replicate (max la lb) (.bool false)) tb)):=by
  intro w
  rw[h5,run_make w tB tb ib (.bool false) hT.uB hT.nb hT.zb .i64 .i64 (max la lb:Nat) (max la lb:Nat) (by omega) (by omega) (by rw[hT.bb];omega) (by omega),hT.sb]
  simp only[Int.toNat_natCast,Nat.mul_one]
  rw[show(Value.bool false).cells= #[.bool false] from rfl,QsO]
 obtain⟨tp,K,v,w2,e,k4⟩:=QaS E (.makeSlice tB (.tmp 5) (.tmp 5)) (some 4) (Instr.makeSlice tB (V.getD 5 undef) (V.getD 5 undef)) k3 rfl rfl rfl
 rw[hmk] at e
 injection e with e1 e2
 replace k4:=k4.to (w':=((w.alloc (.cells #[] tI)).alloc (.cells #[] tI)).alloc (.cells (Array.replicate (max la lb) (.bool false)) tb)) (tp:=tp) (j:=K) e2.symm
 have hN:(on ((w.alloc (.cells #[] tI)).alloc (.cells #[] tI)) tp K).heap.size=w.heap.size+2:=by
  show((w.heap.push _).push _).size=_
  simp
 rw[hN] at e1
 subst e1
 have k5:=Qdh E tB none k4 rfl
 have k6:=Qdh E tW none k5 rfl
 have k7:=Qdh E ti none k6 rfl
 have k8:=QaR E (.assign (.const (.int .i64 0))) (some 6) (pure (.int .i64 0)) (.int .i64 0) k7 rfl rfl rfl (fun _=>rfl)
 obtain⟨V',hV'⟩: ∃V',putO (putO V (some 4) (.slice (some ⟨w.heap.size+2,0,none⟩) (max la lb) (max la lb))) (some 6) (.int .i64 0)=V':=⟨_,rfl⟩
 have g: ∀i,V'.getD i undef=if i=6 then .int .i64 0 else if i=4 then .slice (some ⟨w.heap.size+2,0,none⟩) (max la lb) (max la lb) else V.getD i undef:=by
  intro i
  rw[←hV']
  simp only[putO,J0,Array.size_setIfInBounds,hV]
  simp
 have htm:Tm w.heap.size A la ca B lb cb 0 V':=by
  refine⟨by rw[←hV'];simp[putO,hV],?_,?_,?_,?_,?_,?_,?_⟩
  ·rw[g,if_neg (by omega),if_neg (by omega)];exact h0
  ·rw[g,if_neg (by omega),if_neg (by omega)];exact h1
  ·rw[g,if_neg (by omega),if_neg (by omega)];exact h2
  ·rw[g,if_neg (by omega),if_neg (by omega)];exact h3
  ·rw[g,if_neg (by omega),if_pos rfl]
  ·rw[g,if_neg (by omega),if_neg (by omega)];exact h5
  ·rw[g,if_pos rfl];rfl
 have k8':On T G d0 s0 sE ((bF d).at ⟨V',[]⟩ (.inRegion (sR1 tI tB tW ti) [] :: [.code (.seq (.region 7 sRA false) (.seq (.block 1 (.loop (sBox ti))) (.block 0 (.loop (JI tI tB ti tb)))))])) cs
  ((((((w.alloc (.cells #[] tI)).alloc (.cells #[] tI)).alloc (.cells (Array.replicate (max la lb) (.bool false)) tb)).alloc (.cells #[] tB)).alloc (.cells #[] tW)).alloc (.cells #[] ti)):=by
  rw[←hV']
  exact k8
 have e:(((((w.alloc (.cells #[] tI)).alloc (.cells #[] tI)).alloc (.cells (Array.replicate (max la lb) (.bool false)) tb)).alloc (.cells #[] tB)).alloc (.cells #[] tW)).alloc (.cells #[] ti)=fwb tI tB tW ti tb w (max la lb) 0:=by
  unfold fwb
  simp only[World.alloc]
  congr 1
 rw[e] at k8'
 have k9:=QaR E (.assign (.const (.int .i64 0))) (some 9) (pure (.int .i64 0)) (.int .i64 0) (Qb5 E (Qb7 E (Qb6 E k8'))) rfl rfl rfl (fun _=>rfl)
 have k10:=Qis E (Qir E (Qb7 E (Qb6 E k9)))
 obtain⟨V2,hV2,k11⟩:=QCa E hle ((max la lb+63)/64) 0 _ (by omega) ⟨QzO htm (x:=9) (by omega) (.int .i64 0),QzN htm.size (by omega) _⟩ k10
 rw[QBu] at k11
 exact⟨V2,hV2,Qis E (Qir E k11)⟩
end
end Go.Proofs.YtgaimkihacljdaaGreat
/- The stand-in's body: its loop. (Round C) -/
namespace Go.Proofs.YtgaimkihacljdaaGreat
section
variable {tI tB tW ti tb : TypeId} {ii ib : TypeInfo}
variable {T : Tables} {G : Array Func} {d d0 : FuncId} {s0 sE : Cf} {f : FuncId} {R : Value → World → Prop} {cs : List Frame} {w : World}
variable {N : Nat} {A : Option Addr} {la ca : Nat} {B : Option Addr} {lb cb j : Nat} {V : Array Value} {ops : Array Oper} {i : Nat} {rest : List Nat} {k : List Item}
theorem Tm.put(h:Tm N A la ca B lb cb j V){x:Nat}(hx:7≤x)(v:Value):Tm N A la ca B lb cb j (putO V (some x) v):=by
 have g: ∀i,i<7→(putO V (some x) v).getD i undef=V.getD i undef:=fun i hi=>by
  show(V.setIfInBounds x v).getD i undef=_
  rw[J0,if_neg (by omega)]
 exact⟨by show(V.setIfInBounds x v).size=_;simp[h.size],(g 0 (by omega)).trans h.xa,(g 1 (by omega)).trans h.xb,(g 2 (by omega)).trans h.xla,(g 3 (by omega)).trans h.xlb,(g 4 (by omega)).trans h.out,(g 5 (by omega)).trans h.xn,(g 6 (by omega)).trans h.xj⟩
theorem Tm.put6(h:Tm N A la ca B lb cb j V)(j':Nat):Tm N A la ca B lb cb j' (putO V (some 6) (.int .i64 j')):=by
 have g: ∀i,i≠6→(putO V (some 6) (.int .i64 j')).getD i undef=V.getD i undef:=fun i hi=>by
  show(V.setIfInBounds 6 _).getD i undef=_
  rw[J0,if_neg (by omega)]
 refine⟨by show(V.setIfInBounds 6 _).size=_;simp[h.size],(g 0 (by omega)).trans h.xa,(g 1 (by omega)).trans h.xb,(g 2 (by omega)).trans h.xla,(g 3 (by omega)).trans h.xlb,(g 4 (by omega)).trans h.out,(g 5 (by omega)).trans h.xn,?_⟩
 show(V.setIfInBounds 6 _).getD 6 undef=_
 rw[J0,if_pos ⟨rfl,by rw[h.size];omega⟩]
theorem Qbc(hV:V.size=25){x:Nat}(hx:x<25)(v:Value):(putO V (some x) v).getD x undef=v:=by
 show(V.setIfInBounds x v).getD x undef=v
 rw[J0,if_pos ⟨rfl,by omega⟩]
theorem Qdg{x y:Nat}(hx:y≠x)(v:Value):(putO V (some x) v).getD y undef=V.getD y undef:=by
 show(V.setIfInBounds x v).getD y undef=_
 rw[J0,if_neg (by omega)]
theorem QgJ(E:Env T G d0 f R s0){x y dst:Nat}{a b:Int}(h:On T G d0 s0 sE ((bF d).at ⟨V,[]⟩ (.inRegion ops (i :: rest) :: k)) cs w)(ho:ops[i]? =some (sop (some dst) (.binOp .lss ti (.tmp x) (.tmp y) ti)))(hx:V.getD x undef= .int .i64 a)(hy:V.getD y undef= .int .i64 b):
 On T G d0 s0 sE ((bF d).at ⟨putO V (some dst) (.bool (decide (a<b))),[]⟩ (.inRegion ops rest :: k)) cs w:=
 QaR E (.binOp .lss ti (.tmp x) (.tmp y) ti) (some dst) (do eqGuard .lss ti (.tmp x) (.tmp y) (V.getD x undef) (V.getD y undef);binOp .lss ti (V.getD x undef) (V.getD y undef)) _ h ho rfl rfl (fun w=>by rw[hx,hy];rfl)
theorem Qtf(h:On T G d0 s0 sE ((bF d).at ⟨V,[]⟩ k) cs w):QaU (KK T) (VV G G d0) w:=by
 obtain⟨tp,j,hp,_⟩:=h
 exact⟨hp.nice.clean.view,hp.nice.clean.loop,hp.nice.clean.defer,hp.nice.clean.pend⟩
/-! ### the blocks -/
theorem Qiq{n:Nat}{arr:Array Value}{b:Nat}(h:b<w.heap.size):(fw tI tB tW ti tb w n arr).heap[b]? =w.heap[b]? :=by
 show(w.heap++_)[b]? =_
 rw[Array.getElem?_append_left h]
theorem Qep{n:Nat}{arr:Array Value}(x:Nat):(fw tI tB tW ti tb w n arr).heap[w.heap.size+x]? =(made tI tB tW ti tb n arr)[x]? :=by
 show(w.heap++_)[w.heap.size+x]? =_
 rw[Array.getElem?_append_right (by omega)]
 congr 1
 omega
theorem QdO{n:Nat}{arr:Array Value}:(made tI tB tW ti tb n arr)[2]? =some (.cells arr tb):=by
 unfold made
 rw[Array.getElem?_append_left (by simp)]
 rfl
theorem QsQ{n:Nat}{arr:Array Value}{x:Nat}{o:Obj}(hx:x≠2)(h:(made tI tB tW ti tb n arr)[x]? =some o): ∃e,o= .cells #[] e:=by
 unfold made at h
 rcases Nat.lt_or_ge x 6 with hlt|hge
 ·rw[Array.getElem?_append_left (by simpa using hlt)] at h
  match x,hx,hlt,h with
  |0,_,_,h=>exact⟨_,(Option.some.inj h).symm⟩
  |1,_,_,h=>exact⟨_,(Option.some.inj h).symm⟩
  |3,_,_,h=>exact⟨_,(Option.some.inj h).symm⟩
  |4,_,_,h=>exact⟨_,(Option.some.inj h).symm⟩
  |5,_,_,h=>exact⟨_,(Option.some.inj h).symm⟩
 ·rw[Array.getElem?_append_right (by simpa using hge),Array.getElem?_replicate] at h
  split at h
  ·exact⟨_,(Option.some.inj h).symm⟩
  ·cases h
theorem Qip{n:Nat}{arr:Array Value}{a:Addr}{v:Value}(h:(fw tI tB tW ti tb w n arr).cell? a=some v)(hv: ∀x:Nat,arr[x]? ≠some v):a.block<w.heap.size∧w.cell? a=some v:=by
 have hlt:a.block<w.heap.size:=by
  refine Classical.byContradiction fun hn=>?_
  obtain⟨x,hx⟩: ∃x,a.block=w.heap.size+x:=⟨a.block - w.heap.size,by omega⟩
  unfold World.cell? at h
  rw[hx,Qep] at h
  by_cases h2:x=2
  ·subst h2
   rw[QdO] at h
   dsimp only at h
   split at h
   ·cases h
   ·exact hv _ h
  ·cases hm:(made tI tB tW ti tb n arr)[x]? with
   |none=>rw[hm] at h;cases h
   |some o=>
    obtain⟨e,rfl⟩:=QsQ h2 hm
    rw[hm] at h
    dsimp only at h
    split at h
    ·cases h
    ·simp at h
 refine⟨hlt,?_⟩
 unfold World.cell? at h⊢
 rw[Qiq hlt] at h
 exact h
theorem QsR{n:Nat}{arr:Array Value}(arr':Array Value):(made tI tB tW ti tb n arr).setIfInBounds 2 (.cells arr' tb)=made tI tB tW ti tb n arr':=by
 unfold made
 apply Array.ext_getElem?
 intro x
 by_cases e:2=x
 ·subst e
  rw[Array.getElem?_setIfInBounds_self_of_lt (by simp;omega),Array.getElem?_append_left (by simp)]
  rfl
 ·rw[Array.getElem?_setIfInBounds_ne e]
  rcases Nat.lt_or_ge x 6 with hlt|hge
  ·rw[Array.getElem?_append_left (by simpa using hlt),Array.getElem?_append_left (by simpa using hlt)]
   match x,e,hlt with
   |0,_,_=>rfl
   |1,_,_=>rfl
   |3,_,_=>rfl
   |4,_,_=>rfl
   |5,_,_=>rfl
  ·rw[Array.getElem?_append_right (by simpa using hge),Array.getElem?_append_right (by simpa using hge)]
   rfl
theorem Qpz{n:Nat}{arr:Array Value}(j:Nat)(v:Value):(fw tI tB tW ti tb w n arr).setCell ⟨w.heap.size+2,j,none⟩ v=fw tI tB tW ti tb w n (arr.setIfInBounds j v):=by
 rw[Qg0 (c:=arr) (e:=tb) (z:=(0,0)) (by rw[Qep];exact QdO)]
 unfold fw
 simp only[Option.isSome_none,Bool.false_eq_true,if_false]
 congr 1
 rw[←QsR (arr:=arr) (arr.setIfInBounds j v)]
 apply Array.ext_getElem?
 intro x
 rcases Nat.lt_or_ge x w.heap.size with hlt|hge
 ·rw[Array.getElem?_setIfInBounds_ne (by omega),Array.getElem?_append_left hlt,Array.getElem?_append_left hlt]
 ·rw[Array.getElem?_append_right hge]
  by_cases e:x=w.heap.size+2
  ·subst e
   have h2:2<(made tI tB tW ti tb n arr).size:=by simp[made];omega
   rw[Array.getElem?_setIfInBounds_self_of_lt (by simp;omega),show w.heap.size+2 - w.heap.size=2 by omega,Array.getElem?_setIfInBounds_self_of_lt h2]
  ·rw[Array.getElem?_setIfInBounds_ne (by omega),Array.getElem?_setIfInBounds_ne (by omega),Array.getElem?_append_right hge]
end
end Go.Proofs.YtgaimkihacljdaaGreat
/- The stand-in's body, whole: what its run has found; where it leads. (Round C) -/
namespace Go.Proofs.YtgaimkihacljdaaGreat
def RdS(w:World)(A:Option Addr)(j:Nat)(x:Int):Prop:=∃ad,A=some ad∧ad.block<w.heap.size∧w.cell? (ad.add j)=some (.int .i64 x)
structure Done(w:World)(A:Option Addr)(la:Nat)(B:Option Addr)(lb:Nat)(arr:Array Value)(j:Nat):Prop where
 size:arr.size=max la lb
 bools: ∀(x:Nat) v,arr[x]? =some v→∃q,v= .bool q
 done: ∀i,i<j→∃q,arr[i]? =some (.bool q)∧((i<la∧i<lb∧∃x y,RdS w A i x∧RdS w B i y∧q=(x != y))∨(¬(i<la∧i<lb)∧q=true))
section
variable {tI tB tW ti tb : TypeId} {ii ib : TypeInfo}
variable {T : Tables} {G : Array Func} {d d0 : FuncId} {s0 sE : Cf} {f : FuncId} {R : Value → World → Prop} {cs : List Frame} {w : World}
variable {N : Nat} {A : Option Addr} {la ca : Nat} {B : Option Addr} {lb cb j : Nat} {V : Array Value} {arr : Array Value}
theorem Done.put(h:Done w A la B lb arr j)(hj:j<max la lb){q:Bool}(hq:(j<la∧j<lb∧∃x y,RdS w A j x∧RdS w B j y∧q=(x != y))∨(¬(j<la∧j<lb)∧q=true)):Done w A la B lb (arr.setIfInBounds j (.bool q)) (j+1):=by
 refine⟨by simp[h.size],fun x v hx=>?_,fun i hi=>?_⟩
 ·rw[Array.getElem?_setIfInBounds] at hx
  split at hx
  ·split at hx
   ·exact⟨q,(Option.some.inj hx).symm⟩
   ·cases hx
  ·exact h.bools x v hx
 ·rcases Nat.lt_or_ge i j with hlt|hge
  ·rw[Array.getElem?_setIfInBounds_ne (by omega)]
   exact h.done i hlt
  ·obtain rfl:i=j:=by omega
   exact⟨q,by rw[Array.getElem?_setIfInBounds_self_of_lt (by rw[h.size];exact hj)],hq⟩
theorem Done.no_int(h:Done w A la B lb arr j)(x:Nat)(k:IntKind)(z:Int):arr[x]? ≠some (.int k z):=fun e=>by
 obtain⟨q,hq⟩:=h.bools x _ e
 cases hq
theorem Qqp{P:Program}{w w':World}{t:TypeId}{a:Addr}{q:Bool}{u:Value}(hc:w.cell? a=some u)(h:(Instr.storeAt t (.pointer (some a)) (.bool q)).run P w= .ok () w'):w'=w.setCell a (.bool q):=by
 unfold Instr.storeAt at h
 obtain⟨a',w1,h1,h2⟩:=XA h
 obtain⟨rfl,rfl⟩:=JA h1
 unfold storeVar at h2
 obtain⟨n,w2,h3,h4⟩:=XA h2
 have hw:w2=w1:=by
  unfold sizeOf typeInfo at h3
  obtain⟨i,w3,h5,h6⟩:=XA h3
  obtain⟨p,w4,h7,h8⟩:=XA h5
  injection h7 with h7 h9
  subst h7 h9
  have:=(JA h6).2
  rw[this]
  cases hi:P.info? t with
  |none=>rw[hi] at h8;cases h8
  |some i=>rw[hi] at h8;exact(JA h8).2
 subst hw
 split at h4
 ·obtain⟨_,_,h5,_⟩:=XA h4
  cases h5
 ·have e:(storeCells a' (Value.bool q).cells.toList 0:Sem Unit)=(do store (a'.add 0) (.bool q);pure ()):=rfl
  rw[show(storeCells a' (Value.bool q).cells.toList:Sem Unit)=(do store (a'.add 0) (.bool q);pure ()) from rfl] at h4
  obtain⟨_,w3,h5,h6⟩:=XA h4
  rw[(JA h6).2]
  have e0:a'.add 0=a':=by simp[Addr.add]
  rw[e0] at h5
  have h7:(match w2.cell? a' with
   |some _=>if w2.frozen? a' then(.halt (.unsupported (.unsafePointer "a write to bytes that a string shares")) w2:Result Unit) else .ok () (w2.setCell a' (.bool q))
   |none=>match w2.farStore P a' (.bool q) false with
    | .ok (w,_)=> .ok () w
    | .error h=> .halt h w2)= .ok () w3:=h5
  rw[hc] at h7
  dsimp only at h7
  split at h7
  ·cases h7
  ·injection h7 with _ e;exact e.symm
theorem Qlz(E:Env T G d0 f R s0)(hT:Ty tI tB ti tb ⟨T,G⟩ ii ib)(hV:Tm w.heap.size A la ca B lb cb j V)(hD:Done w A la B lb arr j)(hj:j<max la lb)(hle:max la lb≤1048576){q:Bool}(h11:V.getD 11 undef= .bool q){K:List Item}
 (h:On T G d0 s0 sE ((bF d).at ⟨V,[]⟩ (.code (.region 6 (sR6 tB ti tb) false) :: K)) cs (fw tI tB tW ti tb w (max la lb) arr)):
 ∃V',Tm w.heap.size A la ca B lb cb (j+1) V'∧On T G d0 s0 sE ((bF d).at ⟨V',[]⟩ K) cs (fw tI tB tW ti tb w (max la lb) (arr.setIfInBounds j (.bool q))):=by
 have k1:=Qb5 E h
 obtain⟨tp,K',v,w2,e,k2⟩:=QaS E (.indexAddr tB (.tmp 4) (.tmp 6)) (some 9) (Instr.indexAt tB (V.getD 4 undef) (V.getD 6 undef)) k1 rfl rfl rfl
 rw[hV.out,hV.xj] at e
 obtain⟨_,ad,e0,rfl,rfl⟩:=QiW hT.uB hT.nb hT.sb e
 obtain rfl:=Option.some.inj e0
 replace k2:=k2.to (w':=fw tI tB tW ti tb w (max la lb) arr) (tp:=tp) (j:=K') rfl
 have hV2:=hV.put (x:=9) (by omega) (.pointer (some ((⟨w.heap.size+2,0,none⟩:Addr).add j)))
 have h9:=Qbc hV.size (x:=9) (by omega) (.pointer (some ((⟨w.heap.size+2,0,none⟩:Addr).add j)))
 have h11':(putO V (some 9) (.pointer (some ((⟨w.heap.size+2,0,none⟩:Addr).add j)))).getD 11 undef= .bool q:=(Qdg (by omega) _).trans h11
 revert k2 hV2 h9 h11'
 generalize putO V (some 9) (.pointer (some ((⟨w.heap.size+2,0,none⟩:Addr).add j)))=V2
 intro k2 hV2 h9 h11'
 have hadd:(⟨w.heap.size+2,0,none⟩:Addr).add j=⟨w.heap.size+2,j,none⟩:=by
  unfold Addr.add
  split
  ·rename_i h0;rw[h0]
  ·simp
 rw[hadd] at h9
 obtain⟨tp,K',w2,e,k3⟩:=QpE (o:=sop none (.store tb (.tmp 9) (.tmp 11))) (s:=Instr.storeAt tb (V2.getD 9 undef) (V2.getD 11 undef)) E k2 rfl rfl rfl rfl
 rw[h9,h11'] at e
 have hcell: ∃u,(on (fw tI tB tW ti tb w (max la lb) arr) tp K').cell? ⟨w.heap.size+2,j,none⟩=some u:=by
  have hj':j<arr.size:=by rw[hD.size];exact hj
  refine⟨arr[j],?_⟩
  show(fw tI tB tW ti tb w (max la lb) arr).cell? _=_
  unfold World.cell?
  rw[Qep,QdO]
  simp[hj']
 obtain⟨u,hu⟩:=hcell
 have ew:=Qqp hu e
 have ew2:w2=on (fw tI tB tW ti tb w (max la lb) (arr.setIfInBounds j (.bool q))) tp K':=by
  rw[ew,←Qpz]
  rfl
 replace k3:=k3.to (w':=fw tI tB tW ti tb w (max la lb) (arr.setIfInBounds j (.bool q))) (tp:=tp) (j:=K') ew2
 have k3':On T G d0 s0 sE ((bF d).at ⟨V2,[]⟩ (.inRegion (sR6 tB ti tb) [2] :: K)) cs (fw tI tB tW ti tb w (max la lb) (arr.setIfInBounds j (.bool q))):=k3
 have k4:=QaR E (.binOp .add ti (.tmp 6) (.const (.int .i64 1)) ti) (some 6) (do eqGuard .add ti (.tmp 6) (.const (.int .i64 1)) (V2.getD 6 undef) (.int .i64 1);binOp .add ti (V2.getD 6 undef) (.int .i64 1)) (.int .i64 (j+1:Nat)) k3' rfl rfl rfl (fun w=>by
  rw[hV2.xj]
  show Result.ok (Value.int .i64 (IntKind.i64.wrap ((j:Int)+1))) w=_
  congr 2
  rw[IntKind.wrap_i64]
  omega)
 exact⟨_,hV2.put6 (j+1),Qb6 E k4⟩
end
end Go.Proofs.YtgaimkihacljdaaGreat
/- The stand-in's body: a round; the loop; the return. (Round C) -/
namespace Go.Proofs.YtgaimkihacljdaaGreat
section
variable {tI tB tW ti tb : TypeId} {ii ib : TypeInfo}
variable {T : Tables} {G : Array Func} {d d0 : FuncId} {s0 sE : Cf} {f : FuncId} {R : Value → World → Prop} {cs : List Frame} {w : World}
variable {N : Nat} {A : Option Addr} {la ca : Nat} {B : Option Addr} {lb cb j : Nat} {V : Array Value} {arr : Array Value} {K : List Item}
theorem Qlx(E:Env T G d0 f R s0)(hT:Ty tI tB ti tb ⟨T,G⟩ ii ib){ops:Array Oper}{i i2:Nat}{rest:List Nat}{x y:Nat}{l c:Nat}{A:Option Addr}(hy2:y<25)(hV:V.size=25)(hx:V.getD x undef= .slice A l c)(hj:V.getD 6 undef= .int .i64 j)
 (ho:ops[i]? =some (sop (some y) (.indexAddr tI (.tmp x) (.tmp 6))))(ho2:ops[i2]? =some (sop (some y) (.load ti (.tmp y))))
 (h:On T G d0 s0 sE ((bF d).at ⟨V,[]⟩ (.inRegion ops (i :: i2 :: rest) :: K)) cs (fw tI tB tW ti tb w (max la lb) arr)):
 ∃v,On T G d0 s0 sE ((bF d).at ⟨putO (putO V (some y) undef) (some y) v,[]⟩ (.inRegion ops rest :: K)) cs (fw tI tB tW ti tb w (max la lb) arr)∧∃ad,A=some ad∧(fw tI tB tW ti tb w (max la lb) arr).cell? (ad.add j)=some v:=by
 obtain⟨tp,K',v,w2,e,k2⟩:=QaS E (.indexAddr tI (.tmp x) (.tmp 6)) (some y) (Instr.indexAt tI (V.getD x undef) (V.getD 6 undef)) h ho rfl rfl
 rw[hx,hj] at e
 obtain⟨_,ad,rfl,rfl,rfl⟩:=QiW hT.uI hT.ni hT.si e
 replace k2:=k2.to (w':=fw tI tB tW ti tb w (max la lb) arr) (tp:=tp) (j:=K') rfl
 have hcl:=Qtf k2
 obtain⟨tp,K',v,w2,e,k3⟩:=QaS E (.load ti (.tmp y)) (some y) (Instr.loadAt ti ((putO V (some y) (.pointer (some (ad.add j)))).getD y undef)) k2 ho2 rfl rfl
 rw[Qbc hV hy2] at e
 have hcl':QaU (KK T) (VV G G d0) (on (fw tI tB tW ti tb w (max la lb) arr) tp K'):=⟨hcl.view,hcl.loop,hcl.defer,hcl.pend⟩
 obtain⟨hc,rfl⟩:=Qqo hcl' hT.ui (fun _ h=>by cases h) (fun _ _ h=>by cases h) e
 replace k3:=k3.to (w':=fw tI tB tW ti tb w (max la lb) arr) (tp:=tp) (j:=K') rfl
 refine⟨v,?_,ad,rfl,hc⟩
 have e:putO (putO V (some y) (.pointer (some (ad.add j)))) (some y) v=putO (putO V (some y) undef) (some y) v:=by
  show(V.setIfInBounds y _).setIfInBounds y v=(V.setIfInBounds y _).setIfInBounds y v
  simp
 rw[←e]
 exact k3
theorem Qmz(ad:Addr)(j:Nat):(ad.add j).block=ad.block:=by unfold Addr.add;split<;>rfl
theorem QvQ(E:Env T G d0 f R s0)(hT:Ty tI tB ti tb ⟨T,G⟩ ii ib)(hV:Tm w.heap.size A la ca B lb cb j V)(hD:Done w A la B lb arr j)
 (h:On T G d0 s0 sE ((bF d).at ⟨V,[]⟩ (.code (.region 4 (sR4 tI ti) false) :: K)) cs (fw tI tB tW ti tb w (max la lb) arr)):
 ∃V' x y,Tm w.heap.size A la ca B lb cb j V'∧V'.getD 11 undef= .bool (x != y)∧RdS w A j x∧RdS w B j y∧On T G d0 s0 sE ((bF d).at ⟨V',[]⟩ K) cs (fw tI tB tW ti tb w (max la lb) arr):=by
 have k1:=Qb5 E h
 obtain⟨v,k2,ad,rfl,hc⟩:=Qlx (x:=0) (y:=9) (i:=0) (i2:=1) (rest:=[2,3,4,5,6]) E hT (by omega) hV.size hV.xa hV.xj rfl rfl k1
 have hV2:=(hV.put (x:=9) (by omega) undef).put (x:=9) (by omega) v
 have h9:=Qbc (hV.put (x:=9) (by omega) undef).size (x:=9) (by omega) v
 revert k2 hV2 h9
 generalize putO (putO V (some 9) undef) (some 9) v=V2
 intro k2 hV2 h9
 obtain⟨u,k3,bd,rfl,hd⟩:=Qlx (x:=1) (y:=10) (i:=2) (i2:=3) (rest:=[4,5,6]) E hT (by omega) hV2.size hV2.xb hV2.xj rfl rfl k2
 have hV3:=(hV2.put (x:=10) (by omega) undef).put (x:=10) (by omega) u
 have h10:=Qbc (hV2.put (x:=10) (by omega) undef).size (x:=10) (by omega) u
 have h9':(putO (putO V2 (some 10) undef) (some 10) u).getD 9 undef=v:=(Qdg (by omega) _).trans ((Qdg (by omega) _).trans h9)
 revert k3 hV3 h10 h9'
 generalize putO (putO V2 (some 10) undef) (some 10) u=V3
 intro k3 hV3 h10 h9'
 obtain⟨tp,K',v1,w2,e,k4⟩:=QaS E (.binOp .or ti (.tmp 9) (.const (.int .i64 0)) ti) none (do eqGuard .or ti (.tmp 9) (.const (.int .i64 0)) (V3.getD 9 undef) (.int .i64 0);binOp .or ti (V3.getD 9 undef) (.int .i64 0)) k3 rfl rfl rfl
 rw[h9'] at e
 obtain⟨x,rfl,rfl⟩:=QiY e
 replace k4:=k4.to (w':=fw tI tB tW ti tb w (max la lb) arr) (tp:=tp) (j:=K') rfl
 have k4':On T G d0 s0 sE ((bF d).at ⟨V3,[]⟩ (.inRegion (sR4 tI ti) [5,6] :: K)) cs (fw tI tB tW ti tb w (max la lb) arr):=k4
 obtain⟨tp,K',v1,w2,e,k5⟩:=QaS E (.binOp .or ti (.tmp 10) (.const (.int .i64 0)) ti) none (do eqGuard .or ti (.tmp 10) (.const (.int .i64 0)) (V3.getD 10 undef) (.int .i64 0);binOp .or ti (V3.getD 10 undef) (.int .i64 0)) k4' rfl rfl rfl
 rw[h10] at e
 obtain⟨y,rfl,rfl⟩:=QiY e
 replace k5:=k5.to (w':=fw tI tB tW ti tb w (max la lb) arr) (tp:=tp) (j:=K') rfl
 have k5':On T G d0 s0 sE ((bF d).at ⟨V3,[]⟩ (.inRegion (sR4 tI ti) [6] :: K)) cs (fw tI tB tW ti tb w (max la lb) arr):=k5
 have k6:=QaR E (.binOp .neq ti (.tmp 9) (.tmp 10) ti) (some 11) (do eqGuard .neq ti (.tmp 9) (.tmp 10) (V3.getD 9 undef) (V3.getD 10 undef);binOp .neq ti (V3.getD 9 undef) (V3.getD 10 undef)) (.bool (x != y)) k5' rfl rfl rfl (fun w=>by
  rw[h9',h10]
  rfl)
 obtain⟨b1,c1⟩:=Qip hc (fun z=>hD.no_int z _ _)
 obtain⟨b2,c2⟩:=Qip hd (fun z=>hD.no_int z _ _)
 rw[Qmz] at b1 b2
 exact⟨_,x,y,hV3.put (x:=11) (by omega) _,Qbc hV3.size (by omega) _,⟨ad,rfl,b1,c1⟩,⟨bd,rfl,b2,c2⟩,Qb6 E k6⟩
theorem QpB(E:Env T G d0 f R s0){b:Frame}{a:Act}{id:Nat}{k k':List Item}(hk:exitTo id k=some k')(h:On T G d0 s0 sE (b.at a (.code (.exit id) :: k)) cs w):On T G d0 s0 sE (b.at a k') cs w:=
 Qao E h rfl fun _=>⟨#[],by
  simp[stepG,stepG.exec,Frame.at,hk,Conc.G]⟩
theorem Qly(E:Env T G d0 f R s0)(hT:Ty tI tB ti tb ⟨T,G⟩ ii ib)(hV:Tm w.heap.size A la ca B lb cb j V)(hD:Done w A la B lb arr j)(hle:max la lb≤1048576)
 (h:On T G d0 s0 sE ((bF d).at ⟨V,[]⟩ [.code (JI tI tB ti tb),.inLoop (JI tI tB ti tb),.inBlock 0]) cs (fw tI tB tW ti tb w (max la lb) arr)):
 (¬j<max la lb∧∃V',Tm w.heap.size A la ca B lb cb j V'∧On T G d0 s0 sE ((bF d).at ⟨V',[]⟩ []) cs (fw tI tB tW ti tb w (max la lb) arr))∨
 (j<max la lb∧∃V' arr',Tm w.heap.size A la ca B lb cb (j+1) V'∧Done w A la B lb arr' (j+1)∧On T G d0 s0 sE ((bF d).at ⟨V',[]⟩ [.code (JI tI tB ti tb),.inLoop (JI tI tB ti tb),.inBlock 0]) cs (fw tI tB tW ti tb w (max la lb) arr')):=by
 have k1:=Qb5 E (Qb7 E h)
 have k2:=QgJ (i:=0) (rest:=[1,2]) (dst:=7) (x:=6) (y:=5) E k1 rfl hV.xj hV.xn
 have hV2:=hV.put (x:=7) (by omega) (.bool (decide ((j:Int)<((max la lb:Nat):Int))))
 have h7:=Qbc hV.size (x:=7) (by omega) (.bool (decide ((j:Int)<((max la lb:Nat):Int))))
 revert k2 hV2 h7
 generalize putO V (some 7) (.bool (decide ((j:Int)<((max la lb:Nat):Int))))=V2
 intro k2 hV2 h7
 have k3:=QgJ (i:=1) (rest:=[2]) (dst:=8) (x:=6) (y:=2) E k2 rfl hV2.xj hV2.xla
 have hV3:=hV2.put (x:=8) (by omega) (.bool (decide ((j:Int)<(la:Int))))
 have h8:=Qbc hV2.size (x:=8) (by omega) (.bool (decide ((j:Int)<(la:Int))))
 have h7b:(putO V2 (some 8) (.bool (decide ((j:Int)<(la:Int))))).getD 7 undef=_:=(Qdg (by omega) _).trans h7
 revert k3 hV3 h8 h7b
 generalize putO V2 (some 8) (.bool (decide ((j:Int)<(la:Int))))=V3
 intro k3 hV3 h8 h7b
 have k4:=QgJ (i:=2) (rest:=[]) (dst:=9) (x:=6) (y:=3) E k3 rfl hV3.xj hV3.xlb
 have hV4:=hV3.put (x:=9) (by omega) (.bool (decide ((j:Int)<(lb:Int))))
 have h9:=Qbc hV3.size (x:=9) (by omega) (.bool (decide ((j:Int)<(lb:Int))))
 have h8c:(putO V3 (some 9) (.bool (decide ((j:Int)<(lb:Int))))).getD 8 undef=_:=(Qdg (by omega) _).trans h8
 have h7c:(putO V3 (some 9) (.bool (decide ((j:Int)<(lb:Int))))).getD 7 undef=_:=(Qdg (by omega) _).trans h7b
 revert k4 hV4 h9 h8c h7c
 generalize putO V3 (some 9) (.bool (decide ((j:Int)<(lb:Int))))=V4
 intro k4 hV4 h9 h8c h7c
 have k5:=Qdz E (show(⟨V4,[]⟩:Act).eval (.tmp 7)=_ from h7c) (Qb7 E (Qb6 E k4))
 by_cases hjn:j<max la lb
 ·refine .inr ⟨hjn,?_⟩
  rw[if_pos (decide_eq_true (by omega))] at k5
  have k6:=Qdz E (show(⟨V4,[]⟩:Act).eval (.tmp 8)=_ from h8c) (Qb7 E (Qf2 E k5))
  have other: ∀{K:List Item},¬(j<la∧j<lb)→On T G d0 s0 sE ((bF d).at ⟨V4,[]⟩ (.code (.region 5 sR5 false) :: .code (.region 6 (sR6 tB ti tb) false) :: K)) cs (fw tI tB tW ti tb w (max la lb) arr)→
   ∃V' arr',Tm w.heap.size A la ca B lb cb (j+1) V'∧Done w A la B lb arr' (j+1)∧On T G d0 s0 sE ((bF d).at ⟨V',[]⟩ K) cs (fw tI tB tW ti tb w (max la lb) arr'):=by
   intro K hn hk
   have k7:=QaR E (.assign (.const (.bool true))) (some 11) (pure (.bool true)) (.bool true) (Qb5 E hk) rfl rfl rfl (fun _=>rfl)
   obtain⟨V',hV',k8⟩:=Qlz E hT (hV4.put (x:=11) (by omega) (.bool true)) hD hjn hle (Qbc hV4.size (by omega) _) (Qb6 E k7)
   exact⟨V',_,hV',hD.put hjn (.inr ⟨hn,rfl⟩),k8⟩
  by_cases hla:j<la
  ·rw[if_pos (decide_eq_true (by omega))] at k6
   have k7:=Qdz E (show(⟨V4,[]⟩:Act).eval (.tmp 9)=_ from h9) k6
   by_cases hlb:j<lb
   ·rw[if_pos (decide_eq_true (by omega))] at k7
    obtain⟨V5,x,y,hV5,h11,hx,hy,k8⟩:=QvQ E hT hV4 hD k7
    obtain⟨V',hV',k9⟩:=Qlz E hT hV5 hD hjn hle h11 k8
    exact⟨V',_,hV',hD.put hjn (.inl ⟨hla,hlb,x,y,hx,hy,rfl⟩),Qf0 E k9⟩
   ·rw[if_neg (by simpa using hlb)] at k7
    obtain⟨V',arr',a1,a2,a3⟩:=other (fun h=>hlb h.2) k7
    exact⟨V',arr',a1,a2,Qf0 E a3⟩
  ·rw[if_neg (by simpa using hla)] at k6
   obtain⟨V',arr',a1,a2,a3⟩:=other (fun h=>hla h.1) k6
   exact⟨V',arr',a1,a2,Qf0 E a3⟩
 ·refine .inl ⟨hjn,V4,hV4,?_⟩
  rw[if_neg (by simp;omega)] at k5
  exact QpB E rfl k5
theorem Qlw(E:Env T G d0 f R s0)(hT:Ty tI tB ti tb ⟨T,G⟩ ii ib)(hle:max la lb≤1048576): ∀(m j:Nat) (V arr:Array Value),j+m=max la lb→Tm w.heap.size A la ca B lb cb j V→Done w A la B lb arr j→
 On T G d0 s0 sE ((bF d).at ⟨V,[]⟩ [.code (JI tI tB ti tb),.inLoop (JI tI tB ti tb),.inBlock 0]) cs (fw tI tB tW ti tb w (max la lb) arr)→
 ∃V' arr',Tm w.heap.size A la ca B lb cb (max la lb) V'∧Done w A la B lb arr' (max la lb)∧On T G d0 s0 sE ((bF d).at ⟨V',[]⟩ []) cs (fw tI tB tW ti tb w (max la lb) arr')
 |0,j,V,arr,hj,hV,hD,h=>by
  obtain rfl:j=max la lb:=by omega
  rcases Qly E hT hV hD hle h with⟨_,V',h1,h2⟩|⟨h1,_⟩
  ·exact⟨V',arr,h1,hD,h2⟩
  ·omega
 |m+1,j,V,arr,hj,hV,hD,h=>by
  rcases Qly E hT hV hD hle h with⟨h1,_⟩|⟨_,V',arr',h1,h2,h3⟩
  ·omega
  ·exact Qlw E hT hle m (j+1) V' arr' (by omega) h1 h2 h3
theorem QpD(E:Env T G d0 f R s0){c:Frame}{fn:Func}(hg:G[d]? =some fn)(hr:fn.results= #[.tmp 4])(h:On T G d0 s0 sE { (bF d).at ⟨V,[]⟩ [] with mode:= .returning} (c :: cs) w):
 On T G d0 s0 sE (c.finish (V.getD 4 undef)) cs w:=by
 obtain⟨tp,k,hp,hc⟩:=h
 obtain⟨tp1,K,s',hp',hb,hst⟩:=fwd E hp (fun hf=>by
  have:=hf.2.2
  cases this)
 have hrun: ∀(p:Program) (w:World) (es:Array Event),(results fn V).runT p w es=(.ok (V.getD 4 undef) w,es):=by
  intro p w es
  unfold results
  rw[hr]
  simp[pure,bind,Sem.bind]
  exact⟨rfl,rfl⟩
 have e:stepG ⟨T,G⟩ true (Conc.G { (bF d).at ⟨V,[]⟩ [] with mode:= .returning} (c :: cs++ [QF])) (on w tp1 K)= .go (Conc.G (c.finish (V.getD 4 undef)) (cs++ [QF])) (on w tp1 K) (seen ⟨T,G⟩ d #[]++ #[]):=by
  have e0: ∀w,stepG ⟨T,G⟩ true (Conc.G { (bF d).at ⟨V,[]⟩ [] with mode:= .returning} (c :: cs++ [QF])) w=unwind ⟨T,G⟩ true { (bF d).at ⟨V,[]⟩ [] with mode:= .returning} (c :: (cs++ [QF])) none w:=fun _=>rfl
  rw[e0]
  unfold unwind
  simp only[Frame.at,bF,show(⟨T,G⟩:Program).funcs[d]? =some fn from hg,hrun,doReturn]
  rfl
 have e':=Qd2 e rfl
 have e'':step ⟨T,G⟩ ((⟨{ (bF d).at ⟨V,[]⟩ [] with mode:= .returning},c :: cs,on w tp k⟩:Cf).at' tp1 K)= .next (lone (c.finish (V.getD 4 undef)) (cs++ [QF]) (on w tp1 K)):=e'
 rw[e''] at hst
 injection hst with hst
 obtain⟨q1,q2,q3⟩:=J2 hst
 replace q2:=List.append_cancel_right q2
 obtain⟨fr1,cs1,w1⟩:=s'
 dsimp only at q1 q2 q3
 subst q1 q2 q3
 exact⟨tp1,K,hp',.inr (QfC hc hb)⟩
theorem QvR(E:Env T G d0 f R s0)(hT:Ty tI tB ti tb ⟨T,G⟩ ii ib){c:Frame}{fn:Func}(hg:G[d]? =some fn)(hr:fn.results= #[.tmp 4]){V:Array Value}(hV:25≤V.size)(h:On T G d0 s0 sE ((bF d).at ⟨V,[]⟩ [.code (QcE tI tB tW ti tb)]) (c :: cs) w):
 V.size=25∧∃A la ca B lb cb arr,V.getD 0 undef= .slice A la ca∧V.getD 1 undef= .slice B lb cb∧max la lb≤1048576∧Done w A la B lb arr (max la lb)∧
  On T G d0 s0 sE (c.finish (.slice (some ⟨w.heap.size+2,0,none⟩) (max la lb) (max la lb))) cs (fw tI tB tW ti tb w (max la lb) arr):=by
 obtain⟨h1,A,la,ca,B,lb,cb,ha,hb,hle,V1,s1,g0,g1,g2,g3,g5,g8,k1⟩:=QvS E hT hV h
 obtain⟨V2,hV2,k2⟩:=QvT E hT s1 g0 g1 g2 g3 g5 hle k1
 obtain⟨V3,arr,hV3,hD,k3⟩:=Qlw E hT hle (max la lb) 0 V2 _ (by omega) hV2 ⟨by simp,(fun x v hx=>by
  rw[Array.getElem?_replicate] at hx
  split at hx
  ·exact⟨false,(Option.some.inj hx).symm⟩
  ·cases hx),fun i hi=>absurd hi (by omega)⟩ k2
 have k4:=QpD E hg hr (QpA E k3)
 rw[hV3.out] at k4
 exact⟨h1,A,la,ca,B,lb,cb,arr,ha,hb,hle,hD,k4⟩
end
end Go.Proofs.YtgaimkihacljdaaGreat
/- The stand-in program: out of the given one by a body for the one function that differs; what the simulation does not know is refused. (Round C) -/
namespace Go.Proofs.YtgaimkihacljdaaGreat
def okFn(T:Tables)(fn:Func):Bool:=(match fn.body with|some c=>XG T c|none=>false) && !(fn.name == "runtime.NumGoroutine")
section
variable {P Q : Program}
theorem Qcc(h:P.toTables=Q.toTables)(t:TypeId):P.info? t=Q.info? t:=by
 obtain⟨T,F⟩:=P
 obtain⟨T',F'⟩:=Q
 cases h
 rfl
theorem Qbf(h:P.toTables=Q.toTables)(t:TypeId):P.underlying t=Q.underlying t:=by
 obtain⟨T,F⟩:=P
 obtain⟨T',F'⟩:=Q
 cases h
 rfl
theorem Qky(h:P.toTables=Q.toTables)(t:TypeId)(w:World):(typeInfo t).run P w=(typeInfo t).run Q w:=by
 show(match P.info? t with|some i=>pure i|none=>stuck _:Sem TypeInfo).run P w=(match Q.info? t with|some i=>pure i|none=>stuck _:Sem TypeInfo).run Q w
 rw[Qcc h]
 cases Q.info? t<;>rfl
theorem QgM{α β:Type}{s:Sem α}{k:α→Sem β}(hs: ∀w,s.run P w=s.run Q w)(hk: ∀a w,(k a).run P w=(k a).run Q w)(w:World):(s>>= k).run P w=(s>>= k).run Q w:=by
 have e1:=Sem.run_bind P w s k
 have e2:=Sem.run_bind Q w s k
 refine e1.trans (Eq.trans ?_ e2.symm)
 rw[hs]
 cases s.run Q w<;>simp[hk]
theorem QxM(h:P.toTables=Q.toTables)(t:TypeId)(w:World):(sizeOf t).run P w=(sizeOf t).run Q w:=QgM (Qky h t) (fun _ _=>rfl) w
theorem Qt2(h:P.toTables=Q.toTables)(t:TypeId)(w:World):(underlying t).run P w=(underlying t).run Q w:=by
 show(match P.underlying t with|some i=>pure i|none=>stuck _:Sem TypeDesc).run P w=(match Q.underlying t with|some i=>pure i|none=>stuck _:Sem TypeDesc).run Q w
 rw[Qbf h]
 cases Q.underlying t<;>rfl
theorem QxL(h:P.toTables=Q.toTables)(t:TypeId)(w:World):(isAgg t).run P w=(isAgg t).run Q w:=QgM (Qt2 h t) (fun a _=>by cases a<;>rfl) w
theorem QxN(h:P.toTables=Q.toTables)(t:TypeId)(w:World):(zeroValue t).run P w=(zeroValue t).run Q w:=QgM (Qky h t) (fun a _=>by cases a.zero<;>rfl) w
theorem Qiz(h:P.toTables=Q.toTables): ∀(n:Nat) (t:TypeId),P.eqGuardType n t=Q.eqGuardType n t
 |0,_=>by unfold Program.eqGuardType;rfl
 |n+1,t=>by
  unfold Program.eqGuardType
  rw[Qbf h]
  simp only[Qiz h n]
theorem Qfn(h:P.toTables=Q.toTables): ∀(n:Nat) (t u:TypeId),P.alikeButTags n t u=Q.alikeButTags n t u
 |0,_,_=>by unfold Program.alikeButTags;rfl
 |n+1,t,u=>by
  unfold Program.alikeButTags
  simp only[Qcc h,Qfn h n]
theorem Qxs(h:P.toTables=Q.toTables)(t:TypeId):P.eqGuardType P.depth t=Q.eqGuardType Q.depth t:=by
 rw[Qiz h]
 obtain⟨T,F⟩:=P
 obtain⟨T',F'⟩:=Q
 cases h
 rfl
theorem QxR(h:P.toTables=Q.toTables)(t:TypeId):P.stoodInHeld t=Q.stoodInHeld t:=by
 obtain⟨T,F⟩:=P
 obtain⟨T',F'⟩:=Q
 cases h
 unfold Program.stoodInHeld Program.stoodInAs
 simp only[Qbf (P:=⟨T,F⟩) (Q:=⟨T,F'⟩) rfl,Qcc (P:=⟨T,F⟩) (Q:=⟨T,F'⟩) rfl,Qfn (P:=⟨T,F⟩) (Q:=⟨T,F'⟩) rfl]
 rfl
end
def Qdv(fn:Func):Bool:=fn.body.isNone && ((Extern.findNext fn).isNone && (fn.name == "internal/reflectlite.TypeOf" || fn.name == "(internal/reflectlite.rtype).Comparable"))
def Qac(T:Tables)(d:FuncId)(st:Code)(i:FuncId)(fn:Func):Func:=
 if i=d then{ fn with body:=some st,results:=#[.tmp 4],ntmps:=25} else if(okFn T fn || Qdv fn)=true then fn else{ fn with body:=some (.refuse ""),name:= "" }
theorem Qwf{P Q:Program}(h:P.toTables=Q.toTables)(t:TypeId):P.underlyingId t=Q.underlyingId t:=by
 unfold Program.underlyingId
 rw[Qcc h]
theorem Qj0(T:Tables)(F G:Array Func)(t:TypeId):Program.packed ⟨T,F⟩ t=Program.packed ⟨T,G⟩ t:=by
 have h:(⟨T,F⟩:Program).toTables=(⟨T,G⟩:Program).toTables:=rfl
 have h2:(⟨T,F⟩:Program).depth=(⟨T,G⟩:Program).depth:=rfl
 have h3: ∀c,(⟨T,F⟩:Program).ownRow c=(⟨T,G⟩:Program).ownRow c:=fun c=>rfl
 unfold Program.packed Program.packedAs
 simp only[Qbf h,Qcc h,Qfn h,Qwf h,h2,h3]
theorem QiK(T:Tables)(F G:Array Func): ∀(n:Nat) (t:TypeId),Program.holdsPacked ⟨T,F⟩ n t=Program.holdsPacked ⟨T,G⟩ n t
 |0,_=>by unfold Program.holdsPacked;rfl
 |n+1,t=>by
  unfold Program.holdsPacked
  rw[Qj0 T F G,Qbf (P:=⟨T,F⟩) (Q:=⟨T,G⟩) rfl]
  simp only[QiK T F G n]
theorem Qv0(n:String):Tab (cutType n):=Tab.program (fun _ _ _=>rfl) fun p=>by
 cases h:p.cutTypes.find? (·.1 == n) with
 |none=>exact Tab.stuck
 |some x=>exact Tab.pure
theorem Qv5(t:TypeId):Tab (typeInfo t):=Tab.program (fun _ _ _=>rfl) fun p=>by
 cases h:p.info? t with
 |none=>exact Tab.stuck
 |some x=>exact Tab.pure
theorem Qv6(args:Array Value):Tab (Extern.ReflectliteType.typeOf args):=by
 obtain⟨l⟩:=args
 rcases l with _|⟨x,_|⟨y,l⟩⟩
 ·exact Tab.stuck
 ·cases x<;>first
   |exact Tab.stuck
   |exact Tab.pure
   |exact Tab.bind (Qv0 _) fun a=>Tab.bind (Tab.program (fun _ _ _=>rfl) fun p=>Tab.pure) fun h=>Tab.pure
 ·exact Tab.stuck
theorem Qv3(h:Value):Tab (Extern.Rtype.ofHandle h):=Tab.program (fun _ _ _=>by cases h<;>rfl) fun p=>by
 cases e:handleType p h with
 |none=>exact Tab.stuck
 |some x=>exact Tab.pure
theorem Qv1(m:String)(t:TypeId):Tab (Extern.Rtype.noPack m t):=Tab.program (fun T F G=>by simp only[Qj0 T F G]) fun p=>by
 split
 ·exact Tab.noEntry
 ·exact Tab.pure
theorem Qv2(m:String)(t:TypeId):Tab (Extern.Rtype.noPackHeld m t):=Tab.program (fun T F G=>by simp only[QiK T F G]) fun p=>Tab.program (fun T F G=>rfl) fun q=>by
 split
 ·exact Tab.noEntry
 ·exact Tab.pure
theorem Qv4(v:Value):Tab (Extern.ReflectliteType.ofRtype v):=by
 cases v<;>first
  |exact Tab.stuck
  |(rename_i a
    obtain⟨l⟩:=a
    rcases l with _|⟨x,_|⟨y,l⟩⟩<;>first
     |exact Tab.stuck
     |exact Tab.bind (Qv3 _) fun t=>Tab.bind (Qv1 _ _) fun _=>Tab.pure)
theorem QvZ(args:Array Value):Tab (Extern.ReflectliteType.method (fun t=>do Extern.Rtype.noPackHeld "Comparable" t;pure (.bool (←typeInfo t).comparable)) args):=by
 obtain⟨l⟩:=args
 rcases l with _|⟨x,_|⟨y,l⟩⟩
 ·exact Tab.stuck
 ·exact Tab.bind (Qv4 x) fun t=>Tab.bind (Qv2 _ _) fun _=>Tab.bind (Qv5 _) fun i=>Tab.pure
 ·exact Tab.stuck
theorem Qpl{fn:Func}(h:fn.name= "internal/reflectlite.TypeOf"):Extern.find fn=some Extern.ReflectliteType.typeOf:=by
 unfold Extern.find
 rw[h]
 rfl
theorem Qpk{fn:Func}(h:fn.name= "(internal/reflectlite.rtype).Comparable"):Extern.find fn=some (Extern.ReflectliteType.method fun t=>do Extern.Rtype.noPackHeld "Comparable" t;pure (.bool (←typeInfo t).comparable)):=by
 unfold Extern.find
 rw[h]
 rfl
theorem Qh2{fn:Func}(h:Qdv fn=true):Qd9 fn:=by
 unfold Qdv at h
 simp only[Bool.and_eq_true,Bool.or_eq_true,Option.isNone_iff_eq_none,beq_iff_eq] at h
 obtain⟨hb,hx,hn⟩:=h
 rcases hn with hn|hn
 ·exact⟨hb,by rw[hn];decide,hx,_,Qpl hn,Qv6⟩
 ·exact⟨hb,by rw[hn];decide,hx,_,Qpk hn,QvZ⟩
section
variable {T : Tables} {F : Array Func} {d : FuncId} {st : Code} {fn : Func} {i : FuncId}
theorem QxO(h:F[i]? =some fn)(hi:i≠d)(hk:okFn T fn=true):(F.mapIdx (Qac T d st))[i]? =some fn:=by
 rw[Array.getElem?_mapIdx,h]
 simp[Qac,hi,hk]
theorem QxQ(h:F[i]? =some fn)(hi:i≠d)(hk:Qdv fn=true):(F.mapIdx (Qac T d st))[i]? =some fn:=by
 rw[Array.getElem?_mapIdx,h]
 simp[Qac,hi,hk]
theorem QxP(h:F[d]? =some fn):(F.mapIdx (Qac T d st))[d]? =some { fn with body:=some st,results:=#[.tmp 4],ntmps:=25}:=by
 rw[Array.getElem?_mapIdx,h]
 simp[Qac]
theorem Qte(hk:okFn T fn=true):fn.body.isSome=true∧(fn.name == "runtime.NumGoroutine")=false:=by
 unfold okFn at hk
 simp only[Bool.and_eq_true,Bool.not_eq_true'] at hk
 refine⟨?_,hk.2⟩
 cases hc:fn.body with
 |none=>rw[hc] at hk;simp at hk
 |some c=>rfl
theorem QxV(hd:F[d]? =some fn)(hb:fn.body.isSome=true)(hn:(fn.name == "runtime.NumGoroutine")=false):Twin F (F.mapIdx (Qac T d st)) d:=by
 refine⟨by simp,fun f g hg=>?_,fun f hf=>?_,fun g _=>⟨fn,hd,hb,hn⟩,fun f=>?_⟩
 ·have hg':=hg
  rw[Array.getElem?_mapIdx] at hg
  obtain⟨g0,h0,rfl⟩:=Option.map_eq_some_iff.1 hg
  revert hg'
  unfold Qac
  split
  ·rename_i e
   subst e
   obtain rfl:fn=g0:=Option.some.inj (hd.symm.trans h0)
   exact fun _=> .inl ⟨rfl,hn⟩
  ·split
   ·rename_i hk
    intro hg'
    rcases Bool.or_eq_true _ _ ▸ hk with hk|hk
    ·exact .inl (Qte hk)
    ·exact .inr ⟨Qh2 hk,hg'.trans h0.symm⟩
   ·exact fun _=> .inl ⟨rfl,show(("" :String) == "runtime.NumGoroutine")=false by decide⟩
 ·rw[Array.getElem?_mapIdx]
  cases h:F[f]? with
  |none=>exact .inl rfl
  |some g=>
   simp only[Option.map_some,Qac,if_neg hf]
   by_cases hk:(okFn T g || Qdv g)=true
   ·rw[if_pos hk];exact .inl rfl
   ·rw[if_neg hk];exact .inr ⟨_,_,rfl,rfl⟩
 ·rw[Array.getElem?_mapIdx]
  cases h:F[f]? with
  |none=>rfl
  |some g=>
   simp only[Option.map_some,Option.any_some]
   unfold Qac
   split
   ·rfl
   ·split<;>rfl
theorem Qxq(hst:XG T st=true)(d0:FuncId):JL T (F.mapIdx (Qac T d st)) d0:=by
 intro f g c hg _ hc
 rw[Array.getElem?_mapIdx] at hg
 obtain⟨g0,h0,rfl⟩:=Option.map_eq_some_iff.1 hg
 unfold Qac at hc
 split at hc
 ·have e:st=c:=Option.some.inj hc
  subst e
  exact hst
 ·split at hc
  ·rename_i hk
   rcases Bool.or_eq_true _ _ ▸ hk with hk|hk
   ·unfold okFn at hk
    rw[hc] at hk
    simp only[Bool.and_eq_true] at hk
    exact hk.1
   ·have:=(Qh2 hk).1
    rw[hc] at this
    cases this
  ·have e:Code.refuse "" =c:=Option.some.inj hc
   subst e
   rfl
theorem QxU{G:Array Func}(h: ∀(f:FuncId) fn,G[f]? =some fn→(fn.body.isSome=true∧(fn.name == "runtime.NumGoroutine")=false)∨(Qd9 fn∧G[f]? =F[f]?)):Twin G G G.size:=
 ⟨rfl,fun f fn hg=>(h f fn hg).imp (fun x=>x) fun x=>⟨x.1,rfl⟩,fun _ _=> .inl rfl,fun g hg=>absurd ((Array.getElem?_eq_none (Nat.le_refl G.size)).symm.trans hg) (by simp),fun _=>rfl⟩
theorem Qxr{P:Program}(h:P.funcs[i]? =some fn)(hb:fn.body.isSome=true)(hn:(fn.name == "runtime.NumGoroutine")=false)(args:Array Value)(w:World):(callFunc i args).run P w= .ok (.enter i args) w:=by
 have e:=Qdr (args:=args) h hb hn w #[]
 rw[Sem.runT_eq] at e
 exact(Prod.mk.inj e).1
end
end Go.Proofs.YtgaimkihacljdaaGreat
