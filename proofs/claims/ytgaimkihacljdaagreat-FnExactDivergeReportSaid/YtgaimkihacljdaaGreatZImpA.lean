/- Lemmas: RFun ImpA ImpB. -/
import Derived.Test.YtgaimkihacljdaaGreatZBase
import Derived.RangeFuncNested
import Derived.RangeFuncBound
import Derived.RangeFuncCalls
import Derived.RangeFuncLeaves
import Derived.Shelf.Abstract
import Derived.Shelf.RegionOpen
import Derived.OwnWalkIn
import Derived.TacticsInMore
import Derived.LoopNIn
import Derived.LoopIn
import Derived.Test.YtgaimkihacljdaaGreatZHead
import Derived.Deep.DeepMust
/- A range over a function whose iterator keeps cells of its own: the law of such a loop. No program is named here. -/
namespace Go.Proofs.YtgaimkihacljdaaGreat
open Go.RowKit Go.Shelf
def SeqN(P:Program)(gf:Nat)(lb:Array Value)(enc:Nat→Array Value)(N:Nat)(Kp Ab:Nat→World→World→Prop)(w0:World):Prop:=
 ∀(l:Nat) (J Jx:Nat→World→Prop) (W:World),Below w0.heap.size w0 W→(∀k A A',J k A→Ab W.heap.size A A'→J k A')→
  (∀k W1,k<N→J k W1→YieldAt Fence.wide 1 P l (enc k) W1 fun e W'=>(e= .returned (.bool true)∧J (k+1) W'∧Kp W.heap.size W1 W')∨(e= .returned (.bool false)∧Jx k W'))→
  J 0 W→CallsIn Fence.wide 2 P gf (#[.func (.yield l) #[] #[]]++lb) W fun e W'=>(∃v,e= .returned v)∧(J N W'∨∃k,k<N∧Jx k W')
def QtS(B:Nat)(Kp:Nat→World→World→Prop)(I Ix:Nat→World→Prop)(k:Nat)(W:World):Exit→Act→World→Prop
 | .normal,_,W'=>KeepsFrom B W W'∧Kp (B+2) W W'∧I (k+1) W'
 | .ret,_,W'=>KeepsFrom B W W'∧Ix k W'
 |_,_,_=>False
theorem QcO{B:Nat}{W:World}{l:Nat}(hl:B≤l)(o:Obj):Below B W (W.putObj l o):=⟨rfl,rfl,rfl,by simp,fun k hk=>World.putObj_heap_other (by omega)⟩
theorem Ql0{P:Program}{g:Operand}{ps:Array Tmp}{assign body:Code}{Q:Exit→Act→World→Prop}{a:Act}{w:World}
 {gf:Nat}{lb:Array Value}(hg:a.eval g= .func (.func gf) #[] lb)(eg: ∀args w,(callFunc gf args).run P w= .ok (.enter gf args) w)
 {enc:Nat→Array Value}{N:Nat}{Kp Ab:Nat→World→World→Prop}(hseq:SeqN P gf lb enc N Kp Ab w)(hAb: ∀B A A',B≤A.heap.size→Ab B A A'→Below B A A')
 (hKt: ∀B A C D,Kp B A C→Kp B C D→Kp B A D)(hKb: ∀A o,Kp (w.heap.size+2) A (A.putObj (w.heap.size+1) o))(hps: ∀k,(enc k).size=ps.size)
 (I Ix:Nat→World→Prop)(hI: ∀k A A',I k A→Ab (w.heap.size+2) A A'→I k A')(hIo: ∀k A b o,w.heap.size≤b→b<w.heap.size+2→I k A→I k (A.putObj b o))(hIa: ∀A o,I 0 A→I 0 (A.alloc o))
 (hIxo: ∀k A b o,w.heap.size≤b→b<w.heap.size+2→Ix k A→Ix k (A.putObj b o))(h0:I 0 w)(Ax:Nat→Act→World→Prop)(hAxo: ∀k a' A b o,w.heap.size≤b→b<w.heap.size+2→Ax k a' A→Ax k a' (A.putObj b o))
 (hassign: ∀(l k:Nat) (W:World) (K:Act→World→Prop),w.heap.size+2≤W.heap.size→I k W→(∀a' W',KeepsFrom w.heap.size W W'→Kp (w.heap.size+2) W W'→I k W'→Ax k a' W'→K a' W')→
   assign.wpIn (Fence.wide.inRound l) 1 P (Exit.then K (fun _ _ _=>False)) { tmps:=(ps.zip (enc k)).foldl (fun t (p,v)=>t.setIfInBounds p v) a.tmps,defers:=[]} W)
 (hbody: ∀(l k:Nat) (a':Act) (W:World),w.heap.size+2≤W.heap.size→I k W→Ax k a' W→k<N→body.wpIn (Fence.wide.inRound l) 1 P (QtS w.heap.size Kp I Ix k W) a' W)
 (hdone: ∀W:World,w.heap.size+2≤W.heap.size→I N W→W.heap[w.heap.size]? =some (.deferred (some []))→Q .normal { a with defers:={ target:= .collected w.heap.size,args:=#[]} :: a.defers} W)
 (hstop: ∀(k:Nat) (W:World),w.heap.size+2≤W.heap.size→k<N→Ix k W→W.heap[w.heap.size]? =some (.deferred (some []))→Code.ret.wpIn Fence.wide 3 P Q { a with defers:={ target:= .collected w.heap.size,args:=#[]} :: a.defers} W):
 (Code.rangeFunc g ps assign body).wpIn Fence.wide 3 P Q a w:=by
 refine wpIn_rangeFunc ?_
 intro fn hfn
 obtain⟨rec,hrec⟩: ∃rec:LoopState→Option Code→Loop,rec=fun st pe=>{ state:=st,pending:=pe,fn,tmps:=a.tmps,params:=ps,assign,body,defers:=w.heap.size}:=⟨_,rfl⟩
 obtain⟨W1,hW1⟩: ∃W1,(w.alloc (.deferred (some []))).alloc (.loop (rec .ready none))=W1:=⟨_,rfl⟩
 have hL1:W1.heap[w.heap.size+1]? =some (.loop (rec .ready none)):=by
  rw[←hW1];have:=World.alloc_heap_new (w.alloc (.deferred (some []))) (.loop (rec .ready none));rwa [World.size_alloc] at this
 have hK1:W1.heap[w.heap.size]? =some (.deferred (some [])):=by
  rw[←hW1];exact(Below.heap_alloc _ _ _ (by simp)).trans (World.alloc_heap_new w _)
 have hI1:I 0 W1:=by rw[←hW1];exact hIa _ _ (hIa _ _ h0)
 have hs1:W1.heap.size=w.heap.size+2:=by rw[←hW1];simp
 have hb1:Below w.heap.size w W1:=by rw[←hW1];exact((Below.refl _ w).alloc (Nat.le_refl _) _).alloc (by simp) _
 refine⟨w.heap.size+1,[{ target:= .collected w.heap.size,args:=#[]}],W1,{ target:= .fn (.func gf) lb,args:=#[.func (.yield (w.heap.size+1)) #[] #[]]},W1,gf,
  #[.func (.yield (w.heap.size+1)) #[] #[]]++lb,W1,?_,?_,fun _ _=>trivial,?_,fun h=>by simp[Fence.wide] at h,?_⟩
 ·rw[←hW1,hrec];exact run_enterLoop_outer _ _ _ _ _
 ·simp only[resolve,hg]
  simp[go_sem]
 ·simp[invoke,go_sem,eg]
 ·refine(hseq (w.heap.size+1)
   (fun k W=>I k W∧w.heap.size+2≤W.heap.size∧W.heap[w.heap.size+1]? =some (.loop (rec .ready none))∧W.heap[w.heap.size]? =some (.deferred (some [])))
   (fun k W=>Ix k W∧w.heap.size+2≤W.heap.size∧W.heap[w.heap.size+1]? =some (.loop (rec .done (some .ret)))∧W.heap[w.heap.size]? =some (.deferred (some [])))
   W1 hb1 ?_ ?_ ⟨hI1,by omega,hL1,hK1⟩).mono ?_
  ·rintro k A A' ⟨h1,h2,h3,h4⟩ hab
   rw[hs1] at hab
   have hb:=hAb _ _ _ h2 hab
   exact⟨hI k A A' h1 hab,Nat.le_trans h2 hb.size,(hb.block _ (by omega)).trans h3,(hb.block _ (by omega)).trans h4⟩
  ·rintro k W hk ⟨hi,hz,hl,hd⟩
   have hy:=run_yield (P:=P) (args:=enc k) hl (by rw[hrec];exact hps k)
   rw[hrec] at hy
   refine⟨fn,_,assign,body,hy,roundIn_of_wpIn hfn (hassign _ k W _ hz hi ?_)⟩
   clear hy
   intro a' Wa hkfa hkpa hia hax
   replace hl:=hkfa.same _ _ (by omega) hl rfl
   replace hd:=hkfa.same _ _ (Nat.le_refl _) hd rfl
   replace hz:=Nat.le_trans hz hkfa.size
   replace hi:=hia
   clear hia
   revert hkpa hkfa
   generalize W=Wb
   intro hkfa hkpa
   obtain⟨W,rfl⟩: ∃W,W=Wa:=⟨_,rfl⟩
   refine⟨_,run_beginRound hl (by rw[hrec]),?_⟩
   have hl2:(W.putObj (w.heap.size+1) (.loop { rec .ready none with state:= .busy})).heap[w.heap.size+1]? =some (.loop { rec .ready none with state:= .busy}):=World.putObj_heap_same (by omega)
   have hk2:(W.putObj (w.heap.size+1) (.loop { rec .ready none with state:= .busy})).heap[w.heap.size]? =some (.deferred (some [])):=(World.putObj_heap_other (by omega)).trans hd
   refine wpIn_mono (hbody _ k _ _ (by simpa using hz) (hIo _ _ _ _ (by omega) (by omega) hi) (hAxo _ _ _ _ _ (by omega) (by omega) hax) hk) ?_
   have fin: ∀(jump:Option Code) (W3:World),KeepsFrom w.heap.size (W.putObj (w.heap.size+1) (.loop { rec .ready none with state:= .busy})) W3→
    (Instr.endRound (w.heap.size+1) jump).run P W3= .ok (.bool jump.isNone) (W3.putObj (w.heap.size+1) (.loop (rec (if jump.isNone then .ready else .done) jump)))∧
    w.heap.size+2≤W3.heap.size∧
    (W3.putObj (w.heap.size+1) (.loop (rec (if jump.isNone then .ready else .done) jump))).heap[w.heap.size+1]? =some (.loop (rec (if jump.isNone then .ready else .done) jump))∧
    (W3.putObj (w.heap.size+1) (.loop (rec (if jump.isNone then .ready else .done) jump))).heap[w.heap.size]? =some (.deferred (some [])):=fun jump W3 hk3=>by
    have hl3:=hk3.same _ _ (by omega) hl2 rfl
    have:=run_endRound (P:=P) jump hl3
    rw[hrec] at this⊢
    exact⟨this,Nat.le_trans (by simpa using hz) hk3.size,World.putObj_heap_same (Array.getElem?_eq_some_iff.1 hl3).1,(World.putObj_heap_other (by omega)).trans (hk3.same _ _ (Nat.le_refl _) hk2 rfl)⟩
   rintro e a3 W3 hp
   cases e with
   |normal=>
    obtain⟨hk3,hkp3,hi3⟩:=hp
    obtain⟨hr,hz3,hl4,hk4⟩:=fin none W3 hk3
    refine⟨_,_,hr,.inl ⟨rfl,⟨hIo _ _ _ _ (by omega) (by omega) hi3,by simpa using hz3,hl4,hk4⟩,?_⟩⟩
    rw[hs1]
    exact hKt _ _ _ _ hkpa (hKt _ _ _ _ (hKb _ _) (hKt _ _ _ _ hkp3 (hKb _ _)))
   |ret=>
    obtain⟨hk3,hi3⟩:=hp
    obtain⟨hr,hz3,hl4,hk4⟩:=fin (some .ret) W3 hk3
    exact⟨_,_,hr,.inr ⟨rfl,hIxo _ _ _ _ (by omega) (by omega) hi3,by simpa using hz3,hl4,hk4⟩⟩
   |exit id=>exact hp.elim
   |goto t=>exact hp.elim
   |panic ch=>exact hp.elim
   |outgrown=>exact hp.elim
  ·rintro e W2 ⟨⟨v,rfl⟩,(⟨hi,hz,hl,hk⟩|⟨k,hkN,hi,hz,hl,hk⟩)⟩
   ·exact⟨none,_,by have:=run_endLoop (P:=P) hl (by rw[hrec];simp);rw[hrec] at this;exact this,hdone _ (by simpa using hz) (hIo _ _ _ _ (by omega) (by omega) hi) ((World.putObj_heap_other (by omega)).trans hk)⟩
   ·exact⟨some .ret,_,by have:=run_endLoop (P:=P) hl (by rw[hrec];simp);rw[hrec] at this;exact this,hstop k _ (by simpa using hz) hkN (hIxo _ _ _ _ (by omega) (by omega) hi) ((World.putObj_heap_other (by omega)).trans hk)⟩
end Go.Proofs.YtgaimkihacljdaaGreat
/- The program's arithmetic: root, coordinates, lengths. (Round B) -/
namespace Go.Proofs.YtgaimkihacljdaaGreat
open Go.ChangeShapes Go.WideShapes Go.ChangeAt Go.RowKit
theorem QsY{lo hi:Int}(h:lo+1<hi):lo<(lo+hi)/2∧(lo+hi)/2<hi:=by omega
theorem sq31{m:Int}(h0:0≤m)(h1:m≤2147483648):0≤m*m∧m*m≤4611686018427387904:=
 ⟨Int.mul_nonneg h0 h0,Qg4 h0 h1⟩
theorem Qp8(n:Int)(w:World)(h0:0≤n)(h1:n≤4000000000000):Calls Sq.prog 132 #[.int .i64 n] w fun e w'=>e= .returned (.int .i64 (isq n))∧w=w':=by
 go_enter Sq.func132, Tryz.ntmps132
 go_wp2
 go_loopw [3,4] (fun a b wr=>wr=w∧∃lo hi:Int,a= .int .i64 lo∧b= .int .i64 hi∧0≤lo∧lo<hi∧hi≤2147483648∧lo*lo≤n∧n<hi*hi) (fun a b _=>(intOf b - intOf a).toNat)
 case atStart=>exact⟨rfl,0,2147483648,rfl,rfl,by omega,by omega,by omega,by omega,by omega⟩
 case round=>
  obtain⟨rfl,lo,hi,rfl,rfl,hl0,hlh,hh,hln,hnh⟩:=hrel
  by_cases hlt:lo+1<hi
  ·obtain⟨m1,m2⟩:=QsY hlt
   obtain⟨m,hm⟩: ∃m:Int,(lo+hi)/2=m:=⟨_,rfl⟩
   rw[hm] at m1 m2
   obtain⟨s0,s1⟩:=sq31 (m:=m) (by omega) (by omega)
   have hm3:(lo+hi).tdiv 2=m:=by rw[Int.tdiv_eq_ediv_of_nonneg (by omega)];exact hm
   by_cases hc:m*m≤n
   ·have Hln:=Lib.hid hln
    have Hnh:=Lib.hid hnh
    have Hc:=Lib.hid hc
    clear hln hnh
    go_wp2
    go_roundw
    case rel=>exact⟨trivial,m,hi,rfl,rfl,by omega,by omega,hh,Hc.out,Hnh.out⟩
    case measure=>simp[intOf];omega
   ·have hc2:n<m*m:=by omega
    have Hln:=Lib.hid hln
    have Hc:=Lib.hid hc2
    clear hln hnh
    go_wp2
    go_roundw
    case rel=>exact⟨trivial,lo,m,rfl,rfl,hl0,by omega,by omega,Hln.out,Hc.out⟩
    case measure=>simp[intOf];omega
  ·have hhi:hi=lo+1:=by omega
   subst hhi
   have hr:=Lib.hid (Qi6 hl0 hln hnh)
   clear hln hnh
   go_wp2
   go_ret
   exact⟨QU hr.out.symm,rfl⟩
theorem Qge(n:Int)(w:World):Calls Sq.prog 57 #[.int .i64 n] w fun e w'=>e= .returned (.bool (inR (-1000000) 1000000 n))∧w=w':=by
 go_enter Sq.func57, Tryz.ntmps57
 go_wp2_with (go_at_call 36;refine(QZ _ _ _ _).mono ?_;rintro e w' ⟨rfl,rfl⟩)
 go_ret
 exact⟨rfl,rfl⟩
theorem JG(v:V2)(w:World):Calls Sq.prog 37 #[.agg #[.int .i64 v.x,.int .i64 v.y]] w fun e w'=>e= .returned (.bool (vOk v))∧Below w.heap.size w w':=by
 cases h:inR (-1000000) 1000000 v.x
 ·have hv:Hid (vOk v=false):=Lib.hid (by unfold vOk;rw[h];rfl)
  go_enter Sq.func37, Tryz.ntmps37
  go_wp2_with (go_at_call 57;refine(Qge _ _).mono ?_;rw[h];rintro e w' ⟨rfl,rfl⟩)
  go_ret
  exact⟨Qs hv.out.symm,by(with_reducible repeat first|exact bl0 _ _|refine blA ?_ _|(refine blS ?_ ?_ _;(simp<;>omega))|refine blD ?_|refine blN ?_ _|refine blF ?_ ‹_›)⟩
 ·have hv:Hid (vOk v=inR (-1000000) 1000000 v.y):=Lib.hid (by unfold vOk;rw[h];rfl)
  go_enter Sq.func37, Tryz.ntmps37
  go_wp2_with fail
  refine(Qge _ _).mono ?_
  rw[h]
  rintro e w' ⟨rfl,rfl⟩
  go_wp2_with (go_at_call 57;refine(Qge _ _).mono ?_;rintro e w' ⟨rfl,rfl⟩)
  go_ret
  exact⟨Qs hv.out.symm,by(with_reducible repeat first|exact bl0 _ _|refine blA ?_ _|(refine blS ?_ ?_ _;(simp<;>omega))|refine blD ?_|refine blN ?_ _|refine blF ?_ ‹_›)⟩
theorem Qpt(n:Int)(w:World)(h: -2000000000≤n∧n≤2000000000):Calls Sq.prog 131 #[.int .i64 n] w fun e w'=>e= .returned (.bool (true))∧w=w':=by
 obtain⟨h1,h2⟩:=h
 have h3:decide (-2000000000≤n)=true:=by simpa using h1
 go_enter Sq.func131, Tryz.ntmps131
 go_wp2
 go_ret
 exact⟨rfl,rfl⟩
theorem Qp1(n:Int)(w:World)(h: -2000000000≤n∧n≤2000000000):Calls Sq.prog 126 #[.int .i64 n] w fun e w'=>e= .returned (.bool (true))∧w=w':=by
 go_enter Sq.func126, Tryz.ntmps126
 go_wp2_with (go_at_call 131;refine(Qpt _ _ h).mono ?_;rintro e w' ⟨rfl,rfl⟩)
 go_ret
 exact⟨rfl,rfl⟩
theorem QvB(v:V2)(w:World)(hv:vOk v=true):Calls Sq.prog 80 #[.agg #[.int .i64 v.x,.int .i64 v.y]] w fun e w'=>e= .returned (.int .i64 (len2 v))∧Below w.heap.size w w':=by
 obtain⟨x0,x1,y0,y1⟩:=ZO.1 hv
 obtain⟨a0,a1⟩:=QcB (a:=v.x) (by omega)
 obtain⟨b0,b1⟩:=QcB (a:=v.y) (by omega)
 clear hv
 go_enter Sq.func80, Tryz.ntmps80
 go_wp2
 go_ret
 exact⟨rfl,by(with_reducible repeat first|exact bl0 _ _|refine blA ?_ _|(refine blS ?_ ?_ _;(simp<;>omega))|refine blD ?_|refine blN ?_ _|refine blF ?_ ‹_›)⟩
theorem QrQ{v:V2}(hv:vOk v=true):0≤len2 v∧len2 v≤4000000000000:=by
 obtain⟨x0,x1,y0,y1⟩:=ZO.1 hv
 have ha:=QbN (a:=v.x) (c:=1000000) (by omega)
 have hb:=QbN (a:=v.y) (c:=1000000) (by omega)
 have h3:=Qbe v.x
 have h4:=Qbe v.y
 unfold len2
 omega
theorem Qar(v:V2)(w:World)(hv:vOk v=true):Calls Sq.prog 128 #[.agg #[.int .i64 v.x,.int .i64 v.y]] w fun e w'=>e= .returned (.tuple #[.int .i64 (lenV v),.bool true])∧Below w.heap.size w w':=by
 obtain⟨l0,l1⟩:=QrQ hv
 go_enter Sq.func128, Tryz.ntmps128
 go_wp2_with fail
 refine(JG v _).mono ?_
 rw[hv]
 rintro e w1 ⟨rfl,hb1⟩
 obtain⟨hc1,hf1⟩:=Qy hb1;have hy1:w.heap.size<w1.heap.size:=(by have:=hb1.size;first|omega|(simp at this;omega))
 go_wp2_with fail
 refine(QvB v _ hv).mono ?_
 rintro e w2 ⟨rfl,hb2⟩
 go_wp2_with fail
 refine(Qp8 (len2 v) _ l0 l1).mono ?_
 rintro e w3 ⟨rfl,rfl⟩
 go_wp2
 refine bodyPost_ret (v:= .tuple #[.int .i64 (lenV v),.bool true]) (by simp[results, Tryz.results128,go_sem,lenV]) rfl ⟨rfl,?_⟩
 (with_reducible repeat first|exact bl0 _ _|refine blA ?_ _|(refine blS ?_ ?_ _;(simp<;>omega))|refine blD ?_|refine blN ?_ _|refine blF ?_ ‹_›)
theorem Qiu(v:V2)(w:World)(hv:vOk v=true):Calls Sq.prog 127 #[.agg #[.int .i64 v.x,.int .i64 v.y]] w fun e w'=>e= .returned (.tuple #[.agg #[.int .i64 v.x,.int .i64 v.y],.bool true])∧Below w.heap.size w w':=by
 go_enter Sq.func127, Tryz.ntmps127
 go_wp2_with fail
 refine(JG v _).mono ?_
 rw[hv]
 rintro e w1 ⟨rfl,hb1⟩
 obtain⟨hc1,hf1⟩:=Qy hb1;have hy1:w.heap.size<w1.heap.size:=(by have:=hb1.size;first|omega|(simp at this;omega));have hz1:w.heap.size+1<w1.heap.size:=(by have:=hb1.size;first|omega|(simp at this;omega))
 go_wp2
 refine bodyPost_ret (v:= .tuple #[.agg #[.int .i64 v.x,.int .i64 v.y],.bool true]) (by simp[results, Tryz.results127,go_sem, *]) rfl ⟨rfl,?_⟩
 (with_reducible repeat first|exact bl0 _ _|refine blA ?_ _|(refine blS ?_ ?_ _;(simp<;>omega))|refine blD ?_|refine blN ?_ _|refine blF ?_ ‹_›)
theorem QjK{a k:Int}(h0: -1000000≤a)(h1:a≤1000000)(k0:0≤k)(k1:k≤2000): -2000000000≤a*k∧a*k≤2000000000:=by
 have e1:=Int.mul_le_mul_of_nonneg_right h1 k0
 have e2:=Int.mul_le_mul_of_nonneg_right h0 k0
 omega
theorem Qgd(v:V2)(k:Int)(w:World)(hv:vOk v=true)(k0:0≤k)(k1:k≤2000)(hr:vOk (QQ v k)=true):
 Calls Sq.prog 120 #[.agg #[.int .i64 v.x,.int .i64 v.y],.int .i64 k] w fun e w'=>e= .returned (.tuple #[.agg #[.int .i64 (QQ v k).x,.int .i64 (QQ v k).y],.bool true])∧Below w.heap.size w w':=by
 obtain⟨x0,x1,y0,y1⟩:=ZO.1 hv
 obtain⟨a0,a1⟩:=QjK x0 x1 k0 k1
 obtain⟨b0,b1⟩:=QjK y0 y1 k0 k1
 go_enter Sq.func120, Tryz.ntmps120
 go_wp2_with fail
 refine(JG v _).mono ?_
 rw[hv]
 rintro e w1 ⟨rfl,hb1⟩
 obtain⟨hc1,hf1⟩:=Qy hb1;have hy1:w.heap.size<w1.heap.size:=(by have:=hb1.size;first|omega|(simp at this;omega));have hz1:w.heap.size+1<w1.heap.size:=(by have:=hb1.size;first|omega|(simp at this;omega))
 go_wp2_with fail
 refine(Qp1 k _ (by omega)).mono ?_
 rintro e w2 ⟨rfl,rfl⟩
 go_wp2_with fail
 refine(Qiu (QQ v k) _ hr).mono ?_
 rintro e w3 ⟨rfl,hb3⟩
 have hd3:Below w.heap.size w w3:=by(with_reducible repeat first|exact bl0 _ _|refine blA ?_ _|(refine blS ?_ ?_ _;(simp<;>omega))|refine blD ?_|refine blN ?_ _|refine blF ?_ ‹_›)
 have R1:Bk w1 (w.heap.size+1) 37 #[.int .i64 0,.int .i64 0]:=(Bk.new (w.alloc (.cells #[.int .i64 v.x,.int .i64 v.y] 37)) _ _ (by simp)).later hb1
 have R3:=R1.later hb3
 have z3:=R3.lt
 obtain⟨⟨r0,r1⟩,rf⟩:=R3.c2
 go_wp2
 refine bodyPost_ret (v:= .tuple #[.agg #[.int .i64 (QQ v k).x,.int .i64 (QQ v k).y],.bool true]) (by simp[results, Tryz.results120,go_sem, *]) rfl ⟨rfl,?_⟩
 (with_reducible repeat first|assumption|exact bl0 _ _|refine blA ?_ _|(refine blS ?_ ?_ _;(simp<;>omega))|refine blD ?_|refine blN ?_ _|refine blF ?_ ‹_›)
end Go.Proofs.YtgaimkihacljdaaGreat
/- The program's directions (an iterator that keeps cells of its own), VecAdd, VecClamp. (Round B) -/
namespace Go.Proofs.YtgaimkihacljdaaGreat
open Go.ChangeShapes Go.WideShapes Go.ChangeAt Go.RowKit Go.Shelf
attribute [local go_sem] Oper.semAt_some
theorem Bk.putObj{w:World}{g b:Nat}{t:TypeId}{cs:Array Value}(h:Bk w g t cs)(hne:g≠b)(o:Obj):Bk (w.putObj b o) g t cs:=(World.putObj_heap_other hne).trans h
def XK(B:Nat)(A A':World):Prop:=A.heap.size≤A'.heap.size∧∀k,B≤k→k<A.heap.size→A'.heap[k]? =A.heap[k]?
theorem XK.refl(B:Nat)(A:World):XK B A A:=⟨Nat.le_refl _,fun _ _ _=>rfl⟩
theorem XK.trans{B:Nat}{A C D:World}(h:XK B A C)(k:XK B C D):XK B A D:=⟨Nat.le_trans h.1 k.1,fun i h1 h2=>(k.2 i h1 (Nat.lt_of_lt_of_le h2 h.1)).trans (h.2 i h1 h2)⟩
theorem XK.putObj{B b:Nat}(A:World)(hb:b<B)(o:Obj):XK B A (A.putObj b o):=⟨by simp,fun k h1 _=>World.putObj_heap_other (by omega)⟩
theorem XK.setCell{B:Nat}(A:World){p:Addr}(hb:p.block<B)(v:Value):XK B A (A.setCell p v):=⟨by simp,fun k h1 _=>Below.heap_setCell A p v k (by omega)⟩
theorem XK.alloc{B:Nat}(A:World)(o:Obj):XK B A (A.alloc o):=⟨by simp,fun k _ h2=>Below.heap_alloc A o k h2⟩
theorem Bk.up{w w':World}{B g:Nat}{t:TypeId}{cs:Array Value}(h:Bk w g t cs)(hk:XK B w w')(hg:B≤g):Bk w' g t cs:=(hk.2 g hg h.lt).trans h
def rot(v:V2):V2:=⟨-v.y,v.x⟩
def dirK(k:Nat):V2:=dirV (k:Int)
theorem Qot: ∀k,k<12→(rot (dirK k)).x=(dirK (k+4)).x∧(rot (dirK k)).y=(dirK (k+4)).y:=by decide
theorem Qos: ∀k,k<16→ -1000≤(dirK k).x∧(dirK k).x≤1000∧ -1000≤(dirK k).y∧(dirK k).y≤1000:=by decide
theorem V2.ext'{u v:V2}(h:u.x=v.x∧u.y=v.y):u=v:=by
 obtain⟨a,b⟩:=u
 obtain⟨c,d⟩:=v
 obtain⟨rfl,rfl⟩:=h
 rfl
theorem Bk.c8{w:World}{g:Nat}{t:TypeId}{v0 v1 v2 v3 v4 v5 v6 v7:Value}(h:Bk w g t #[v0,v1,v2,v3,v4,v5,v6,v7]):(w.cell? ⟨g,0,none⟩=some v0∧w.cell? ⟨g,1,none⟩=some v1∧w.cell? ⟨g,2,none⟩=some v2∧w.cell? ⟨g,3,none⟩=some v3∧w.cell? ⟨g,4,none⟩=some v4∧w.cell? ⟨g,5,none⟩=some v5∧w.cell? ⟨g,6,none⟩=some v6∧w.cell? ⟨g,7,none⟩=some v7)∧∀i,w.frozen? ⟨g,i,none⟩=false:=⟨⟨h.cell 0,h.cell 1,h.cell 2,h.cell 3,h.cell 4,h.cell 5,h.cell 6,h.cell 7⟩,h.fr⟩
theorem QdS{F:Fence}{n m:Nat}{P:Program}{c:Code}{Q:Exit→Act→World→Prop}{a:Act}{w0:World}(Fw:World→Prop)(h0:Fw w0)(h: ∀w1,Fw w1→Code.roundsIn F n P c Q m a w1):Code.roundsIn F n P c Q m a w0:=h w0 h0
def QaP(a b c d:V2):Array Value:=#[.int .i64 a.x,.int .i64 a.y,.int .i64 b.x,.int .i64 b.y,.int .i64 c.x,.int .i64 c.y,.int .i64 d.x,.int .i64 d.y]
def sv(n m:Nat):V2:=if n<4 then dirK (4*n+m) else rot (dirK (12+m))
theorem Qfb{n m:Nat}(hn:n<4)(hm:m<4):rot (sv n m)=sv (n+1) m:=by
 unfold sv
 rw[if_pos hn]
 by_cases h:n+1<4
 ·rw[if_pos h,V2.ext' (Qot _ (by omega))];congr 1;omega
 ·rw[if_neg h];congr 2;omega
theorem QlE{n m:Nat}(hn:n<4):sv n m=dirK (4*n+m):=if_pos hn
set_option maxRecDepth 100000 in
set_option maxHeartbeats 2000000 in
theorem Qow(l:Nat)(J Jx:Nat→World→Prop)(W:World)(hJ: ∀k A A',J k A→Below W.heap.size A A'→J k A')
 (hY: ∀k W1,k<16→J k W1→YieldAt Fence.wide 1 Sq.prog l #[.agg #[.int .i64 (dirK k).x,.int .i64 (dirK k).y]] W1 fun e W'=>(e= .returned (.bool true)∧J (k+1) W'∧XK W.heap.size W1 W')∨(e= .returned (.bool false)∧Jx k W'))
 (h0:J 0 W):CallsIn Fence.wide 2 Sq.prog 130 #[.func (.yield l) #[] #[]] W fun e W'=>(∃v,e= .returned v)∧(J 16 W'∨∃k,k<16∧Jx k W'):=by
 refine callsIn_of_wp Sq.func130 rfl trivial ?_ rfl
 simp only[Tryz.ntmps130,List.size_toArray,List.length_cons,List.length_nil,Nat.reduceAdd,Nat.reduceSub,Array.replicate_succ,Array.replicate_zero,List.push_toArray,List.append_toArray,List.nil_append,List.cons_append]
 gi_wp2
 gi_loopw [10] (fun j wr=>∃(n:Nat) (a b c d:V2),n≤4∧j= .int .i64 n∧(a=sv n 0∧b=sv n 1∧c=sv n 2∧d=sv n 3)∧Bk wr W.heap.size 37 (QaP a b c d)∧J (4*n) wr∧W.heap.size<wr.heap.size) (fun j _=>(4 - intOf j).toNat)
 case atStart=>exact⟨0,sv 0 0,sv 0 1,sv 0 2,sv 0 3,by omega,rfl,⟨rfl,rfl,rfl,rfl⟩,Bk.new _ _ _ (by simp),hJ _ _ _ h0 (Qf (Below.refl _ _) _),by simp⟩
 case round=>
  obtain⟨n,a,b,c,d,hn,rfl,⟨ha,hb,hc,hd⟩,hq,hj,hz⟩:=hrel
  by_cases hlt:n<4
  ·have Ha:=Lib.hid ha;have Hb:=Lib.hid hb;have Hc:=Lib.hid hc;have Hd:=Lib.hid hd
   have hbd: ∀i v,i<4→v=sv n i→ -1000≤v.x∧v.x≤1000∧ -1000≤v.y∧v.y≤1000:=fun i v hi e=>by rw[e,QlE hlt];exact Qos _ (by omega)
   obtain⟨xa0,xa1,ya0,ya1⟩:=hbd 0 a (by omega) ha
   obtain⟨xb0,xb1,yb0,yb1⟩:=hbd 1 b (by omega) hb
   obtain⟨xc0,xc1,yc0,yc1⟩:=hbd 2 c (by omega) hc
   obtain⟨xd0,xd1,yd0,yd1⟩:=hbd 3 d (by omega) hd
   have HY:Hid (∀i v W1,i<4→v=sv n i→J (4*n+i) W1→YieldAt Fence.wide 1 Sq.prog l #[.agg #[.int .i64 v.x,.int .i64 v.y]] W1 fun e W'=>(e= .returned (.bool true)∧J (4*n+i+1) W'∧XK W.heap.size W1 W')∨(e= .returned (.bool false)∧Jx (4*n+i) W')):=Lib.hid (fun i v W1 hi e hj=>by rw[e,QlE hlt];exact hY _ _ (by omega) hj)
   have HJ:=Lib.hid hJ
   clear ha hb hc hd hbd hY hJ
   gi_wp2
   refine wpIn_loop_rounds 5 ?_
   refine QdS (fun W1=>Bk W1 W.heap.size 37 (QaP a b c d)∧J (4*n+0) W1∧W.heap.size<W1.heap.size) ⟨hq,hj,hz⟩ ?_
   clear hq hj hz
   rintro wr0 ⟨hq,hj,hz⟩
   rw[roundsIn_succ]
   obtain⟨⟨q0,q1,q2,q3,q4,q5,q6,q7⟩,qf⟩:=hq.c8
   obtain⟨fn0,tmps0,assign0,body0,hy,hR⟩:=HY.out 0 a (wr0.alloc (.cells #[.int .i64 a.x,.int .i64 a.y] 37)) (by omega) Ha.out (HJ.out _ _ _ hj ((Below.refl _ _).alloc (by omega) _))
   gi_wp2
   clear hy
   refine hR.mono ?_
   clear hR
   rintro e W' (⟨rfl,hj',hk⟩|⟨rfl,hjx⟩)
   rotate_left
   ·gi_wp2
    refine bodyPost_ret (results_none rfl _ _ _) rfl ?_
    exact⟨⟨_,rfl⟩,.inr ⟨4*n+0,by omega,hjx⟩⟩
   have hq':=(hq.alloc (.cells #[.int .i64 a.x,.int .i64 a.y] 37)).up hk (Nat.le_refl _)
   have hv':=(Bk.new wr0 37 #[.int .i64 a.x,.int .i64 a.y] rfl).up hk (by omega)
   have hz':=hq'.lt;have hz2:=hv'.lt
   clear q0 q1 q2 q3 q4 q5 q6 q7 qf hq hk hj
   obtain⟨⟨q0,q1,q2,q3,q4,q5,q6,q7⟩,qf⟩:=hq'.c8
   obtain⟨⟨v0,v1⟩,vf⟩:=hv'.c2
   gi_wp2
   refine QdS (fun W1=>Bk W1 W.heap.size 37 (QaP ⟨-a.y,a.x⟩ b c d)∧J (4*n+1) W1∧W.heap.size<W1.heap.size) ⟨?_,?_,?_⟩ ?_
   ·simp only[QaP] at hq'⊢;(repeat first|(with_reducible first|assumption|exact kN _ _ _ (by simp)|refine kA ?_ _|refine kD ?_|refine kW ?_ _|apply Bk.set'|refine kF ?_ (by simp<;>omega) _|refine kL ?_ ‹_›|refine kG ?_ ‹_› (by first|omega|simp<;>omega))|exact⟨by with_reducible rfl⟩|exact⟨by simp⟩)
   ·refine HJ.out _ _ _ hj' ?_;(with_reducible repeat first|exact bl0 _ _|refine blA ?_ _|(refine blS ?_ ?_ _;(simp<;>omega))|refine blD ?_|refine blN ?_ _|refine blF ?_ ‹_›)
   ·simpa using hz'
   clear q0 q1 q2 q3 q4 q5 q6 q7 qf hq' hj' hz' hv' hz2 v0 v1 vf hz
   rintro wr1 ⟨hq,hj,hz⟩
   rw[roundsIn_succ]
   obtain⟨⟨q0,q1,q2,q3,q4,q5,q6,q7⟩,qf⟩:=hq.c8
   obtain⟨fn1,tmps1,assign1,body1,hy,hR⟩:=HY.out 1 b (wr1.alloc (.cells #[.int .i64 b.x,.int .i64 b.y] 37)) (by omega) Hb.out (HJ.out _ _ _ hj ((Below.refl _ _).alloc (by omega) _))
   gi_wp2
   clear hy
   refine hR.mono ?_
   clear hR
   rintro e W' (⟨rfl,hj',hk⟩|⟨rfl,hjx⟩)
   rotate_left
   ·gi_wp2
    refine bodyPost_ret (results_none rfl _ _ _) rfl ?_
    exact⟨⟨_,rfl⟩,.inr ⟨4*n+1,by omega,hjx⟩⟩
   have hq':=(hq.alloc (.cells #[.int .i64 b.x,.int .i64 b.y] 37)).up hk (Nat.le_refl _)
   have hv':=(Bk.new wr1 37 #[.int .i64 b.x,.int .i64 b.y] rfl).up hk (by omega)
   have hz':=hq'.lt;have hz2:=hv'.lt
   clear q0 q1 q2 q3 q4 q5 q6 q7 qf hq hk hj
   obtain⟨⟨q0,q1,q2,q3,q4,q5,q6,q7⟩,qf⟩:=hq'.c8
   obtain⟨⟨v0,v1⟩,vf⟩:=hv'.c2
   gi_wp2
   refine QdS (fun W1=>Bk W1 W.heap.size 37 (QaP ⟨-a.y,a.x⟩ ⟨-b.y,b.x⟩ c d)∧J (4*n+2) W1∧W.heap.size<W1.heap.size) ⟨?_,?_,?_⟩ ?_
   ·simp only[QaP] at hq'⊢;(repeat first|(with_reducible first|assumption|exact kN _ _ _ (by simp)|refine kA ?_ _|refine kD ?_|refine kW ?_ _|apply Bk.set'|refine kF ?_ (by simp<;>omega) _|refine kL ?_ ‹_›|refine kG ?_ ‹_› (by first|omega|simp<;>omega))|exact⟨by with_reducible rfl⟩|exact⟨by simp⟩)
   ·refine HJ.out _ _ _ hj' ?_;(with_reducible repeat first|exact bl0 _ _|refine blA ?_ _|(refine blS ?_ ?_ _;(simp<;>omega))|refine blD ?_|refine blN ?_ _|refine blF ?_ ‹_›)
   ·simpa using hz'
   clear q0 q1 q2 q3 q4 q5 q6 q7 qf hq' hj' hz' hv' hz2 v0 v1 vf hz
   rintro wr2 ⟨hq,hj,hz⟩
   rw[roundsIn_succ]
   obtain⟨⟨q0,q1,q2,q3,q4,q5,q6,q7⟩,qf⟩:=hq.c8
   obtain⟨fn2,tmps2,assign2,body2,hy,hR⟩:=HY.out 2 c (wr2.alloc (.cells #[.int .i64 c.x,.int .i64 c.y] 37)) (by omega) Hc.out (HJ.out _ _ _ hj ((Below.refl _ _).alloc (by omega) _))
   gi_wp2
   clear hy
   refine hR.mono ?_
   clear hR
   rintro e W' (⟨rfl,hj',hk⟩|⟨rfl,hjx⟩)
   rotate_left
   ·gi_wp2
    refine bodyPost_ret (results_none rfl _ _ _) rfl ?_
    exact⟨⟨_,rfl⟩,.inr ⟨4*n+2,by omega,hjx⟩⟩
   have hq':=(hq.alloc (.cells #[.int .i64 c.x,.int .i64 c.y] 37)).up hk (Nat.le_refl _)
   have hv':=(Bk.new wr2 37 #[.int .i64 c.x,.int .i64 c.y] rfl).up hk (by omega)
   have hz':=hq'.lt;have hz2:=hv'.lt
   clear q0 q1 q2 q3 q4 q5 q6 q7 qf hq hk hj
   obtain⟨⟨q0,q1,q2,q3,q4,q5,q6,q7⟩,qf⟩:=hq'.c8
   obtain⟨⟨v0,v1⟩,vf⟩:=hv'.c2
   gi_wp2
   refine QdS (fun W1=>Bk W1 W.heap.size 37 (QaP ⟨-a.y,a.x⟩ ⟨-b.y,b.x⟩ ⟨-c.y,c.x⟩ d)∧J (4*n+3) W1∧W.heap.size<W1.heap.size) ⟨?_,?_,?_⟩ ?_
   ·simp only[QaP] at hq'⊢;(repeat first|(with_reducible first|assumption|exact kN _ _ _ (by simp)|refine kA ?_ _|refine kD ?_|refine kW ?_ _|apply Bk.set'|refine kF ?_ (by simp<;>omega) _|refine kL ?_ ‹_›|refine kG ?_ ‹_› (by first|omega|simp<;>omega))|exact⟨by with_reducible rfl⟩|exact⟨by simp⟩)
   ·refine HJ.out _ _ _ hj' ?_;(with_reducible repeat first|exact bl0 _ _|refine blA ?_ _|(refine blS ?_ ?_ _;(simp<;>omega))|refine blD ?_|refine blN ?_ _|refine blF ?_ ‹_›)
   ·simpa using hz'
   clear q0 q1 q2 q3 q4 q5 q6 q7 qf hq' hj' hz' hv' hz2 v0 v1 vf hz
   rintro wr3 ⟨hq,hj,hz⟩
   rw[roundsIn_succ]
   obtain⟨⟨q0,q1,q2,q3,q4,q5,q6,q7⟩,qf⟩:=hq.c8
   obtain⟨fn3,tmps3,assign3,body3,hy,hR⟩:=HY.out 3 d (wr3.alloc (.cells #[.int .i64 d.x,.int .i64 d.y] 37)) (by omega) Hd.out (HJ.out _ _ _ hj ((Below.refl _ _).alloc (by omega) _))
   gi_wp2
   clear hy
   refine hR.mono ?_
   clear hR
   rintro e W' (⟨rfl,hj',hk⟩|⟨rfl,hjx⟩)
   rotate_left
   ·gi_wp2
    refine bodyPost_ret (results_none rfl _ _ _) rfl ?_
    exact⟨⟨_,rfl⟩,.inr ⟨4*n+3,by omega,hjx⟩⟩
   have hq':=(hq.alloc (.cells #[.int .i64 d.x,.int .i64 d.y] 37)).up hk (Nat.le_refl _)
   have hv':=(Bk.new wr3 37 #[.int .i64 d.x,.int .i64 d.y] rfl).up hk (by omega)
   have hz':=hq'.lt;have hz2:=hv'.lt
   clear q0 q1 q2 q3 q4 q5 q6 q7 qf hq hk hj
   obtain⟨⟨q0,q1,q2,q3,q4,q5,q6,q7⟩,qf⟩:=hq'.c8
   obtain⟨⟨v0,v1⟩,vf⟩:=hv'.c2
   gi_wp2
   refine QdS (fun W1=>Bk W1 W.heap.size 37 (QaP ⟨-a.y,a.x⟩ ⟨-b.y,b.x⟩ ⟨-c.y,c.x⟩ ⟨-d.y,d.x⟩)∧J (4*n+4) W1∧W.heap.size<W1.heap.size) ⟨?_,?_,?_⟩ ?_
   ·simp only[QaP] at hq'⊢;(repeat first|(with_reducible first|assumption|exact kN _ _ _ (by simp)|refine kA ?_ _|refine kD ?_|refine kW ?_ _|apply Bk.set'|refine kF ?_ (by simp<;>omega) _|refine kL ?_ ‹_›|refine kG ?_ ‹_› (by first|omega|simp<;>omega))|exact⟨by with_reducible rfl⟩|exact⟨by simp⟩)
   ·refine HJ.out _ _ _ hj' ?_;(with_reducible repeat first|exact bl0 _ _|refine blA ?_ _|(refine blS ?_ ?_ _;(simp<;>omega))|refine blD ?_|refine blN ?_ _|refine blF ?_ ‹_›)
   ·simpa using hz'
   clear q0 q1 q2 q3 q4 q5 q6 q7 qf hq' hj' hz' hv' hz2 v0 v1 vf hz
   rintro wr4 ⟨hq,hj,hz⟩
   rw[roundsIn_succ]
   gi_wp2
   go_roundw
   case rel=>exact⟨n+1,_,_,_,_,by omega,by go_num,⟨(by rw[Ha.out];exact Qfb hlt (by omega):(⟨-a.y,a.x⟩:V2)=_),(by rw[Hb.out];exact Qfb hlt (by omega):(⟨-b.y,b.x⟩:V2)=_),(by rw[Hc.out];exact Qfb hlt (by omega):(⟨-c.y,c.x⟩:V2)=_),(by rw[Hd.out];exact Qfb hlt (by omega):(⟨-d.y,d.x⟩:V2)=_)⟩,hq,hj,hz⟩
   case measure=>simp[intOf];omega
  ·have hn4:n=4:=by omega
   subst hn4
   gi_wp2
   go_end0
   exact⟨⟨_,rfl⟩,.inl hj⟩
theorem Qp9(a b:V2)(w:World)(ha:vOk a=true)(hb:vOk b=true)(hr:vOk ⟨a.x+b.x,a.y+b.y⟩=true):
 Calls Sq.prog 121 #[.agg #[.int .i64 a.x,.int .i64 a.y],.agg #[.int .i64 b.x,.int .i64 b.y]] w fun e w'=>e= .returned (.tuple #[.agg #[.int .i64 (a.x+b.x),.int .i64 (a.y+b.y)],.bool true])∧Below w.heap.size w w':=by
 obtain⟨x0,x1,y0,y1⟩:=ZO.1 ha
 obtain⟨x2,x3,y2,y3⟩:=ZO.1 hb
 go_enter Sq.func121, Tryz.ntmps121
 go_wp2_with fail
 refine(JG a _).mono ?_
 rw[ha]
 rintro e w1 ⟨rfl,hb1⟩
 obtain⟨hc1,hf1⟩:=Qy hb1;have hy1:w.heap.size<w1.heap.size:=(by have:=hb1.size;first|omega|(simp at this;omega));have hz1:w.heap.size+1<w1.heap.size:=(by have:=hb1.size;first|omega|(simp at this;omega));have hx1:w.heap.size+1+1<w1.heap.size:=(by have:=hb1.size;first|omega|(simp at this;omega))
 go_wp2_with fail
 refine(JG b _).mono ?_
 rw[hb]
 rintro e w2 ⟨rfl,hb2⟩
 have hd2:Below w.heap.size w w2:=by(with_reducible repeat first|exact bl0 _ _|refine blA ?_ _|(refine blS ?_ ?_ _;(simp<;>omega))|refine blD ?_|refine blN ?_ _|refine blF ?_ ‹_›)
 have A1:Bk w1 w.heap.size 37 #[.int .i64 a.x,.int .i64 a.y]:=Bk.later (by(repeat first|(with_reducible first|assumption|exact kN _ _ _ (by simp)|refine kA ?_ _|refine kD ?_|refine kW ?_ _|apply Bk.set'|refine kF ?_ (by simp<;>omega) _|refine kL ?_ ‹_›|refine kG ?_ ‹_› (by first|omega|simp<;>omega))|exact⟨by with_reducible rfl⟩|exact⟨by simp⟩)) hb1
 have B1:Bk w1 (w.heap.size+1) 37 #[.int .i64 b.x,.int .i64 b.y]:=Bk.later (by(repeat first|(with_reducible first|assumption|exact kN _ _ _ (by simp)|refine kA ?_ _|refine kD ?_|refine kW ?_ _|apply Bk.set'|refine kF ?_ (by simp<;>omega) _|refine kL ?_ ‹_›|refine kG ?_ ‹_› (by first|omega|simp<;>omega))|exact⟨by with_reducible rfl⟩|exact⟨by simp⟩)) hb1
 have R1:Bk w1 (w.heap.size+1+1) 37 #[.int .i64 0,.int .i64 0]:=Bk.later (by(repeat first|(with_reducible first|assumption|exact kN _ _ _ (by simp)|refine kA ?_ _|refine kD ?_|refine kW ?_ _|apply Bk.set'|refine kF ?_ (by simp<;>omega) _|refine kL ?_ ‹_›|refine kG ?_ ‹_› (by first|omega|simp<;>omega))|exact⟨by with_reducible rfl⟩|exact⟨by simp⟩)) hb1
 have A2:=A1.later hb2
 have B2:=B1.later hb2
 have R2:=R1.later hb2
 clear A1 B1 R1 hc1 hf1 hy1 hz1 hx1 hb1 hb2
 obtain⟨⟨p0,p1⟩,pf⟩:=A2.c2
 obtain⟨⟨q0,q1⟩,qf⟩:=B2.c2
 go_wp2_with fail
 refine(Qiu ⟨a.x+b.x,a.y+b.y⟩ _ hr).mono ?_
 rintro e w3 ⟨rfl,hb3⟩
 have hd3:Below w.heap.size w w3:=by(with_reducible repeat first|exact bl0 _ _|refine blA ?_ _|(refine blS ?_ ?_ _;(simp<;>omega))|refine blD ?_|refine blN ?_ _|refine blF ?_ ‹_›)
 have R3:=R2.later hb3
 have z3:=R3.lt
 obtain⟨⟨r0,r1⟩,rf⟩:=R3.c2
 go_wp2
 refine bodyPost_ret (v:= .tuple #[.agg #[.int .i64 (a.x+b.x),.int .i64 (a.y+b.y)],.bool true]) (by simp[results, Tryz.results121,go_sem, *]) rfl ⟨rfl,?_⟩
 (with_reducible repeat first|assumption|exact bl0 _ _|refine blA ?_ _|(refine blS ?_ ?_ _;(simp<;>omega))|refine blD ?_|refine blN ?_ _|refine blF ?_ ‹_›)
theorem Qxl{F:Fence}{n:Nat}{P:Program}{c:Code}{Q:Exit→Act→World→Prop}{a:Act}{w0:World}(Fw:World→Prop)(h0:Fw w0)(h: ∀w1,Fw w1→Code.wpIn F n P c Q a w1):Code.wpIn F n P c Q a w0:=h w0 h0
theorem QpZ(w:World):Calls Sq.prog 125 #[] w fun e w'=>e= .returned (.func (.func 130) #[] #[])∧w=w':=by
 go_enter Sq.func125, Tryz.ntmps125
 go_wp2
 go_ret
 exact⟨rfl,rfl⟩
def dirI(n s:Nat)(w:World)(k:Nat)(A:World):Prop:=k≤n∧Bk A s 3 #[.int .i64 ((n:Int)- k)]∧Bk A (s+1) 37 #[.int .i64 0,.int .i64 0]∧Bk A (s+2) 4 #[.bool false]∧Below s w A
def dirX(n s:Nat)(w:World)(k:Nat)(A:World):Prop:=k=n∧Bk A (s+1) 37 #[.int .i64 (dirK k).x,.int .i64 (dirK k).y]∧Bk A (s+2) 4 #[.bool true]∧Below s w A
set_option maxHeartbeats 2000000 in
theorem Qqb(d:Int)(w:World)(h0:0≤d)(h1:d≤15):Calls Sq.prog 119 #[.int .i64 d] w fun e w'=>e= .returned (.tuple #[.agg #[.int .i64 (dirV d).x,.int .i64 (dirV d).y],.bool true])∧Below w.heap.size w w':=by
 obtain⟨n,rfl⟩:=Int.eq_ofNat_of_zero_le h0
 refine(callsIn_wide (n:=3)).1 ?_
 refine callsIn_of_wp_marks Sq.func119 rfl trivial ?_ rfl
 simp only[Tryz.ntmps119,List.size_toArray,List.length_cons,List.length_nil,Nat.reduceAdd,Nat.reduceSub,Array.replicate_succ,Array.replicate_zero,List.push_toArray,List.append_toArray,List.nil_append,List.cons_append]
 gi_wp2_with (refine⟨trivial,?_⟩;gi_at_call 125;refine(callsIn_wide.2 (QpZ _)).mono ?_;rintro e w' ⟨rfl,rfl⟩)
 refine Qxl (fun W=>dirI n w.heap.size w 0 W) ⟨by omega,by rw[show(n:Int)- ((0:Nat):Int)=n by simp];(repeat first|(with_reducible first|assumption|exact kN _ _ _ (by simp)|refine kA ?_ _|refine kD ?_|refine kW ?_ _|apply Bk.set'|refine kF ?_ (by simp<;>omega) _|refine kL ?_ ‹_›|refine kG ?_ ‹_› (by first|omega|simp<;>omega))|exact⟨by with_reducible rfl⟩|exact⟨by simp⟩),by(repeat first|(with_reducible first|assumption|exact kN _ _ _ (by simp)|refine kA ?_ _|refine kD ?_|refine kW ?_ _|apply Bk.set'|refine kF ?_ (by simp<;>omega) _|refine kL ?_ ‹_›|refine kG ?_ ‹_› (by first|omega|simp<;>omega))|exact⟨by with_reducible rfl⟩|exact⟨by simp⟩),by(repeat first|(with_reducible first|assumption|exact kN _ _ _ (by simp)|refine kA ?_ _|refine kD ?_|refine kW ?_ _|apply Bk.set'|refine kF ?_ (by simp<;>omega) _|refine kL ?_ ‹_›|refine kG ?_ ‹_› (by first|omega|simp<;>omega))|exact⟨by with_reducible rfl⟩|exact⟨by simp⟩),by(with_reducible repeat first|exact bl0 _ _|refine blA ?_ _|(refine blS ?_ ?_ _;(simp<;>omega))|refine blD ?_|refine blN ?_ _|refine blF ?_ ‹_›)⟩ ?_
 rintro W hI0
 have hz:=hI0.2.2.2.1.lt
 have hn:n≤15:=by omega
 refine Ql0 (gf:=130) (lb:=#[]) rfl (enters_of Sq.func130 (by kernel_rfl) rfl) (enc:=fun k=>#[.agg #[.int .i64 (dirK k).x,.int .i64 (dirK k).y]]) (N:=16) (Kp:=XK) (Ab:=Below)
  (fun l J Jx W' hW hJ hY h0=>by simpa using Qow l J Jx W' hJ hY h0) (fun _ _ _ _ h=>h) (fun _ _ _ _=>XK.trans) (fun A o=>XK.putObj A (by omega) o) (fun k=>rfl)
  (dirI n w.heap.size w) (dirX n w.heap.size w) ?hI ?hIo ?hIa ?hIxo hI0
  (fun k a' A=>∃B,W.heap.size+2≤B∧Bk A B 37 #[.int .i64 (dirK k).x,.int .i64 (dirK k).y]∧a'={ tmps:=#[.int .i64 (n:Int),.pointer (some ⟨w.heap.size,0,none⟩),.pointer (some ⟨w.heap.size+1,0,none⟩),.pointer (some ⟨w.heap.size+1+1,0,none⟩),.pointer (some ⟨B,0,none⟩),.func (.func 130) #[] #[],.agg #[.int .i64 (dirK k).x,.int .i64 (dirK k).y],undef,undef,undef,undef,undef,undef],defers:=[]}) ?hAxo ?assign ?body ?done ?stop
 case hI=>
  rintro k A A' ⟨h1,h2,h3,h4,h5⟩ hb
  exact⟨h1,h2.below hb (by omega),h3.below hb (by omega),h4.below hb (by omega),h5.trans (hb.mono (by omega))⟩
 case hIo=>
  rintro k A b o hb1 hb2 ⟨h1,h2,h3,h4,h5⟩
  exact⟨h1,h2.putObj (by omega) o,h3.putObj (by omega) o,h4.putObj (by omega) o,h5.trans (QcO (by omega) o)⟩
 case hIa=>
  rintro A o ⟨h1,h2,h3,h4,h5⟩
  exact⟨h1,h2.alloc o,h3.alloc o,h4.alloc o,Qf h5 o⟩
 case hIxo=>
  rintro k A b o hb1 hb2 ⟨h1,h2,h3,h4⟩
  exact⟨h1,h2.putObj (by omega) o,h3.putObj (by omega) o,h4.trans (QcO (by omega) o)⟩
 case hAxo=>
  rintro k a' A b o hb1 hb2 ⟨B,hB,hv,rfl⟩
  exact⟨B,hB,hv.putObj (by omega) o,rfl⟩
 case assign=>
  rintro l k V K hzV ⟨h1,h2,h3,h4,h5⟩ hK
  gi_wp2
  exact hK _ _ ((KeepsOthers.alloc _ _).from _) (XK.alloc _ _) ⟨h1,h2.alloc _,h3.alloc _,h4.alloc _,Qf h5 _⟩ ⟨V.heap.size,hzV,Bk.new _ _ _ rfl,rfl⟩
 case body=>
  rintro l k a' V hzV ⟨h1,h2,h3,h4,h5⟩ ⟨B,hB,hv,rfl⟩ hk16
  change Bk V (w.heap.size+1+1) _ _ at h4
  have zd:=h2.lt
  obtain⟨d0,df⟩:=h2.c1
  obtain⟨⟨v0,v1⟩,vf⟩:=h3.c2
  obtain⟨b0,bf⟩:=h4.c1
  obtain⟨⟨x0,x1⟩,xf⟩:=hv.c2
  by_cases hkn:k=n
  ·subst hkn
   have e0:(k:Int)- k=0:=by omega
   rw[e0] at d0
   gi_wp2
   refine⟨(((KeepsOthers.setCell _ _ _).trans (KeepsOthers.setCell _ _ _)).trans (KeepsOthers.setCell _ _ _)).from _,rfl,?_,?_,?_⟩
   · (repeat first|(with_reducible first|assumption|exact kN _ _ _ (by simp)|refine kA ?_ _|refine kD ?_|refine kW ?_ _|apply Bk.set'|refine kF ?_ (by simp<;>omega) _|refine kL ?_ ‹_›|refine kG ?_ ‹_› (by first|omega|simp<;>omega))|exact⟨by with_reducible rfl⟩|exact⟨by simp⟩)
   ·exact((h4.far (by simp) _).far (by simp) _).set' ⟨by simp⟩
   · (with_reducible repeat first|assumption|exact bl0 _ _|refine blA ?_ _|(refine blS ?_ ?_ _;(simp<;>omega))|refine blD ?_|refine blN ?_ _|refine blF ?_ ‹_›)
  ·have e0:((n:Int)- k == 0)=false:=by simp;omega
   gi_wp2
   refine⟨(KeepsOthers.setCell _ _ _).from _,XK.setCell _ (by simp;omega) _,by omega,?_,?_,?_,?_⟩
   ·rw[show((n:Int)- ((k+1:Nat):Int))=n - k - 1 by omega];(repeat first|(with_reducible first|assumption|exact kN _ _ _ (by simp)|refine kA ?_ _|refine kD ?_|refine kW ?_ _|apply Bk.set'|refine kF ?_ (by simp<;>omega) _|refine kL ?_ ‹_›|refine kG ?_ ‹_› (by first|omega|simp<;>omega))|exact⟨by with_reducible rfl⟩|exact⟨by simp⟩)
   · (repeat first|(with_reducible first|assumption|exact kN _ _ _ (by simp)|refine kA ?_ _|refine kD ?_|refine kW ?_ _|apply Bk.set'|refine kF ?_ (by simp<;>omega) _|refine kL ?_ ‹_›|refine kG ?_ ‹_› (by first|omega|simp<;>omega))|exact⟨by with_reducible rfl⟩|exact⟨by simp⟩)
   ·show Bk _ (w.heap.size+1+1) _ _;(repeat first|(with_reducible first|assumption|exact kN _ _ _ (by simp)|refine kA ?_ _|refine kD ?_|refine kW ?_ _|apply Bk.set'|refine kF ?_ (by simp<;>omega) _|refine kL ?_ ‹_›|refine kG ?_ ‹_› (by first|omega|simp<;>omega))|exact⟨by with_reducible rfl⟩|exact⟨by simp⟩)
   · (with_reducible repeat first|assumption|exact bl0 _ _|refine blA ?_ _|(refine blS ?_ ?_ _;(simp<;>omega))|refine blD ?_|refine blN ?_ _|refine blF ?_ ‹_›)
 case done=>
  rintro V hzV ⟨h1,_⟩ _
  omega
 case stop=>
  rintro k V hzV hk ⟨rfl,h3,h4,h5⟩ hK
  obtain⟨⟨v0,v1⟩,vf⟩:=h3.c2
  obtain⟨b0,bf⟩:=h4.c1
  gi_wp2
  refine⟨by simp,.inl ⟨_,_,rfl,run_takeDeferred hK,?_⟩⟩
  have h3':=h3.putObj (b:=W.heap.size) (by omega) (.deferred none)
  have h4':=h4.putObj (b:=W.heap.size) (by omega) (.deferred none)
  have h5':=h5.trans (QcO (B:=w.heap.size) (W:=V) (l:=W.heap.size) (by omega) (.deferred none))
  obtain⟨⟨v0,v1⟩,vf⟩:=h3'.c2
  obtain⟨b0,bf⟩:=h4'.c1
  have e1:dirK k=dirV (k:Int):=rfl
  rw[e1] at v0 v1
  exact⟨_,(by simp[results, Tryz.results119,go_sem,v0,v1,b0]),⟨rfl,h5'⟩⟩
end Go.Proofs.YtgaimkihacljdaaGreat
