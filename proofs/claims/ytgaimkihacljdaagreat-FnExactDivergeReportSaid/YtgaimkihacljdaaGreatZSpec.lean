/- Lemmas: SpecA SpecB SpecC SpecF SpecG SpecH. -/
import Derived.Test.YtgaimkihacljdaaGreatZHead
import Derived.Test.YtgaimkihacljdaaGreatZBase
import Derived.Deep.DeepMust
/- The reference's vectors, boxes and levels, each by its contract. -/
namespace Go.Proofs.YtgaimkihacljdaaGreat
open Go.ChangeShapes Go.WideShapes Go.ChangeAt Go.RowKit
theorem Qvu(v:V2)(w:World):Calls Sq.prog 52 #[.agg #[.int .i64 v.x,.int .i64 v.y]] w fun e w'=>e= .returned (.bool (vOk v))∧Below w.heap.size w w':=by
 go_enter Sq.func52, Tryz.ntmps52
 go_wp2_with (go_at_call 51;refine(Xt _ _ _ _).mono ?_;rintro e w1 ⟨rfl,rfl⟩)
 all_goals (go_ret;exact⟨Qs (by simp_all [vOk]),Qf (Below.refl _ _) _⟩)
theorem Qe9(x y:Int)(w:World):Calls Sq.prog 52 #[.agg #[.int .i64 x,.int .i64 y]] w fun e w'=>e= .returned (.bool (vOk ⟨x,y⟩))∧Below w.heap.size w w':=Qvu ⟨x,y⟩ w
set_option maxRecDepth 100000 in
theorem Qlj(b:Bx)(w:World):Calls Sq.prog 54 #[.agg #[.int .i64 b.lo.x,.int .i64 b.lo.y,.int .i64 b.hi.x,.int .i64 b.hi.y]] w fun e w'=>e= .returned (.bool (bxOk b))∧Below w.heap.size w w':=by
 go_enter Sq.func54, Tryz.ntmps54
 go_wp2_with (go_at_call 52;refine(Qe9 _ _ _).mono ?_;rintro e w1 ⟨rfl,hb1⟩;obtain⟨hc1,hf1⟩:=Qy hb1;have hy1:w.heap.size<w1.heap.size:=(by have:=hb1.size;first|omega|(simp at this;omega)))
 all_goals (go_ret;refine⟨Qs (by first|(simp_all [bxOk];done)|(simp_all [bxOk];omega)),?_⟩;(with_reducible repeat first|exact bl0 _ _|refine blA ?_ _|(refine blS ?_ ?_ _;(simp<;>omega))|refine blD ?_|refine blN ?_ _|refine blF ?_ ‹_›))
theorem QqN(b:Bx)(v:V2)(w:World):Calls Sq.prog 107 #[.agg #[.int .i64 b.lo.x,.int .i64 b.lo.y,.int .i64 b.hi.x,.int .i64 b.hi.y],.agg #[.int .i64 v.x,.int .i64 v.y]] w fun e w'=>e= .returned (.agg #[.int .i64 (Xi b v).x,.int .i64 (Xi b v).y])∧Below w.heap.size w w':=by
 go_enter Sq.func107, Tryz.ntmps107
 go_wp2
 all_goals
  refine bodyPost_ret (v:= .agg #[.int .i64 (Xi b v).x,.int .i64 (Xi b v).y]) ?_ rfl ⟨rfl,?_⟩
  ·simp[results, Tryz.results107,go_sem,Xi];omega
  · (with_reducible repeat first|exact bl0 _ _|refine blA ?_ _|(refine blS ?_ ?_ _;(simp<;>omega))|refine blD ?_|refine blN ?_ _|refine blF ?_ ‹_›)
theorem QqO(b:Bx)(v:V2)(r:Int)(w:World)(hb:bdBx b)(hv:bdV v)(hr:0≤r∧r≤1000000):Calls Sq.prog 74 #[.agg #[.int .i64 b.lo.x,.int .i64 b.lo.y,.int .i64 b.hi.x,.int .i64 b.hi.y],.agg #[.int .i64 v.x,.int .i64 v.y],.int .i64 r] w fun e w'=>e= .returned (.bool (Qag b v r))∧Below w.heap.size w w':=by
 have hnb:=QjM hb hv
 have hx:=QcB (a:=v.x - (Xi b v).x) (by unfold bdV at*;omega)
 have hy:=QcB (a:=v.y - (Xi b v).y) (by unfold bdV at*;omega)
 have hrr:=QcB (a:=r) (by omega)
 unfold bdV at hv hnb
 obtain⟨v1,v2,v3,v4⟩:=hv
 obtain⟨n1,n2,n3,n4⟩:=hnb
 obtain⟨x1,x2⟩:=hx
 obtain⟨y1,y2⟩:=hy
 obtain⟨r1,r2⟩:=hrr
 obtain⟨r3,r4⟩:=hr
 go_enter Sq.func74, Tryz.ntmps74
 go_wp2_with fail
 refine(QqN b v _).mono ?_
 rintro e w1 ⟨rfl,hb1⟩
 obtain⟨hc1,hf1⟩:=Qy hb1;have hy1:w.heap.size<w1.heap.size:=(by have:=hb1.size;first|omega|(simp at this;omega));have hz1:w.heap.size+1<w1.heap.size:=(by have:=hb1.size;first|omega|(simp at this;omega))
 go_wp2
 go_ret
 refine⟨Qs (by simp[Qag]),?_⟩;(with_reducible repeat first|exact bl0 _ _|refine blA ?_ _|(refine blS ?_ ?_ _;(simp<;>omega))|refine blD ?_|refine blN ?_ _|refine blF ?_ ‹_›)
theorem Qvr(x y x' y':Int)(w:World):Calls Sq.prog 54 #[.agg #[.int .i64 x,.int .i64 y,.int .i64 x',.int .i64 y']] w fun e w'=>e= .returned (.bool (bxOk ⟨⟨x,y⟩,⟨x',y'⟩⟩))∧Below w.heap.size w w':=Qlj ⟨⟨x,y⟩,⟨x',y'⟩⟩ w
theorem Qc8(b:Bx)(v:V2)(w:World):Calls Sq.prog 106 #[.agg #[.int .i64 b.lo.x,.int .i64 b.lo.y,.int .i64 b.hi.x,.int .i64 b.hi.y],.agg #[.int .i64 v.x,.int .i64 v.y]] w fun e w'=>e= .returned (.bool (hasV b v))∧Below w.heap.size w w':=by
 go_enter Sq.func106, Tryz.ntmps106
 go_wp2_with (go_at_call 51;refine(Xt _ _ _ _).mono ?_;rintro e w1 ⟨rfl,rfl⟩)
 all_goals (go_ret;refine⟨Qs (by simp_all [hasV]),?_⟩;(with_reducible repeat first|exact bl0 _ _|refine blA ?_ _|(refine blS ?_ ?_ _;(simp<;>omega))|refine blD ?_|refine blN ?_ _|refine blF ?_ ‹_›))
theorem Qje(A:Option Addr)(n c:Nat)(l:List Bx)(w:World)(h:Sl w 4 Qc A n l)(hn:(n:Nat)≤9223372036854775807):Calls Sq.prog 53 #[.slice A n c] w fun e w'=>e= .returned (.bool (XZ l))∧Below w.heap.size w w':=by
 obtain rfl:=h.len
 go_enter Sq.func53, Tryz.ntmps53
 go_wp2
 go_loopw [3] (fun i wr=>∃k:Nat,k≤l.length∧i= .int .i64 k∧(l.take k).all bxOk=true∧Below w.heap.size w wr) (fun i _=>l.length - (intOf i).toNat)
 case atStart=>exact⟨0,Nat.zero_le _,rfl,rfl,Below.refl _ _⟩
 case round=>
  obtain⟨k,hk,rfl,ht,hb⟩:=hrel
  have Ht:=Lib.hid ht;clear ht
  by_cases hlt:k<l.length
  ·obtain⟨b,off,x,rfl,hbl,hx,hc⟩:=(h.below hb).at_ hlt
   have q0:wr.cell? ⟨b,off+k*4,none⟩=some (.int .i64 x.lo.x):=hc 0 _ rfl
   have q1:wr.cell? ⟨b,off+k*4+1,none⟩=some (.int .i64 x.lo.y):=hc 1 _ rfl
   have q2:wr.cell? ⟨b,off+k*4+2,none⟩=some (.int .i64 x.hi.x):=hc 2 _ rfl
   have q3:wr.cell? ⟨b,off+k*4+3,none⟩=some (.int .i64 x.hi.y):=hc 3 _ rfl
   have Hx:=Lib.hid hx;clear hx
   clear h hc
   go_wp2_with (go_at_call 54;refine(Qlj x _).mono ?_;rintro e w' ⟨rfl,hb1⟩)
   ·have ht:(!bxOk x)=true:=by assumption
    go_ret
    exact⟨Qs (by rw[XZ,Qbi Hx.out (by simpa using ht)]),hb.trans (hb1.mono hb.size)⟩
   ·have ht:(!bxOk x)=false:=by assumption
    go_roundw
    case rel=>exact⟨k+1,by omega,by go_num,Qbj Hx.out Ht.out (by simpa using ht),hb.trans (hb1.mono hb.size)⟩
    case measure=>simp[intOf];omega
  ·have hkn:l.take k=l:=List.take_of_length_le (by omega)
   have H:=Lib.hid hkn;clear hkn
   go_wp2
   go_ret
   exact⟨Qs (by have:=Ht.out;rw[H.out] at this;exact this.symm),hb⟩
set_option maxRecDepth 100000 in
theorem QdF(l:Lev)(v:V2)(A A':Option Addr)(c c':Nat)(w:World)(h:Sl w 4 Qc A l.walls.length l.walls)(hn:(l.walls.length:Nat)≤9223372036854775807)(hw: ∀b∈l.walls,bdBx b)(hv:bdV v):
 Calls Sq.prog 55 #[.agg #[.int .i64 l.id,.int .i64 l.ticks,.int .i64 l.start.x,.int .i64 l.start.y,.slice A l.walls.length c,.slice A' l.gates.length c',.int .i64 l.fin.lo.x,.int .i64 l.fin.lo.y,.int .i64 l.fin.hi.x,.int .i64 l.fin.hi.y,.int .i64 l.bans],.agg #[.int .i64 v.x,.int .i64 v.y]] w fun e w'=>e= .returned (.bool (QY l v))∧Below w.heap.size w w':=by
 have hB0:=(Blk.new w #[.int .i64 l.id,.int .i64 l.ticks,.int .i64 l.start.x,.int .i64 l.start.y,.slice A l.walls.length c,.slice A' l.gates.length c',.int .i64 l.fin.lo.x,.int .i64 l.fin.lo.y,.int .i64 l.fin.hi.x,.int .i64 l.fin.hi.y,.int .i64 l.bans] 42).alloc (.cells #[.int .i64 v.x,.int .i64 v.y] 37)
 have hD0:=Blk.new (w.alloc (.cells #[.int .i64 l.id,.int .i64 l.ticks,.int .i64 l.start.x,.int .i64 l.start.y,.slice A l.walls.length c,.slice A' l.gates.length c',.int .i64 l.fin.lo.x,.int .i64 l.fin.lo.y,.int .i64 l.fin.hi.x,.int .i64 l.fin.hi.y,.int .i64 l.bans] 42)) #[.int .i64 v.x,.int .i64 v.y] 37
 have hd0:=Qf (Qf (Below.refl w.heap.size w) (.cells #[.int .i64 l.id,.int .i64 l.ticks,.int .i64 l.start.x,.int .i64 l.start.y,.slice A l.walls.length c,.slice A' l.gates.length c',.int .i64 l.fin.lo.x,.int .i64 l.fin.lo.y,.int .i64 l.fin.hi.x,.int .i64 l.fin.hi.y,.int .i64 l.bans] 42)) (.cells #[.int .i64 v.x,.int .i64 v.y] 37)
 go_enter Sq.func55, Tryz.ntmps55
 go_wp2
 go_loopw [5] (fun i wr=>∃k:Nat,k≤l.walls.length∧i= .int .i64 k∧(l.walls.take k).all (fun b=> !Qag b v 500)=true∧Blk wr w.heap.size [.int .i64 l.id,.int .i64 l.ticks,.int .i64 l.start.x,.int .i64 l.start.y,.slice A l.walls.length c,.slice A' l.gates.length c',.int .i64 l.fin.lo.x,.int .i64 l.fin.lo.y,.int .i64 l.fin.hi.x,.int .i64 l.fin.hi.y,.int .i64 l.bans]∧Blk wr (w.heap.size+1) [.int .i64 v.x,.int .i64 v.y]∧Below w.heap.size w wr) (fun i _=>l.walls.length - (intOf i).toNat)
 case atStart=>exact⟨0,Nat.zero_le _,rfl,rfl,hB0,by simpa using hD0,hd0⟩
 case round=>
  obtain⟨k,hk,rfl,ht,hB,hD,hb⟩:=hrel
  have Ht:=Lib.hid ht;clear ht hB0 hD0 hd0
  have hB':=hB
  have hD':=hD
  obtain⟨x0,x1,x2,x3,x4,x5,x6,x7,x8,x9,x10⟩:=hB.c11
  obtain⟨y0,y1⟩:=hD.c2
  by_cases hlt:k<l.walls.length
  ·obtain⟨b,off,x,rfl,hbl,hx,hc⟩:=(h.below hb).at_ hlt
   have q0:wr.cell? ⟨b,off+k*4,none⟩=some (.int .i64 x.lo.x):=hc 0 _ rfl
   have q1:wr.cell? ⟨b,off+k*4+1,none⟩=some (.int .i64 x.lo.y):=hc 1 _ rfl
   have q2:wr.cell? ⟨b,off+k*4+2,none⟩=some (.int .i64 x.hi.x):=hc 2 _ rfl
   have q3:wr.cell? ⟨b,off+k*4+3,none⟩=some (.int .i64 x.hi.y):=hc 3 _ rfl
   have hxb:=hw x (List.mem_of_getElem? hx)
   have Hx:=Lib.hid hx;clear hx
   clear h hc hw
   go_wp2
   go_still_tail 6,(by kernel_rfl)
   change wpList _ _ _ _ _ wr.drew
   have hb2:Below wr.heap.size wr wr.drew:=(Below.refl _ _).drew
   generalize wr.drew=w2 at hb2
   go_wp2_with (go_at_call 74;refine(QqO x v 500 _ hxb hv (by omega)).mono ?_;rintro e w' ⟨rfl,hb1⟩)
   ·have ht:Qag x v 500=true:=by assumption
    go_ret
    exact⟨Qs (by rw[QY,Qbi Hx.out (by simpa using ht)]),Qa (Qa hb hb2) hb1⟩
   ·have ht:Qag x v 500=false:=by assumption
    go_roundw
    case rel=>exact⟨k+1,by omega,by go_num,Qbj Hx.out Ht.out (by simpa using ht),(hB'.later hb2).later hb1,(hD'.later hb2).later hb1,Qa (Qa hb hb2) hb1⟩
    case measure=>simp[intOf];omega
  ·have hkn:l.walls.take k=l.walls:=List.take_of_length_le (by omega)
   have H:=Lib.hid hkn;clear hkn
   clear h hw
   go_wp2
   go_ret
   exact⟨Qs (by have:=Ht.out;rw[H.out] at this;exact this.symm),hb⟩
theorem Qa6(l:Lev)(x y:Int)(A A':Option Addr)(c c':Nat)(w:World)(h:Sl w 4 Qc A l.walls.length l.walls)(hn:(l.walls.length:Nat)≤9223372036854775807)(hw: ∀b∈l.walls,bdBx b)(hv:bdV ⟨x,y⟩):
 Calls Sq.prog 55 #[.agg #[.int .i64 l.id,.int .i64 l.ticks,.int .i64 l.start.x,.int .i64 l.start.y,.slice A l.walls.length c,.slice A' l.gates.length c',.int .i64 l.fin.lo.x,.int .i64 l.fin.lo.y,.int .i64 l.fin.hi.x,.int .i64 l.fin.hi.y,.int .i64 l.bans],.agg #[.int .i64 x,.int .i64 y]] w fun e w'=>e= .returned (.bool (QY l ⟨x,y⟩))∧Below w.heap.size w w':=QdF l ⟨x,y⟩ A A' c c' w h hn hw hv
end Go.Proofs.YtgaimkihacljdaaGreat
/- The reference's arithmetic of vectors: roots, lengths, directions. -/
namespace Go.Proofs.YtgaimkihacljdaaGreat
open Go.ChangeShapes Go.WideShapes Go.ChangeAt Go.RowKit
theorem QpR{a b:Int}(h:a<b):a+1≤(a+b+1)/2∧(a+b+1)/2≤b:=by omega
theorem Qvz{m:Int}(h0:0≤m)(h1:m≤2000000):0≤m*m∧m*m≤4000000000000:=
 ⟨Int.mul_nonneg h0 h0,Qg4 h0 h1⟩
theorem QqI(n:Int)(w:World)(h0:0≤n)(h1:n≤4000000000000):Calls Sq.prog 129 #[.int .i64 n] w fun e w'=>e= .returned (.int .i64 (isq n))∧w=w':=by
 go_enter Sq.func129, Tryz.ntmps129
 go_wp2
 go_loop [3,4] (fun a b=>∃x y:Int,0≤x∧x≤y∧y≤2000000∧a= .int .i64 x∧b= .int .i64 y∧x*x≤n∧n<(y+1)*(y+1)) (fun a b=>(intOf b - intOf a).toNat)
 case atStart=>exact⟨0,2000000,by omega,by omega,by omega,rfl,rfl,by omega,by omega⟩
 case round=>
  obtain⟨x,y,hx0,hxy,hy,rfl,rfl,hl,hu⟩:=hrel
  by_cases hlt:x<y
  ·obtain⟨m0,m1⟩:=QpR hlt
   obtain⟨s0,s1⟩:=Qvz (m:=(x+y+1)/2) (by omega) (by omega)
   go_wp2
   ·have ht:(x+y+1)/2*((x+y+1)/2)≤n:=by assumption
    go_round
    case rel=>exact⟨(x+y+1)/2,y,by omega,by omega,by omega,rfl,rfl,ht,hu⟩
    case measure=>simp[intOf];omega
   ·have ht:n<(x+y+1)/2*((x+y+1)/2):=by assumption
    go_round
    case rel=>exact⟨x,(x+y+1)/2 - 1,by omega,by omega,by omega,rfl,rfl,hl,by rw[Int.sub_add_cancel];exact ht⟩
    case measure=>simp[intOf];omega
  ·have e:x=y:=by omega
   subst e
   go_wp2
   go_ret
   exact⟨QU (Qi6 hx0 hl hu).symm,rfl⟩
theorem Qjg(a b:Int)(w:World)(h: -9000000000000000000≤a*b∧a*b≤9000000000000000000):Calls Sq.prog 123 #[.int .i64 a,.int .i64 b] w fun e w'=>e= .returned (.int .i64 (mul1 a b))∧w=w':=by
 obtain⟨h1,h2⟩:=h
 go_enter Sq.func123, Tryz.ntmps123
 go_wp2
 go_ret
 exact⟨rfl,rfl⟩
theorem QjJ{a k:Int}(h0: -100000000≤a)(h1:a≤100000000)(k0:0≤k)(k1:k≤2000): -200000000000≤a*k∧a*k≤200000000000:=by
 have e1:=Int.mul_le_mul_of_nonneg_right h1 k0
 have e2:=Int.mul_le_mul_of_nonneg_right h0 k0
 omega
set_option maxRecDepth 100000 in
theorem Qgk(v:V2)(k:Int)(w:World)(hv:bdV v)(k0:0≤k)(k1:k≤2000):Calls Sq.prog 116 #[.agg #[.int .i64 v.x,.int .i64 v.y],.int .i64 k] w fun e w'=>e= .returned (.agg #[.int .i64 (QQ v k).x,.int .i64 (QQ v k).y])∧Below w.heap.size w w':=by
 obtain⟨a1,a2,a3,a4⟩:=hv
 have hx:=QjJ a1 a2 k0 k1
 have hy:=QjJ a3 a4 k0 k1
 go_enter Sq.func116, Tryz.ntmps116
 go_wp2
 refine Xq (fun W=>Bk W w.heap.size 37 #[.int .i64 v.x,.int .i64 v.y]∧Bk W (w.heap.size+1) 37 #[.int .i64 0,.int .i64 0]∧Below w.heap.size w W) ⟨(Bk.new _ _ _ rfl).alloc _,Bk.new _ _ _ (by simp),by(with_reducible repeat first|exact bl0 _ _|refine blA ?_ _|(refine blS ?_ ?_ _;(simp<;>omega))|refine blD ?_|refine blN ?_ _|refine blF ?_ ‹_›)⟩ ?_
 rintro W ⟨hA,hB,hd⟩
 obtain⟨⟨a0,a1⟩,af⟩:=hA.c2
 obtain⟨⟨b0,b1⟩,bf⟩:=hB.c2
 go_still_tail 9,(by kernel_rfl)
 still_call (stl (Qjg _ _ _ (by omega)))
 repeat still_step
 still_call (stl (Qjg _ _ _ (by omega)))
 repeat still_step
 refine wpStill_nil ?_
 change wpList _ _ _ _ _ W.drew
 go_wp2
 refine bodyPost_ret (v:= .agg #[.int .i64 (QQ v k).x,.int .i64 (QQ v k).y]) (by simp[results, Tryz.results116,go_sem,QQ,b0,b1]) rfl ⟨rfl,?_⟩;(with_reducible repeat first|exact bl0 _ _|refine blA ?_ _|(refine blS ?_ ?_ _;(simp<;>omega))|refine blD ?_|refine blN ?_ _|refine blF ?_ ‹_›)
theorem Qgj(v:V2)(w:World)(hv: -1000000≤v.x∧v.x≤1000000∧ -1000000≤v.y∧v.y≤1000000):Calls Sq.prog 124 #[.agg #[.int .i64 v.x,.int .i64 v.y]] w fun e w'=>e= .returned (.int .i64 (lenV v))∧Below w.heap.size w w':=by
 obtain⟨a1,a2,a3,a4⟩:=hv
 have hx:0≤v.x*v.x∧v.x*v.x≤1000000000000:=⟨Qbe _,by have:=QbN (a:=v.x) (c:=1000000) (by omega);omega⟩
 have hy:0≤v.y*v.y∧v.y*v.y≤1000000000000:=⟨Qbe _,by have:=QbN (a:=v.y) (c:=1000000) (by omega);omega⟩
 obtain⟨x1,x2⟩:=hx
 obtain⟨y1,y2⟩:=hy
 go_enter Sq.func124, Tryz.ntmps124
 go_wp2_with fail
 refine(QqI (v.x*v.x+v.y*v.y) _ (by omega) (by omega)).mono ?_
 rintro e w1 ⟨rfl,rfl⟩
 go_wp2
 go_ret
 refine⟨rfl,?_⟩;(with_reducible repeat first|exact bl0 _ _|refine blA ?_ _|(refine blS ?_ ?_ _;(simp<;>omega))|refine blD ?_|refine blN ?_ _|refine blF ?_ ‹_›)
theorem Qov:dirT.length=16:=rfl
theorem Qou{k:Nat}(h:k<16):dirT[k]? =some (dirT.getD k 0):=by
 rw[List.getD_eq_getElem?_getD,List.getElem?_eq_getElem (by rw[Qov];exact h)];rfl
theorem QhT(w:World)(T:TypeId){k:Nat}(h:k<16):(w.alloc (.cells #[.int .i64 1000,.int .i64 924,.int .i64 707,.int .i64 383,.int .i64 0,.int .i64 (-383),.int .i64 (-707),.int .i64 (-924),.int .i64 (-1000),.int .i64 (-924),.int .i64 (-707),.int .i64 (-383),.int .i64 0,.int .i64 383,.int .i64 707,.int .i64 924] T)).cell? ⟨w.heap.size,k,none⟩=some (.int .i64 (dirT.getD k 0)):=by
 have:=(Blk.new w #[.int .i64 1000,.int .i64 924,.int .i64 707,.int .i64 383,.int .i64 0,.int .i64 (-383),.int .i64 (-707),.int .i64 (-924),.int .i64 (-1000),.int .i64 (-924),.int .i64 (-707),.int .i64 (-383),.int .i64 0,.int .i64 383,.int .i64 707,.int .i64 924] T).2 k (.int .i64 (dirT.getD k 0)) (by
  have e:=Qou h
  have:([.int .i64 1000,.int .i64 924,.int .i64 707,.int .i64 383,.int .i64 0,.int .i64 (-383),.int .i64 (-707),.int .i64 (-924),.int .i64 (-1000),.int .i64 (-924),.int .i64 (-707),.int .i64 (-383),.int .i64 0,.int .i64 383,.int .i64 707,.int .i64 924]:List Value)=dirT.map (.int .i64):=rfl
  show([.int .i64 1000,.int .i64 924,.int .i64 707,.int .i64 383,.int .i64 0,.int .i64 (-383),.int .i64 (-707),.int .i64 (-924),.int .i64 (-1000),.int .i64 (-924),.int .i64 (-707),.int .i64 (-383),.int .i64 0,.int .i64 383,.int .i64 707,.int .i64 924]:List Value)[k]? =_
  rw[this,List.getElem?_map,e];rfl)
 exact this
set_option maxRecDepth 100000 in
theorem QqL(d:Int)(w:World)(h0:0≤d)(h1:d≤15):Calls Sq.prog 117 #[.int .i64 d] w fun e w'=>e= .returned (.agg #[.int .i64 (dirV d).x,.int .i64 (dirV d).y])∧Below w.heap.size w w':=by
 obtain⟨k,rfl⟩:=Int.eq_ofNat_of_zero_le h0
 obtain⟨j,hj,hjl⟩: ∃j:Nat,((k:Int)+12) % 16=(j:Int)∧j<16:=⟨(k+12) % 16,by simp,by omega⟩
 have q1:=QhT (w.alloc (.cells #[.int .i64 0,.int .i64 0] 37)) 3 (k:=k) (by omega)
 have q2:=QhT (w.alloc (.cells #[.int .i64 0,.int .i64 0] 37)) 3 (k:=j) (by omega)
 have e1:(dirV k).x=dirT.getD k 0:=rfl
 have e2:(dirV k).y=dirT.getD j 0:=by show dirT.getD (((k:Int)+12) % 16).toNat 0=_;rw[hj];rfl
 rw[e1,e2]
 simp only[World.size_alloc] at q1 q2
 have hk16:(k:Int)<16:=by omega
 have hj16:(j:Int)<16:=by omega
 have hS:IntKind.i64.wrap ((k:Int)+12)=(k:Int)+12:=IntWalk.i64_in _ (by omega)
 have hT:((k:Int)+12).tmod 16=(j:Int):=by rw[Int.tmod_eq_emod_of_nonneg (by omega),hj]
 clear e1 e2 hj
 go_enter Sq.func117, Tryz.ntmps117
 go_wp2
 refine Xq (fun W=>Bk W w.heap.size 37 #[.int .i64 0,.int .i64 0]∧W.cell? ⟨w.heap.size+1,k,none⟩=some (.int .i64 (dirT.getD k 0))∧W.cell? ⟨w.heap.size+1,j,none⟩=some (.int .i64 (dirT.getD j 0))∧Below w.heap.size w W) ⟨(Bk.new _ _ _ rfl).alloc _,q1,q2,by(with_reducible repeat first|exact bl0 _ _|refine blA ?_ _|(refine blS ?_ ?_ _;(simp<;>omega))|refine blD ?_|refine blN ?_ _|refine blF ?_ ‹_›)⟩ ?_
 clear q1 q2
 rintro W ⟨hA,q1,q2,hd⟩
 obtain⟨⟨a0,a1⟩,af⟩:=hA.c2
 go_still_tail 11,(by kernel_rfl)
 clear hS hT
 change wpList _ _ _ _ _ W.drew
 go_wp2
 refine bodyPost_ret (v:= .agg #[.int .i64 (dirT.getD k 0),.int .i64 (dirT.getD j 0)]) (by simp[results, Tryz.results117,go_sem,a0,a1]) rfl ⟨rfl,?_⟩;(with_reducible repeat first|exact bl0 _ _|refine blA ?_ _|(refine blS ?_ ?_ _;(simp<;>omega))|refine blD ?_|refine blN ?_ _|refine blF ?_ ‹_›)
end Go.Proofs.YtgaimkihacljdaaGreat
/- The reference's engine: how fast, where to, a tick. -/
namespace Go.Proofs.YtgaimkihacljdaaGreat
open Go.ChangeShapes Go.WideShapes Go.ChangeAt Go.RowKit
theorem QeQ{a m:Int}(h0: -100000≤a)(h1:a≤100000)(k0:0≤m)(k1:m≤1000000): -100000000000≤a*m∧a*m≤100000000000:=by
 have e1:=Int.mul_le_mul_of_nonneg_right h1 k0
 have e2:=Int.mul_le_mul_of_nonneg_right h0 k0
 omega
theorem QbQ{a b B:Int}(h: -B≤a∧a≤B): -B≤a.tdiv b∧a.tdiv b≤B:=by
 have:=Qfd a b
 omega
set_option maxRecDepth 100000 in
theorem QqK(v:V2)(m:Int)(w:World)(hv: -100000≤v.x∧v.x≤100000∧ -100000≤v.y∧v.y≤100000)(m0:0≤m)(m1:m≤1000000):
 Calls Sq.prog 118 #[.agg #[.int .i64 v.x,.int .i64 v.y],.int .i64 m] w fun e w'=>e= .returned (.agg #[.int .i64 (XB v m).x,.int .i64 (XB v m).y])∧Below w.heap.size w w':=by
 obtain⟨a1,a2,a3,a4⟩:=hv
 have hl:=QeJ v
 by_cases hm:lenV v≤m
 ·have hc:XB v m=v:=by unfold XB;rw[if_pos hm]
  rw[hc]
  clear hc
  go_enter Sq.func118, Tryz.ntmps118
  go_wp2_with (go_at_call 124;refine(Qgj v _ (by omega)).mono ?_;rintro e w1 ⟨rfl,hb1⟩;obtain⟨hc1,hf1⟩:=Qy hb1;have hy1:w.heap.size<w1.heap.size:=(by have:=hb1.size;first|omega|(simp at this;omega));have hz1:w.heap.size+1<w1.heap.size:=(by have:=hb1.size;first|omega|(simp at this;omega)))
  refine bodyPost_ret (v:= .agg #[.int .i64 v.x,.int .i64 v.y]) (by simp[results, Tryz.results118,go_sem, *]) rfl ⟨rfl,?_⟩;(with_reducible repeat first|exact bl0 _ _|refine blA ?_ _|(refine blS ?_ ?_ _;(simp<;>omega))|refine blD ?_|refine blN ?_ _|refine blF ?_ ‹_›)
 ·have hc:XB v m=⟨(v.x*m).tdiv (lenV v),(v.y*m).tdiv (lenV v)⟩:=by unfold XB;rw[if_neg hm]
  have hx:=QeQ a1 a2 m0 m1
  have hy:=QeQ a3 a4 m0 m1
  have hX:=QbQ (b:=lenV v) hx
  have hY:=QbQ (b:=lenV v) hy
  have hl0:0<lenV v:=by omega
  have hne: ¬lenV v=0:=by omega
  rw[hc]
  clear hc
  go_enter Sq.func118, Tryz.ntmps118
  go_wp2_with (go_at_call 124;refine(Qgj v _ (by omega)).mono ?_;rintro e w1 ⟨rfl,hb1⟩;obtain⟨hc1,hf1⟩:=Qy hb1;have hy1:w.heap.size<w1.heap.size:=(by have:=hb1.size;first|omega|(simp at this;omega));have hz1:w.heap.size+1<w1.heap.size:=(by have:=hb1.size;first|omega|(simp at this;omega)))
  refine Xq (fun W=>Bk W w.heap.size 37 #[.int .i64 v.x,.int .i64 v.y]∧Bk W (w.heap.size+1) 37 #[.int .i64 0,.int .i64 0]∧Below w.heap.size w W) ⟨((Bk.new _ _ _ rfl).alloc _).later hb1,(Bk.new _ _ _ (by simp)).later hb1,by(with_reducible repeat first|exact bl0 _ _|refine blA ?_ _|(refine blS ?_ ?_ _;(simp<;>omega))|refine blD ?_|refine blN ?_ _|refine blF ?_ ‹_›)⟩ ?_
  rintro W ⟨hA,hB,hd⟩
  obtain⟨⟨p0,p1⟩,pf⟩:=hA.c2
  obtain⟨⟨b0,b1⟩,bf⟩:=hB.c2
  clear hb1 hc1 hf1 hy1 hz1
  have e1:IntKind.i64.wrap (v.x*m)=v.x*m:=IntWalk.i64_in _ (by omega)
  have e2:IntKind.i64.wrap (v.y*m)=v.y*m:=IntWalk.i64_in _ (by omega)
  have e3:IntKind.i64.wrap ((v.x*m).tdiv (lenV v))=(v.x*m).tdiv (lenV v):=IntWalk.i64_in _ (by omega)
  have e4:IntKind.i64.wrap ((v.y*m).tdiv (lenV v))=(v.y*m).tdiv (lenV v):=IntWalk.i64_in _ (by omega)
  go_still_tail 13,(by kernel_rfl)
  clear e1 e2 e3 e4
  change wpList _ _ _ _ _ W.drew
  go_wp2
  refine bodyPost_ret (v:= .agg #[.int .i64 ((v.x*m).tdiv (lenV v)),.int .i64 ((v.y*m).tdiv (lenV v))]) (by simp[results, Tryz.results118,go_sem,b0,b1]) rfl ⟨rfl,?_⟩;(with_reducible repeat first|exact bl0 _ _|refine blA ?_ _|(refine blS ?_ ?_ _;(simp<;>omega))|refine blD ?_|refine blN ?_ _|refine blF ?_ ‹_›)
theorem Qkc{d:Int}(h0:0≤d)(h1:d≤15): -1000≤(QQ (dirV d) 200).x∧(QQ (dirV d) 200).x≤1000∧ -1000≤(QQ (dirV d) 200).y∧(QQ (dirV d) 200).y≤1000:=by
 obtain⟨a,b,c,e⟩:=QfH h0 h1
 have hx:=QeP (a:=(dirV d).x) (k:=200) (by omega) (by omega)
 have hy:=QeP (a:=(dirV d).y) (k:=200) (by omega) (by omega)
 simp only[QQ]
 omega
set_option maxRecDepth 100000 in
theorem QqF(s:St)(d pw:Int)(w:World)(hf:fOk s.f)(h0:0≤d)(h1:d≤15):
 Calls Sq.prog 104 #[.agg #[.int .i64 s.t,.int .i64 s.p.x,.int .i64 s.p.y,.int .i64 s.f.x,.int .i64 s.f.y,.int .i64 s.d,.int .i64 s.g,.bool s.dn,.bool s.ov],.int .i64 d,.int .i64 pw] w fun e w'=>e= .returned (.agg #[.int .i64 (Zx s.f d pw).x,.int .i64 (Zx s.f d pw).y])∧Below w.heap.size w w':=by
 obtain⟨f1,f2,f3,f4⟩:=JN hf
 obtain⟨g1,g2,g3,g4⟩:=Qkc h0 h1
 by_cases hp1:pw=1
 ·subst hp1
  have hr:Zx s.f d 1=XB ⟨s.f.x+(QQ (dirV d) 200).x,s.f.y+(QQ (dirV d) 200).y⟩ 2000:=by unfold Zx;rw[if_pos rfl]
  rw[hr]
  clear hr
  obtain⟨k1,k2,k3,k4⟩:=QfH h0 h1
  go_enter Sq.func104, Tryz.ntmps104
  go_wp2_with (first
   |(go_at_call 117;refine(QqL d _ h0 h1).mono ?_;rintro e w1 ⟨rfl,hb1⟩;obtain⟨hc1,hf1⟩:=Qy hb1;have hy1:w.heap.size<w1.heap.size:=(by have:=hb1.size;first|omega|(simp at this;omega));have hz1:w.heap.size+1<w1.heap.size:=(by have:=hb1.size;first|omega|(simp at this;omega)))
   |(go_at_call 116;refine(Qgk (dirV d) 200 _ (by unfold bdV;omega) (by omega) (by omega)).mono ?_;rintro e w2 ⟨rfl,hb2⟩;obtain⟨hc2,hf2⟩:=Qy hb2;have hy2:w.heap.size<w2.heap.size:=(by have:=hb2.size;first|omega|(simp at this;omega));have hz2:w.heap.size+1<w2.heap.size:=(by have:=hb2.size;first|omega|(simp at this;omega)))
   |(go_at_call 118;refine(QqK ⟨s.f.x+(QQ (dirV d) 200).x,s.f.y+(QQ (dirV d) 200).y⟩ 2000 _ (by simp only;omega) (by omega) (by omega)).mono ?_;rintro e w3 ⟨rfl,hb3⟩;obtain⟨hc3,hf3⟩:=Qy hb3;have hy3:w.heap.size<w3.heap.size:=(by have:=hb3.size;first|omega|(simp at this;omega));have hz3:w.heap.size+1<w3.heap.size:=(by have:=hb3.size;first|omega|(simp at this;omega))))
  refine bodyPost_ret (v:= .agg #[.int .i64 (XB ⟨s.f.x+(QQ (dirV d) 200).x,s.f.y+(QQ (dirV d) 200).y⟩ 2000).x,.int .i64 (XB ⟨s.f.x+(QQ (dirV d) 200).x,s.f.y+(QQ (dirV d) 200).y⟩ 2000).y]) (by simp[results, Tryz.results104,go_sem, *]) rfl ⟨rfl,?_⟩;(with_reducible repeat first|exact bl0 _ _|refine blA ?_ _|(refine blS ?_ ?_ _;(simp<;>omega))|refine blD ?_|refine blN ?_ _|refine blF ?_ ‹_›)
 ·have hp1b:(pw == 1)=false:=by simpa using hp1
  by_cases hp2:pw=2
  ·subst hp2
   have hr:Zx s.f d 2=QQ s.f 700:=by unfold Zx;rw[if_neg (by omega),if_pos rfl]
   rw[hr]
   clear hr
   go_enter Sq.func104, Tryz.ntmps104
   go_wp2_with (go_at_call 116;refine(Qgk s.f 700 _ (by unfold bdV;omega) (by omega) (by omega)).mono ?_;rintro e w2 ⟨rfl,hb2⟩;obtain⟨hc2,hf2⟩:=Qy hb2;have hy2:w.heap.size<w2.heap.size:=(by have:=hb2.size;first|omega|(simp at this;omega));have hz2:w.heap.size+1<w2.heap.size:=(by have:=hb2.size;first|omega|(simp at this;omega)))
   refine bodyPost_ret (v:= .agg #[.int .i64 (QQ s.f 700).x,.int .i64 (QQ s.f 700).y]) (by simp[results, Tryz.results104,go_sem, *]) rfl ⟨rfl,?_⟩;(with_reducible repeat first|exact bl0 _ _|refine blA ?_ _|(refine blS ?_ ?_ _;(simp<;>omega))|refine blD ?_|refine blN ?_ _|refine blF ?_ ‹_›)
  ·have hp2b:(pw == 2)=false:=by simpa using hp2
   have hr:Zx s.f d pw=QQ s.f 950:=by unfold Zx;rw[if_neg hp1,if_neg hp2]
   rw[hr]
   clear hr
   go_enter Sq.func104, Tryz.ntmps104
   go_wp2_with (go_at_call 116;refine(Qgk s.f 950 _ (by unfold bdV;omega) (by omega) (by omega)).mono ?_;rintro e w2 ⟨rfl,hb2⟩;obtain⟨hc2,hf2⟩:=Qy hb2;have hy2:w.heap.size<w2.heap.size:=(by have:=hb2.size;first|omega|(simp at this;omega));have hz2:w.heap.size+1<w2.heap.size:=(by have:=hb2.size;first|omega|(simp at this;omega)))
   refine bodyPost_ret (v:= .agg #[.int .i64 (QQ s.f 950).x,.int .i64 (QQ s.f 950).y]) (by simp[results, Tryz.results104,go_sem, *]) rfl ⟨rfl,?_⟩;(with_reducible repeat first|exact bl0 _ _|refine blA ?_ _|(refine blS ?_ ?_ _;(simp<;>omega))|refine blD ?_|refine blN ?_ _|refine blF ?_ ‹_›)
set_option maxRecDepth 100000 in
set_option maxHeartbeats 2000000 in
theorem QqH(l:Lev)(s:St)(A A':Option Addr)(c c':Nat)(w:World)(h:Sl w 4 Qc A l.walls.length l.walls)(hn:(l.walls.length:Nat)≤9223372036854775807)(hw: ∀b∈l.walls,bdBx b)(hp:vOk s.p=true)(hf:fOk s.f):
 Calls Sq.prog 105 #[.agg #[.int .i64 l.id,.int .i64 l.ticks,.int .i64 l.start.x,.int .i64 l.start.y,.slice A l.walls.length c,.slice A' l.gates.length c',.int .i64 l.fin.lo.x,.int .i64 l.fin.lo.y,.int .i64 l.fin.hi.x,.int .i64 l.fin.hi.y,.int .i64 l.bans],.agg #[.int .i64 s.t,.int .i64 s.p.x,.int .i64 s.p.y,.int .i64 s.f.x,.int .i64 s.f.y,.int .i64 s.d,.int .i64 s.g,.bool s.dn,.bool s.ov]] w fun e w'=>e= .returned (.agg #[.int .i64 s.t,.int .i64 (ZK l s.p s.f).1.x,.int .i64 (ZK l s.p s.f).1.y,.int .i64 (ZK l s.p s.f).2.x,.int .i64 (ZK l s.p s.f).2.y,.int .i64 s.d,.int .i64 s.g,.bool s.dn,.bool s.ov])∧Below w.heap.size w w':=by
 obtain⟨f1,f2,f3,f4⟩:=JN hf
 obtain⟨p1,p2,p3,p4⟩:=ZO.1 hp
 obtain⟨t,⟨px,py⟩,⟨fx,fy⟩,d,g,dn,ov⟩:=s
 simp only at*
 obtain⟨d1,d2⟩:=QbQ (a:=fx) (b:=2) (B:=2000) (by omega)
 obtain⟨d3,d4⟩:=QbQ (a:=fy) (b:=2) (B:=2000) (by omega)
 clear hp hf
 cases hX:QY l ⟨px+fx,py⟩
 ·have hm1:Zz l ⟨px,py⟩ ⟨fx,fy⟩=(⟨px,py⟩,⟨-(fx.tdiv 2),fy⟩):=by unfold Zz;rw[hX];rfl
  cases hY:QY l ⟨px,py+fy⟩
  ·have hm:ZK l ⟨px,py⟩ ⟨fx,fy⟩=(⟨px,py⟩,⟨-(fx.tdiv 2), -(fy.tdiv 2)⟩):=by unfold ZK;rw[hm1];unfold ZY;simp only;rw[hY];rfl
   rw[hm]
   clear hm hm1
   go_enter Sq.func105, Tryz.ntmps105
   go_wp2_with fail
   refine(Qa6 l (px+fx) py _ _ _ _ _ (h.below (by(with_reducible repeat first|exact bl0 _ _|refine blA ?_ _|(refine blS ?_ ?_ _;(simp<;>omega))|refine blD ?_|refine blN ?_ _|refine blF ?_ ‹_›))) hn hw (by unfold bdV;simp only;omega)).mono ?_
   rintro e w1 ⟨rfl,hb1⟩
   have hL1:Bk w1 w.heap.size 42 #[.int .i64 l.id,.int .i64 l.ticks,.int .i64 l.start.x,.int .i64 l.start.y,.slice A l.walls.length c,.slice A' l.gates.length c',.int .i64 l.fin.lo.x,.int .i64 l.fin.lo.y,.int .i64 l.fin.hi.x,.int .i64 l.fin.hi.y,.int .i64 l.bans]:=by(repeat first|(with_reducible first|assumption|exact kN _ _ _ (by simp)|refine kA ?_ _|refine kD ?_|refine kW ?_ _|apply Bk.set'|refine kF ?_ (by simp<;>omega) _|refine kL ?_ ‹_›|refine kG ?_ ‹_› (by first|omega|simp<;>omega))|exact⟨by with_reducible rfl⟩|exact⟨by simp⟩)
   have hS1:Bk w1 (w.heap.size+1) 72 #[.int .i64 t,.int .i64 (px),.int .i64 (py),.int .i64 (fx),.int .i64 (fy),.int .i64 d,.int .i64 g,.bool dn,.bool ov]:=by(repeat first|(with_reducible first|assumption|exact kN _ _ _ (by simp)|refine kA ?_ _|refine kD ?_|refine kW ?_ _|apply Bk.set'|refine kF ?_ (by simp<;>omega) _|refine kL ?_ ‹_›|refine kG ?_ ‹_› (by first|omega|simp<;>omega))|exact⟨by with_reducible rfl⟩|exact⟨by simp⟩)
   have hR1:Bk w1 (w.heap.size+1+1) 72 #[.int .i64 0,.int .i64 0,.int .i64 0,.int .i64 0,.int .i64 0,.int .i64 0,.int .i64 0,.bool false,.bool false]:=by(repeat first|(with_reducible first|assumption|exact kN _ _ _ (by simp)|refine kA ?_ _|refine kD ?_|refine kW ?_ _|apply Bk.set'|refine kF ?_ (by simp<;>omega) _|refine kL ?_ ‹_›|refine kG ?_ ‹_› (by first|omega|simp<;>omega))|exact⟨by with_reducible rfl⟩|exact⟨by simp⟩)
   have hX1:Bk w1 (w.heap.size+1+1+1) 37 #[.int .i64 (px+fx),.int .i64 py]:=by(repeat first|(with_reducible first|assumption|exact kN _ _ _ (by simp)|refine kA ?_ _|refine kD ?_|refine kW ?_ _|apply Bk.set'|refine kF ?_ (by simp<;>omega) _|refine kL ?_ ‹_›|refine kG ?_ ‹_› (by first|omega|simp<;>omega))|exact⟨by with_reducible rfl⟩|exact⟨by simp⟩)
   have hd1:Below w.heap.size w w1:=by(with_reducible repeat first|exact bl0 _ _|refine blA ?_ _|(refine blS ?_ ?_ _;(simp<;>omega))|refine blD ?_|refine blN ?_ _|refine blF ?_ ‹_›)
   clear hb1
   obtain⟨⟨l0,l1,l2,l3,l4,l5,l6,l7,l8,l9,l10⟩,lf⟩:=hL1.c11;obtain⟨⟨s0,s1,s2,s3,s4,s5,s6,s7,s8⟩,sf⟩:=hS1.c9;obtain⟨⟨x0,x1⟩,xf⟩:=hX1.c2
   have z1:=hX1.lt;have z2:=hL1.lt;have z3:=hS1.lt;have z4:=hR1.lt
   go_wp2_with fail
   refine(Qa6 l (px) (py+fy) _ _ _ _ _ (h.below (by(with_reducible repeat first|exact bl0 _ _|refine blA ?_ _|(refine blS ?_ ?_ _;(simp<;>omega))|refine blD ?_|refine blN ?_ _|refine blF ?_ ‹_›))) hn hw (by unfold bdV;simp only;omega)).mono ?_
   rintro e w2 ⟨rfl,hb2⟩
   have hS2:Bk w2 (w.heap.size+1) 72 #[.int .i64 t,.int .i64 (px),.int .i64 (py),.int .i64 (-(fx.tdiv 2)),.int .i64 (fy),.int .i64 d,.int .i64 g,.bool dn,.bool ov]:=by(repeat first|(with_reducible first|assumption|exact kN _ _ _ (by simp)|refine kA ?_ _|refine kD ?_|refine kW ?_ _|apply Bk.set'|refine kF ?_ (by simp<;>omega) _|refine kL ?_ ‹_›|refine kG ?_ ‹_› (by first|omega|simp<;>omega))|exact⟨by with_reducible rfl⟩|exact⟨by simp⟩)
   have hR2:Bk w2 (w.heap.size+1+1) 72 #[.int .i64 0,.int .i64 0,.int .i64 0,.int .i64 0,.int .i64 0,.int .i64 0,.int .i64 0,.bool false,.bool false]:=by(repeat first|(with_reducible first|assumption|exact kN _ _ _ (by simp)|refine kA ?_ _|refine kD ?_|refine kW ?_ _|apply Bk.set'|refine kF ?_ (by simp<;>omega) _|refine kL ?_ ‹_›|refine kG ?_ ‹_› (by first|omega|simp<;>omega))|exact⟨by with_reducible rfl⟩|exact⟨by simp⟩)
   have hY2:Bk w2 w1.heap.size 37 #[.int .i64 (px),.int .i64 (py+fy)]:=by(repeat first|(with_reducible first|assumption|exact kN _ _ _ (by simp)|refine kA ?_ _|refine kD ?_|refine kW ?_ _|apply Bk.set'|refine kF ?_ (by simp<;>omega) _|refine kL ?_ ‹_›|refine kG ?_ ‹_› (by first|omega|simp<;>omega))|exact⟨by with_reducible rfl⟩|exact⟨by simp⟩)
   have hd2:Below w.heap.size w w2:=by(with_reducible repeat first|exact bl0 _ _|refine blA ?_ _|(refine blS ?_ ?_ _;(simp<;>omega))|refine blD ?_|refine blN ?_ _|refine blF ?_ ‹_›)
   clear hb2 hd1 l0 l1 l2 l3 l4 l5 l6 l7 l8 l9 l10 lf s0 s1 s2 s3 s4 s5 s6 s7 s8 sf x0 x1 xf hL1 hS1 hR1 hX1
   have y1:=hS2.lt;have y2:=hR2.lt;have y3:=hY2.lt
   obtain⟨⟨s0,s1,s2,s3,s4,s5,s6,s7,s8⟩,sf⟩:=hS2.c9;obtain⟨⟨r0,r1,r2,r3,r4,r5,r6,r7,r8⟩,rf⟩:=hR2.c9;obtain⟨⟨x0,x1⟩,xf⟩:=hY2.c2
   go_wp2
   refine bodyPost_ret (v:= .agg #[.int .i64 t,.int .i64 (px),.int .i64 (py),.int .i64 (-(fx.tdiv 2)),.int .i64 (-(fy.tdiv 2)),.int .i64 d,.int .i64 g,.bool dn,.bool ov]) (by simp[results, Tryz.results105,go_sem, *]) rfl ⟨rfl,?_⟩;(with_reducible repeat first|exact bl0 _ _|refine blA ?_ _|(refine blS ?_ ?_ _;(simp<;>omega))|refine blD ?_|refine blN ?_ _|refine blF ?_ ‹_›)
  ·have hm:ZK l ⟨px,py⟩ ⟨fx,fy⟩=(⟨px,py+fy⟩,⟨-(fx.tdiv 2),fy⟩):=by unfold ZK;rw[hm1];unfold ZY;simp only;rw[hY];rfl
   rw[hm]
   clear hm hm1
   go_enter Sq.func105, Tryz.ntmps105
   go_wp2_with fail
   refine(Qa6 l (px+fx) py _ _ _ _ _ (h.below (by(with_reducible repeat first|exact bl0 _ _|refine blA ?_ _|(refine blS ?_ ?_ _;(simp<;>omega))|refine blD ?_|refine blN ?_ _|refine blF ?_ ‹_›))) hn hw (by unfold bdV;simp only;omega)).mono ?_
   rintro e w1 ⟨rfl,hb1⟩
   have hL1:Bk w1 w.heap.size 42 #[.int .i64 l.id,.int .i64 l.ticks,.int .i64 l.start.x,.int .i64 l.start.y,.slice A l.walls.length c,.slice A' l.gates.length c',.int .i64 l.fin.lo.x,.int .i64 l.fin.lo.y,.int .i64 l.fin.hi.x,.int .i64 l.fin.hi.y,.int .i64 l.bans]:=by(repeat first|(with_reducible first|assumption|exact kN _ _ _ (by simp)|refine kA ?_ _|refine kD ?_|refine kW ?_ _|apply Bk.set'|refine kF ?_ (by simp<;>omega) _|refine kL ?_ ‹_›|refine kG ?_ ‹_› (by first|omega|simp<;>omega))|exact⟨by with_reducible rfl⟩|exact⟨by simp⟩)
   have hS1:Bk w1 (w.heap.size+1) 72 #[.int .i64 t,.int .i64 (px),.int .i64 (py),.int .i64 (fx),.int .i64 (fy),.int .i64 d,.int .i64 g,.bool dn,.bool ov]:=by(repeat first|(with_reducible first|assumption|exact kN _ _ _ (by simp)|refine kA ?_ _|refine kD ?_|refine kW ?_ _|apply Bk.set'|refine kF ?_ (by simp<;>omega) _|refine kL ?_ ‹_›|refine kG ?_ ‹_› (by first|omega|simp<;>omega))|exact⟨by with_reducible rfl⟩|exact⟨by simp⟩)
   have hR1:Bk w1 (w.heap.size+1+1) 72 #[.int .i64 0,.int .i64 0,.int .i64 0,.int .i64 0,.int .i64 0,.int .i64 0,.int .i64 0,.bool false,.bool false]:=by(repeat first|(with_reducible first|assumption|exact kN _ _ _ (by simp)|refine kA ?_ _|refine kD ?_|refine kW ?_ _|apply Bk.set'|refine kF ?_ (by simp<;>omega) _|refine kL ?_ ‹_›|refine kG ?_ ‹_› (by first|omega|simp<;>omega))|exact⟨by with_reducible rfl⟩|exact⟨by simp⟩)
   have hX1:Bk w1 (w.heap.size+1+1+1) 37 #[.int .i64 (px+fx),.int .i64 py]:=by(repeat first|(with_reducible first|assumption|exact kN _ _ _ (by simp)|refine kA ?_ _|refine kD ?_|refine kW ?_ _|apply Bk.set'|refine kF ?_ (by simp<;>omega) _|refine kL ?_ ‹_›|refine kG ?_ ‹_› (by first|omega|simp<;>omega))|exact⟨by with_reducible rfl⟩|exact⟨by simp⟩)
   have hd1:Below w.heap.size w w1:=by(with_reducible repeat first|exact bl0 _ _|refine blA ?_ _|(refine blS ?_ ?_ _;(simp<;>omega))|refine blD ?_|refine blN ?_ _|refine blF ?_ ‹_›)
   clear hb1
   obtain⟨⟨l0,l1,l2,l3,l4,l5,l6,l7,l8,l9,l10⟩,lf⟩:=hL1.c11;obtain⟨⟨s0,s1,s2,s3,s4,s5,s6,s7,s8⟩,sf⟩:=hS1.c9;obtain⟨⟨x0,x1⟩,xf⟩:=hX1.c2
   have z1:=hX1.lt;have z2:=hL1.lt;have z3:=hS1.lt;have z4:=hR1.lt
   go_wp2_with fail
   refine(Qa6 l (px) (py+fy) _ _ _ _ _ (h.below (by(with_reducible repeat first|exact bl0 _ _|refine blA ?_ _|(refine blS ?_ ?_ _;(simp<;>omega))|refine blD ?_|refine blN ?_ _|refine blF ?_ ‹_›))) hn hw (by unfold bdV;simp only;omega)).mono ?_
   rintro e w2 ⟨rfl,hb2⟩
   have hS2:Bk w2 (w.heap.size+1) 72 #[.int .i64 t,.int .i64 (px),.int .i64 (py),.int .i64 (-(fx.tdiv 2)),.int .i64 (fy),.int .i64 d,.int .i64 g,.bool dn,.bool ov]:=by(repeat first|(with_reducible first|assumption|exact kN _ _ _ (by simp)|refine kA ?_ _|refine kD ?_|refine kW ?_ _|apply Bk.set'|refine kF ?_ (by simp<;>omega) _|refine kL ?_ ‹_›|refine kG ?_ ‹_› (by first|omega|simp<;>omega))|exact⟨by with_reducible rfl⟩|exact⟨by simp⟩)
   have hR2:Bk w2 (w.heap.size+1+1) 72 #[.int .i64 0,.int .i64 0,.int .i64 0,.int .i64 0,.int .i64 0,.int .i64 0,.int .i64 0,.bool false,.bool false]:=by(repeat first|(with_reducible first|assumption|exact kN _ _ _ (by simp)|refine kA ?_ _|refine kD ?_|refine kW ?_ _|apply Bk.set'|refine kF ?_ (by simp<;>omega) _|refine kL ?_ ‹_›|refine kG ?_ ‹_› (by first|omega|simp<;>omega))|exact⟨by with_reducible rfl⟩|exact⟨by simp⟩)
   have hY2:Bk w2 w1.heap.size 37 #[.int .i64 (px),.int .i64 (py+fy)]:=by(repeat first|(with_reducible first|assumption|exact kN _ _ _ (by simp)|refine kA ?_ _|refine kD ?_|refine kW ?_ _|apply Bk.set'|refine kF ?_ (by simp<;>omega) _|refine kL ?_ ‹_›|refine kG ?_ ‹_› (by first|omega|simp<;>omega))|exact⟨by with_reducible rfl⟩|exact⟨by simp⟩)
   have hd2:Below w.heap.size w w2:=by(with_reducible repeat first|exact bl0 _ _|refine blA ?_ _|(refine blS ?_ ?_ _;(simp<;>omega))|refine blD ?_|refine blN ?_ _|refine blF ?_ ‹_›)
   clear hb2 hd1 l0 l1 l2 l3 l4 l5 l6 l7 l8 l9 l10 lf s0 s1 s2 s3 s4 s5 s6 s7 s8 sf x0 x1 xf hL1 hS1 hR1 hX1
   have y1:=hS2.lt;have y2:=hR2.lt;have y3:=hY2.lt
   obtain⟨⟨s0,s1,s2,s3,s4,s5,s6,s7,s8⟩,sf⟩:=hS2.c9;obtain⟨⟨r0,r1,r2,r3,r4,r5,r6,r7,r8⟩,rf⟩:=hR2.c9;obtain⟨⟨x0,x1⟩,xf⟩:=hY2.c2
   go_wp2
   refine bodyPost_ret (v:= .agg #[.int .i64 t,.int .i64 (px),.int .i64 (py+fy),.int .i64 (-(fx.tdiv 2)),.int .i64 (fy),.int .i64 d,.int .i64 g,.bool dn,.bool ov]) (by simp[results, Tryz.results105,go_sem, *]) rfl ⟨rfl,?_⟩;(with_reducible repeat first|exact bl0 _ _|refine blA ?_ _|(refine blS ?_ ?_ _;(simp<;>omega))|refine blD ?_|refine blN ?_ _|refine blF ?_ ‹_›)
 ·have hm1:Zz l ⟨px,py⟩ ⟨fx,fy⟩=(⟨px+fx,py⟩,⟨fx,fy⟩):=by unfold Zz;rw[hX];rfl
  cases hY:QY l ⟨px+fx,py+fy⟩
  ·have hm:ZK l ⟨px,py⟩ ⟨fx,fy⟩=(⟨px+fx,py⟩,⟨fx, -(fy.tdiv 2)⟩):=by unfold ZK;rw[hm1];unfold ZY;simp only;rw[hY];rfl
   rw[hm]
   clear hm hm1
   go_enter Sq.func105, Tryz.ntmps105
   go_wp2_with fail
   refine(Qa6 l (px+fx) py _ _ _ _ _ (h.below (by(with_reducible repeat first|exact bl0 _ _|refine blA ?_ _|(refine blS ?_ ?_ _;(simp<;>omega))|refine blD ?_|refine blN ?_ _|refine blF ?_ ‹_›))) hn hw (by unfold bdV;simp only;omega)).mono ?_
   rintro e w1 ⟨rfl,hb1⟩
   have hL1:Bk w1 w.heap.size 42 #[.int .i64 l.id,.int .i64 l.ticks,.int .i64 l.start.x,.int .i64 l.start.y,.slice A l.walls.length c,.slice A' l.gates.length c',.int .i64 l.fin.lo.x,.int .i64 l.fin.lo.y,.int .i64 l.fin.hi.x,.int .i64 l.fin.hi.y,.int .i64 l.bans]:=by(repeat first|(with_reducible first|assumption|exact kN _ _ _ (by simp)|refine kA ?_ _|refine kD ?_|refine kW ?_ _|apply Bk.set'|refine kF ?_ (by simp<;>omega) _|refine kL ?_ ‹_›|refine kG ?_ ‹_› (by first|omega|simp<;>omega))|exact⟨by with_reducible rfl⟩|exact⟨by simp⟩)
   have hS1:Bk w1 (w.heap.size+1) 72 #[.int .i64 t,.int .i64 (px),.int .i64 (py),.int .i64 (fx),.int .i64 (fy),.int .i64 d,.int .i64 g,.bool dn,.bool ov]:=by(repeat first|(with_reducible first|assumption|exact kN _ _ _ (by simp)|refine kA ?_ _|refine kD ?_|refine kW ?_ _|apply Bk.set'|refine kF ?_ (by simp<;>omega) _|refine kL ?_ ‹_›|refine kG ?_ ‹_› (by first|omega|simp<;>omega))|exact⟨by with_reducible rfl⟩|exact⟨by simp⟩)
   have hR1:Bk w1 (w.heap.size+1+1) 72 #[.int .i64 0,.int .i64 0,.int .i64 0,.int .i64 0,.int .i64 0,.int .i64 0,.int .i64 0,.bool false,.bool false]:=by(repeat first|(with_reducible first|assumption|exact kN _ _ _ (by simp)|refine kA ?_ _|refine kD ?_|refine kW ?_ _|apply Bk.set'|refine kF ?_ (by simp<;>omega) _|refine kL ?_ ‹_›|refine kG ?_ ‹_› (by first|omega|simp<;>omega))|exact⟨by with_reducible rfl⟩|exact⟨by simp⟩)
   have hX1:Bk w1 (w.heap.size+1+1+1) 37 #[.int .i64 (px+fx),.int .i64 py]:=by(repeat first|(with_reducible first|assumption|exact kN _ _ _ (by simp)|refine kA ?_ _|refine kD ?_|refine kW ?_ _|apply Bk.set'|refine kF ?_ (by simp<;>omega) _|refine kL ?_ ‹_›|refine kG ?_ ‹_› (by first|omega|simp<;>omega))|exact⟨by with_reducible rfl⟩|exact⟨by simp⟩)
   have hd1:Below w.heap.size w w1:=by(with_reducible repeat first|exact bl0 _ _|refine blA ?_ _|(refine blS ?_ ?_ _;(simp<;>omega))|refine blD ?_|refine blN ?_ _|refine blF ?_ ‹_›)
   clear hb1
   obtain⟨⟨l0,l1,l2,l3,l4,l5,l6,l7,l8,l9,l10⟩,lf⟩:=hL1.c11;obtain⟨⟨s0,s1,s2,s3,s4,s5,s6,s7,s8⟩,sf⟩:=hS1.c9;obtain⟨⟨x0,x1⟩,xf⟩:=hX1.c2
   have z1:=hX1.lt;have z2:=hL1.lt;have z3:=hS1.lt;have z4:=hR1.lt
   go_wp2_with fail
   refine(Qa6 l (px+fx) (py+fy) _ _ _ _ _ (h.below (by(with_reducible repeat first|exact bl0 _ _|refine blA ?_ _|(refine blS ?_ ?_ _;(simp<;>omega))|refine blD ?_|refine blN ?_ _|refine blF ?_ ‹_›))) hn hw (by unfold bdV;simp only;omega)).mono ?_
   rintro e w2 ⟨rfl,hb2⟩
   have hS2:Bk w2 (w.heap.size+1) 72 #[.int .i64 t,.int .i64 (px+fx),.int .i64 (py),.int .i64 (fx),.int .i64 (fy),.int .i64 d,.int .i64 g,.bool dn,.bool ov]:=by(repeat first|(with_reducible first|assumption|exact kN _ _ _ (by simp)|refine kA ?_ _|refine kD ?_|refine kW ?_ _|apply Bk.set'|refine kF ?_ (by simp<;>omega) _|refine kL ?_ ‹_›|refine kG ?_ ‹_› (by first|omega|simp<;>omega))|exact⟨by with_reducible rfl⟩|exact⟨by simp⟩)
   have hR2:Bk w2 (w.heap.size+1+1) 72 #[.int .i64 0,.int .i64 0,.int .i64 0,.int .i64 0,.int .i64 0,.int .i64 0,.int .i64 0,.bool false,.bool false]:=by(repeat first|(with_reducible first|assumption|exact kN _ _ _ (by simp)|refine kA ?_ _|refine kD ?_|refine kW ?_ _|apply Bk.set'|refine kF ?_ (by simp<;>omega) _|refine kL ?_ ‹_›|refine kG ?_ ‹_› (by first|omega|simp<;>omega))|exact⟨by with_reducible rfl⟩|exact⟨by simp⟩)
   have hY2:Bk w2 w1.heap.size 37 #[.int .i64 (px+fx),.int .i64 (py+fy)]:=by(repeat first|(with_reducible first|assumption|exact kN _ _ _ (by simp)|refine kA ?_ _|refine kD ?_|refine kW ?_ _|apply Bk.set'|refine kF ?_ (by simp<;>omega) _|refine kL ?_ ‹_›|refine kG ?_ ‹_› (by first|omega|simp<;>omega))|exact⟨by with_reducible rfl⟩|exact⟨by simp⟩)
   have hd2:Below w.heap.size w w2:=by(with_reducible repeat first|exact bl0 _ _|refine blA ?_ _|(refine blS ?_ ?_ _;(simp<;>omega))|refine blD ?_|refine blN ?_ _|refine blF ?_ ‹_›)
   clear hb2 hd1 l0 l1 l2 l3 l4 l5 l6 l7 l8 l9 l10 lf s0 s1 s2 s3 s4 s5 s6 s7 s8 sf x0 x1 xf hL1 hS1 hR1 hX1
   have y1:=hS2.lt;have y2:=hR2.lt;have y3:=hY2.lt
   obtain⟨⟨s0,s1,s2,s3,s4,s5,s6,s7,s8⟩,sf⟩:=hS2.c9;obtain⟨⟨r0,r1,r2,r3,r4,r5,r6,r7,r8⟩,rf⟩:=hR2.c9;obtain⟨⟨x0,x1⟩,xf⟩:=hY2.c2
   go_wp2
   refine bodyPost_ret (v:= .agg #[.int .i64 t,.int .i64 (px+fx),.int .i64 (py),.int .i64 (fx),.int .i64 (-(fy.tdiv 2)),.int .i64 d,.int .i64 g,.bool dn,.bool ov]) (by simp[results, Tryz.results105,go_sem, *]) rfl ⟨rfl,?_⟩;(with_reducible repeat first|exact bl0 _ _|refine blA ?_ _|(refine blS ?_ ?_ _;(simp<;>omega))|refine blD ?_|refine blN ?_ _|refine blF ?_ ‹_›)
  ·have hm:ZK l ⟨px,py⟩ ⟨fx,fy⟩=(⟨px+fx,py+fy⟩,⟨fx,fy⟩):=by unfold ZK;rw[hm1];unfold ZY;simp only;rw[hY];rfl
   rw[hm]
   clear hm hm1
   go_enter Sq.func105, Tryz.ntmps105
   go_wp2_with fail
   refine(Qa6 l (px+fx) py _ _ _ _ _ (h.below (by(with_reducible repeat first|exact bl0 _ _|refine blA ?_ _|(refine blS ?_ ?_ _;(simp<;>omega))|refine blD ?_|refine blN ?_ _|refine blF ?_ ‹_›))) hn hw (by unfold bdV;simp only;omega)).mono ?_
   rintro e w1 ⟨rfl,hb1⟩
   have hL1:Bk w1 w.heap.size 42 #[.int .i64 l.id,.int .i64 l.ticks,.int .i64 l.start.x,.int .i64 l.start.y,.slice A l.walls.length c,.slice A' l.gates.length c',.int .i64 l.fin.lo.x,.int .i64 l.fin.lo.y,.int .i64 l.fin.hi.x,.int .i64 l.fin.hi.y,.int .i64 l.bans]:=by(repeat first|(with_reducible first|assumption|exact kN _ _ _ (by simp)|refine kA ?_ _|refine kD ?_|refine kW ?_ _|apply Bk.set'|refine kF ?_ (by simp<;>omega) _|refine kL ?_ ‹_›|refine kG ?_ ‹_› (by first|omega|simp<;>omega))|exact⟨by with_reducible rfl⟩|exact⟨by simp⟩)
   have hS1:Bk w1 (w.heap.size+1) 72 #[.int .i64 t,.int .i64 (px),.int .i64 (py),.int .i64 (fx),.int .i64 (fy),.int .i64 d,.int .i64 g,.bool dn,.bool ov]:=by(repeat first|(with_reducible first|assumption|exact kN _ _ _ (by simp)|refine kA ?_ _|refine kD ?_|refine kW ?_ _|apply Bk.set'|refine kF ?_ (by simp<;>omega) _|refine kL ?_ ‹_›|refine kG ?_ ‹_› (by first|omega|simp<;>omega))|exact⟨by with_reducible rfl⟩|exact⟨by simp⟩)
   have hR1:Bk w1 (w.heap.size+1+1) 72 #[.int .i64 0,.int .i64 0,.int .i64 0,.int .i64 0,.int .i64 0,.int .i64 0,.int .i64 0,.bool false,.bool false]:=by(repeat first|(with_reducible first|assumption|exact kN _ _ _ (by simp)|refine kA ?_ _|refine kD ?_|refine kW ?_ _|apply Bk.set'|refine kF ?_ (by simp<;>omega) _|refine kL ?_ ‹_›|refine kG ?_ ‹_› (by first|omega|simp<;>omega))|exact⟨by with_reducible rfl⟩|exact⟨by simp⟩)
   have hX1:Bk w1 (w.heap.size+1+1+1) 37 #[.int .i64 (px+fx),.int .i64 py]:=by(repeat first|(with_reducible first|assumption|exact kN _ _ _ (by simp)|refine kA ?_ _|refine kD ?_|refine kW ?_ _|apply Bk.set'|refine kF ?_ (by simp<;>omega) _|refine kL ?_ ‹_›|refine kG ?_ ‹_› (by first|omega|simp<;>omega))|exact⟨by with_reducible rfl⟩|exact⟨by simp⟩)
   have hd1:Below w.heap.size w w1:=by(with_reducible repeat first|exact bl0 _ _|refine blA ?_ _|(refine blS ?_ ?_ _;(simp<;>omega))|refine blD ?_|refine blN ?_ _|refine blF ?_ ‹_›)
   clear hb1
   obtain⟨⟨l0,l1,l2,l3,l4,l5,l6,l7,l8,l9,l10⟩,lf⟩:=hL1.c11;obtain⟨⟨s0,s1,s2,s3,s4,s5,s6,s7,s8⟩,sf⟩:=hS1.c9;obtain⟨⟨x0,x1⟩,xf⟩:=hX1.c2
   have z1:=hX1.lt;have z2:=hL1.lt;have z3:=hS1.lt;have z4:=hR1.lt
   go_wp2_with fail
   refine(Qa6 l (px+fx) (py+fy) _ _ _ _ _ (h.below (by(with_reducible repeat first|exact bl0 _ _|refine blA ?_ _|(refine blS ?_ ?_ _;(simp<;>omega))|refine blD ?_|refine blN ?_ _|refine blF ?_ ‹_›))) hn hw (by unfold bdV;simp only;omega)).mono ?_
   rintro e w2 ⟨rfl,hb2⟩
   have hS2:Bk w2 (w.heap.size+1) 72 #[.int .i64 t,.int .i64 (px+fx),.int .i64 (py),.int .i64 (fx),.int .i64 (fy),.int .i64 d,.int .i64 g,.bool dn,.bool ov]:=by(repeat first|(with_reducible first|assumption|exact kN _ _ _ (by simp)|refine kA ?_ _|refine kD ?_|refine kW ?_ _|apply Bk.set'|refine kF ?_ (by simp<;>omega) _|refine kL ?_ ‹_›|refine kG ?_ ‹_› (by first|omega|simp<;>omega))|exact⟨by with_reducible rfl⟩|exact⟨by simp⟩)
   have hR2:Bk w2 (w.heap.size+1+1) 72 #[.int .i64 0,.int .i64 0,.int .i64 0,.int .i64 0,.int .i64 0,.int .i64 0,.int .i64 0,.bool false,.bool false]:=by(repeat first|(with_reducible first|assumption|exact kN _ _ _ (by simp)|refine kA ?_ _|refine kD ?_|refine kW ?_ _|apply Bk.set'|refine kF ?_ (by simp<;>omega) _|refine kL ?_ ‹_›|refine kG ?_ ‹_› (by first|omega|simp<;>omega))|exact⟨by with_reducible rfl⟩|exact⟨by simp⟩)
   have hY2:Bk w2 w1.heap.size 37 #[.int .i64 (px+fx),.int .i64 (py+fy)]:=by(repeat first|(with_reducible first|assumption|exact kN _ _ _ (by simp)|refine kA ?_ _|refine kD ?_|refine kW ?_ _|apply Bk.set'|refine kF ?_ (by simp<;>omega) _|refine kL ?_ ‹_›|refine kG ?_ ‹_› (by first|omega|simp<;>omega))|exact⟨by with_reducible rfl⟩|exact⟨by simp⟩)
   have hd2:Below w.heap.size w w2:=by(with_reducible repeat first|exact bl0 _ _|refine blA ?_ _|(refine blS ?_ ?_ _;(simp<;>omega))|refine blD ?_|refine blN ?_ _|refine blF ?_ ‹_›)
   clear hb2 hd1 l0 l1 l2 l3 l4 l5 l6 l7 l8 l9 l10 lf s0 s1 s2 s3 s4 s5 s6 s7 s8 sf x0 x1 xf hL1 hS1 hR1 hX1
   have y1:=hS2.lt;have y2:=hR2.lt;have y3:=hY2.lt
   obtain⟨⟨s0,s1,s2,s3,s4,s5,s6,s7,s8⟩,sf⟩:=hS2.c9;obtain⟨⟨r0,r1,r2,r3,r4,r5,r6,r7,r8⟩,rf⟩:=hR2.c9;obtain⟨⟨x0,x1⟩,xf⟩:=hY2.c2
   go_wp2
   refine bodyPost_ret (v:= .agg #[.int .i64 t,.int .i64 (px+fx),.int .i64 (py+fy),.int .i64 (fx),.int .i64 (fy),.int .i64 d,.int .i64 g,.bool dn,.bool ov]) (by simp[results, Tryz.results105,go_sem, *]) rfl ⟨rfl,?_⟩;(with_reducible repeat first|exact bl0 _ _|refine blA ?_ _|(refine blS ?_ ?_ _;(simp<;>omega))|refine blD ?_|refine blN ?_ _|refine blF ?_ ‹_›)
end Go.Proofs.YtgaimkihacljdaaGreat
/- The reference's inputs: what is forbidden, what follows, what is QC; valid levels. -/
namespace Go.Proofs.YtgaimkihacljdaaGreat
open Go.ChangeShapes Go.WideShapes Go.ChangeAt Go.RowKit
theorem QqD(l:Lev)(A A':Option Addr)(c c':Nat)(w:World)(h0:0≤l.bans)(h1:l.bans≤1000):Calls Sq.prog 76 #[.agg #[.int .i64 l.id,.int .i64 l.ticks,.int .i64 l.start.x,.int .i64 l.start.y,.slice A l.walls.length c,.slice A' l.gates.length c',.int .i64 l.fin.lo.x,.int .i64 l.fin.lo.y,.int .i64 l.fin.hi.x,.int .i64 l.fin.hi.y,.int .i64 l.bans],.int .i64 2] w fun e w'=>e= .returned (.bool (banB l 2))∧Below w.heap.size w w':=by
 go_enter Sq.func76, Tryz.ntmps76
 go_wp2
 go_ret
 exact⟨Qs (by simp[banB]),Qf (Below.refl _ _) _⟩
theorem QqC(l:Lev)(A A':Option Addr)(c c':Nat)(w:World)(h0:0≤l.bans)(h1:l.bans≤1000):Calls Sq.prog 76 #[.agg #[.int .i64 l.id,.int .i64 l.ticks,.int .i64 l.start.x,.int .i64 l.start.y,.slice A l.walls.length c,.slice A' l.gates.length c',.int .i64 l.fin.lo.x,.int .i64 l.fin.lo.y,.int .i64 l.fin.hi.x,.int .i64 l.fin.hi.y,.int .i64 l.bans],.int .i64 1] w fun e w'=>e= .returned (.bool (banB l 1))∧Below w.heap.size w w':=by
 go_enter Sq.func76, Tryz.ntmps76
 go_wp2
 go_ret
 exact⟨Qs (by simp[banB]),Qf (Below.refl _ _) _⟩
theorem QbC{x:Inp}(h:QT x=true): -1≤x.s∧x.s≤1:=by
 have:=Qcd h;omega
set_option maxRecDepth 100000 in
set_option maxHeartbeats 1000000 in
theorem Qch(l:Lev)(b x:Inp)(A A':Option Addr)(c c':Nat)(w:World)(h0:0≤l.bans)(h1:l.bans≤1000)(hb: -1≤b.s∧b.s≤1):
 Calls Sq.prog 56 #[.agg #[.int .i64 l.id,.int .i64 l.ticks,.int .i64 l.start.x,.int .i64 l.start.y,.slice A l.walls.length c,.slice A' l.gates.length c',.int .i64 l.fin.lo.x,.int .i64 l.fin.lo.y,.int .i64 l.fin.hi.x,.int .i64 l.fin.hi.y,.int .i64 l.bans],.agg #[.int .i64 b.s,.int .i64 b.p,.bool b.z],.agg #[.int .i64 x.s,.int .i64 x.p,.bool x.z]] w fun e w'=>e= .returned (.bool (folB l b.s x))∧Below w.heap.size w w':=by
 obtain⟨xs,xp,xz⟩:=x
 cases hok:QT ⟨xs,xp,xz⟩
 ·have hR:Hid (folB l b.s ⟨xs,xp,xz⟩=false):=Lib.hid (by unfold folB;rw[hok];rfl)
  go_enter Sq.func56, Tryz.ntmps56
  go_wp2_with (go_at_call 75;refine(QbM ⟨xs,xp,xz⟩ _).mono ?_;rintro e w1 ⟨rfl,hb1⟩;obtain⟨hc1,hf1⟩:=Qy hb1;have hy1:w.heap.size<w1.heap.size:=(by have:=hb1.size;first|omega|(simp at this;omega));have hz1:w.heap.size+1<w1.heap.size:=(by have:=hb1.size;first|omega|(simp at this;omega));have hx1:w.heap.size+1+1<w1.heap.size:=(by have:=hb1.size;first|omega|(simp at this;omega)))
  go_ret
  refine⟨Qs hR.out.symm,?_⟩;(with_reducible repeat first|exact bl0 _ _|refine blA ?_ _|(refine blS ?_ ?_ _;(simp<;>omega))|refine blD ?_|refine blN ?_ _|refine blF ?_ ‹_›)
 ·obtain⟨k1,k2⟩:=QbC hok
  obtain⟨b1,b2⟩:=hb
  cases hp:(xp == 2)
  all_goals cases xz
  all_goals cases hB1:banB l 1
  all_goals cases hB2:banB l 2
  all_goals
   have HP:=Lib.hid hp
   have HB1:=Lib.hid hB1
   have HB2:=Lib.hid hB2
   have HO:=Lib.hid hok
   go_enter Sq.func56, Tryz.ntmps56
   go_wp2_with (first
    |(go_at_call 75;refine(QbM ⟨xs,xp,_⟩ _).mono ?_;rintro e w1 ⟨rfl,hb1⟩;obtain⟨hc1,hf1⟩:=Qy hb1;have hy1:w.heap.size<w1.heap.size:=(by have:=hb1.size;first|omega|(simp at this;omega));have hz1:w.heap.size+1<w1.heap.size:=(by have:=hb1.size;first|omega|(simp at this;omega));have hx1:w.heap.size+1+1<w1.heap.size:=(by have:=hb1.size;first|omega|(simp at this;omega)))
    |(go_at_call 76;(with_reducible refine(QqD l _ _ _ _ _ h0 h1).mono ?_);rintro e w2 ⟨rfl,hb2⟩;obtain⟨hc2,hf2⟩:=Qy hb2;have hy2:w.heap.size<w2.heap.size:=(by have:=hb2.size;first|omega|(simp at this;omega));have hz2:w.heap.size+1<w2.heap.size:=(by have:=hb2.size;first|omega|(simp at this;omega));have hx2:w.heap.size+1+1<w2.heap.size:=(by have:=hb2.size;first|omega|(simp at this;omega)))
    |(go_at_call 76;(with_reducible refine(QqC l _ _ _ _ _ h0 h1).mono ?_);rintro e w3 ⟨rfl,hb3⟩;obtain⟨hc3,hf3⟩:=Qy hb3;have hy3:w.heap.size<w3.heap.size:=(by have:=hb3.size;first|omega|(simp at this;omega));have hz3:w.heap.size+1<w3.heap.size:=(by have:=hb3.size;first|omega|(simp at this;omega));have hx3:w.heap.size+1+1<w3.heap.size:=(by have:=hb3.size;first|omega|(simp at this;omega)))
    |(go_at_call 51;refine(Xt _ _ _ _).mono ?_;rintro e w4 ⟨rfl,rfl⟩))
   go_ret
   refine⟨Qs (by unfold folB;simp only[HP.out,HB1.out,HB2.out,HO.out];rfl),?_⟩;(with_reducible repeat first|exact bl0 _ _|refine blA ?_ _|(refine blS ?_ ?_ _;(simp<;>omega))|refine blD ?_|refine blN ?_ _|refine blF ?_ ‹_›)
theorem Qj8{l:List Inp}{k:Nat}{x:Inp}(hx:l[k]? =some x):J8 (l.take (k+1))=J8 (l.take k)+(if x.z then 1 else 0):=by
 unfold J8
 rw[List.take_add_one,hx,List.filter_append,List.length_append]
 cases hz:x.z<;>simp[hz]
theorem Qj7(l:List Inp)(k:Nat):0≤J8 (l.take k)∧J8 (l.take k)≤k:=by
 unfold J8
 have h1:=List.length_filter_le (fun x:Inp=>x.z) (l.take k)
 have h2:=List.length_take_le k l
 omega
theorem Qg5{l:List Inp}{k:Nat}{x:Inp}(hx:l[k]? =some x):Jq (l.take (k+1))=x.s:=by
 unfold Jq
 rw[List.take_add_one,hx]
 simp
theorem Qdq{l:Lev}{ins:List Inp}{k:Nat}{x:Inp}(hx:ins[k]? =some x):Zm l ins k=(decide (l.ticks≤k) || (decide (3<J8 (ins.take (k+1))) || !folB l (Jq (ins.take k)) x)):=by
 unfold Zm;rw[hx]
theorem Qb4{l:Lev}{s:Int}{x:Inp}(h:folB l s x=true):QT x=true:=by
 unfold folB at h
 rw[Bool.and_eq_true] at h
 exact h.1
theorem Qg6{l:Lev}{ins:List Inp}{k:Nat}(h: ∀j,j<k→Zm l ins j=false)(hk:k≤ins.length): -1≤Jq (ins.take k)∧Jq (ins.take k)≤1:=by
 cases k with
 |zero=>simp[Jq]
 |succ k=>
  have hx:ins[k]? =some (ins[k]'(by omega)):=List.getElem?_eq_getElem _
  rw[Qg5 hx]
  have hb:=h k (by omega)
  rw[Qdq hx] at hb
  simp only[Bool.or_eq_false_iff,Bool.not_eq_false'] at hb
  exact QbC (Qb4 hb.2.2)
end Go.Proofs.YtgaimkihacljdaaGreat
/- The reference's l12Legal, LevelValid, InputsLegal. -/
namespace Go.Proofs.YtgaimkihacljdaaGreat
open Go.ChangeShapes Go.WideShapes Go.ChangeAt Go.RowKit
set_option maxRecDepth 100000 in
set_option maxHeartbeats 2000000 in
theorem Qa7(l:Lev)(ins:List Inp)(A A' A2:Option Addr)(c c' c2:Nat)(w:World)(hs:Sl w 3 Qd A2 ins.length ins)(hn:(ins.length:Nat)≤9223372036854775807)(h0:0≤l.bans)(h1:l.bans≤1000):
 Calls Sq.prog 35 #[.agg #[.int .i64 l.id,.int .i64 l.ticks,.int .i64 l.start.x,.int .i64 l.start.y,.slice A l.walls.length c,.slice A' l.gates.length c',.int .i64 l.fin.lo.x,.int .i64 l.fin.lo.y,.int .i64 l.fin.hi.x,.int .i64 l.fin.hi.y,.int .i64 l.bans],.slice A2 ins.length c2] w fun e w'=>e= .returned (.int .i64 (QC l ins))∧Below w.heap.size w w':=by
 go_enter Sq.func35, Tryz.ntmps35
 go_wp2
 go_loopw [6,7] (fun p i wr=>∃(k:Nat) (bp:Int) (bz:Bool),k≤ins.length∧i= .int .i64 k∧p= .int .i64 (J8 (ins.take k))∧(∀j,j<k→Zm l ins j=false)∧Bk wr w.heap.size 42 #[.int .i64 l.id,.int .i64 l.ticks,.int .i64 l.start.x,.int .i64 l.start.y,.slice A l.walls.length c,.slice A' l.gates.length c',.int .i64 l.fin.lo.x,.int .i64 l.fin.lo.y,.int .i64 l.fin.hi.x,.int .i64 l.fin.hi.y,.int .i64 l.bans]∧Bk wr (w.heap.size+1) 60 #[.int .i64 (Jq (ins.take k)),.int .i64 bp,.bool bz]∧Below w.heap.size w wr) (fun _ i _=>ins.length - (intOf i).toNat)
 case atStart=>exact⟨0,0,false,Nat.zero_le _,rfl,rfl,fun j hj=>by omega,by(repeat first|(with_reducible first|assumption|exact kN _ _ _ (by simp)|refine kA ?_ _|refine kD ?_|refine kW ?_ _|apply Bk.set'|refine kF ?_ (by simp<;>omega) _|refine kL ?_ ‹_›|refine kG ?_ ‹_› (by first|omega|simp<;>omega))|exact⟨by with_reducible rfl⟩|exact⟨by simp⟩),(by(repeat first|(with_reducible first|assumption|exact kN _ _ _ (by simp)|refine kA ?_ _|refine kD ?_|refine kW ?_ _|apply Bk.set'|refine kF ?_ (by simp<;>omega) _|refine kL ?_ ‹_›|refine kG ?_ ‹_› (by first|omega|simp<;>omega))|exact⟨by with_reducible rfl⟩|exact⟨by simp⟩):Bk _ (w.heap.size+1) 60 #[.int .i64 0,.int .i64 0,.bool false]),by(with_reducible repeat first|exact bl0 _ _|refine blA ?_ _|(refine blS ?_ ?_ _;(simp<;>omega))|refine blD ?_|refine blN ?_ _|refine blF ?_ ‹_›)⟩
 case round=>
  obtain⟨k,bp,bz,hk,rfl,rfl,hgood,hL,hB,hb⟩:=hrel
  by_cases hlt:k<ins.length
  ·obtain⟨b,off,x,rfl,hbl,hx,hc⟩:=(hs.below hb).at_ hlt
   have q0:wr.cell? ⟨b,off+k*3,none⟩=some (.int .i64 x.s):=hc 0 _ rfl
   have q1:wr.cell? ⟨b,off+k*3+1,none⟩=some (.int .i64 x.p):=hc 1 _ rfl
   have q2:wr.cell? ⟨b,off+k*3+2,none⟩=some (.bool x.z):=hc 2 _ rfl
   have HP:=Lib.hid (Qj8 hx)
   have HSt:=Lib.hid (Qg5 hx)
   have HBad:=Lib.hid (Qdq (l:=l) hx)
   obtain⟨hst0,hst1⟩:=Qg6 hgood hk
   obtain⟨hp0,hp1⟩:=Qj7 ins k
   have HG:=Lib.hid hgood
   have hx9:=Lib.hid hx
   clear hgood hx hc
   generalize hPn:J8 (ins.take k)=P at*
   generalize hSn:Jq (ins.take k)=S at*
   clear hPn hSn
   have zL:=hL.lt
   have zB:=hB.lt
   obtain⟨⟨l0,l1,l2,l3,l4,l5,l6,l7,l8,l9,l10⟩,lf⟩:=hL.c11
   obtain⟨⟨b0,b1,b2⟩,bf⟩:=hB.c3
   obtain⟨xs,xp,xz⟩:=x
   simp only at q0 q1 q2 HP HSt
   obtain⟨P',hP',hP'e⟩: ∃P':Int,P'=P+(if xz then 1 else 0)∧(0≤P'∧P'≤k+1):=⟨_,rfl,by split<;>omega⟩
   by_cases hA:l.ticks≤(k:Int)
   ·have hAb:decide (l.ticks≤(k:Int))=true:=by simpa using hA
    have hbad:Hid (Zm l ins k=true):=Lib.hid (by rw[HBad.out,hAb];rfl)
    cases xz
    all_goals
     go_wp2
     go_quiet (fail)
     go_wp2
     go_ret
     exact⟨QU (QaM hlt HG.out hbad.out).symm,by(with_reducible repeat first|exact bl0 _ _|refine blA ?_ _|(refine blS ?_ ?_ _;(simp<;>omega))|refine blD ?_|refine blN ?_ _|refine blF ?_ ‹_›)⟩
   ·have hAb:decide (l.ticks≤(k:Int))=false:=by simpa using hA
    have hA':(k:Int)<l.ticks:=by omega
    clear hA
    by_cases hB3:3<P'
    ·have hbad:Hid (Zm l ins k=true):=Lib.hid (by rw[HBad.out,HP.out,hAb,←hP',show decide (3<P')=true by simpa using hB3];rfl)
     cases xz
     ·have hP2:P'=P:=by rw[hP'];simp
      have hBb:decide (3<P)=true:=by rw[←hP2];simpa using hB3
      clear hP' hP2 hP'e hB3
      go_wp2
      go_quiet (fail)
      go_wp2
      go_ret
      exact⟨QU (QaM hlt HG.out hbad.out).symm,by(with_reducible repeat first|exact bl0 _ _|refine blA ?_ _|(refine blS ?_ ?_ _;(simp<;>omega))|refine blD ?_|refine blN ?_ _|refine blF ?_ ‹_›)⟩
     ·have hP2:P'=P+1:=by rw[hP'];simp
      have hBb:decide (3<P+1)=true:=by rw[←hP2];simpa using hB3
      clear hP' hP2 hP'e hB3
      go_wp2
      go_quiet (fail)
      go_wp2
      go_ret
      exact⟨QU (QaM hlt HG.out hbad.out).symm,by(with_reducible repeat first|exact bl0 _ _|refine blA ?_ _|(refine blS ?_ ?_ _;(simp<;>omega))|refine blD ?_|refine blN ?_ _|refine blF ?_ ‹_›)⟩
    ·cases xz
     all_goals
      have HF:Hid (Zm l ins k= !folB l S ⟨xs,xp,_⟩):=Lib.hid (by rw[HBad.out,HP.out,hAb,←hP',show decide (3<P')=false by simpa using hB3];rfl)
      have HP1:=Lib.hid hP'
     ·have hP2:P'=P:=by rw[hP'];simp
      have hBb:decide (3<P)=false:=by rw[←hP2];simpa using hB3
      have hB4:P≤3:=by omega
      clear hP' hP2 hP'e hB3
      go_wp2
      go_still_tail 15,(by kernel_rfl)
      change wpList _ _ _ _ _ wr.drew
      go_wp2_with fail
      refine(Qch l ⟨S,bp,bz⟩ ⟨xs,xp,false⟩ _ _ _ _ _ h0 h1 ⟨hst0,hst1⟩).mono ?_
      rintro e w1 ⟨rfl,hb1⟩
      have hL1:Bk w1 w.heap.size 42 #[.int .i64 l.id,.int .i64 l.ticks,.int .i64 l.start.x,.int .i64 l.start.y,.slice A l.walls.length c,.slice A' l.gates.length c',.int .i64 l.fin.lo.x,.int .i64 l.fin.lo.y,.int .i64 l.fin.hi.x,.int .i64 l.fin.hi.y,.int .i64 l.bans]:=by(repeat first|(with_reducible first|assumption|exact kN _ _ _ (by simp)|refine kA ?_ _|refine kD ?_|refine kW ?_ _|apply Bk.set'|refine kF ?_ (by simp<;>omega) _|refine kL ?_ ‹_›|refine kG ?_ ‹_› (by first|omega|simp<;>omega))|exact⟨by with_reducible rfl⟩|exact⟨by simp⟩)
      have hB1:Bk w1 (w.heap.size+1) 60 #[.int .i64 S,.int .i64 bp,.bool bz]:=by(repeat first|(with_reducible first|assumption|exact kN _ _ _ (by simp)|refine kA ?_ _|refine kD ?_|refine kW ?_ _|apply Bk.set'|refine kF ?_ (by simp<;>omega) _|refine kL ?_ ‹_›|refine kG ?_ ‹_› (by first|omega|simp<;>omega))|exact⟨by with_reducible rfl⟩|exact⟨by simp⟩)
      have hd1:Below w.heap.size w w1:=by(with_reducible repeat first|exact bl0 _ _|refine blA ?_ _|(refine blS ?_ ?_ _;(simp<;>omega))|refine blD ?_|refine blN ?_ _|refine blF ?_ ‹_›)
      have r0:w1.cell? ⟨b,off+k*3,none⟩=some (.int .i64 xs):=(hb1.cell (p:=⟨b,off+k*3,none⟩) hbl).trans q0
      have r1:w1.cell? ⟨b,off+k*3+1,none⟩=some (.int .i64 xp):=(hb1.cell (p:=⟨b,off+k*3+1,none⟩) hbl).trans q1
      have r2:w1.cell? ⟨b,off+k*3+2,none⟩=some (.bool false):=(hb1.cell (p:=⟨b,off+k*3+2,none⟩) hbl).trans q2
      have hbl1:b<w1.heap.size:=Nat.lt_of_lt_of_le hbl hb1.size
      clear hb1 hL hB zL zB hb l0 l1 l2 l3 l4 l5 l6 l7 l8 l9 l10 lf b0 b1 b2 bf q0 q1 q2 hbl
      obtain⟨⟨b0,b1,b2⟩,bf⟩:=hB1.c3
      cases hFo:folB l S ⟨xs,xp,false⟩
      ·have hbad:Hid (Zm l ins k=true):=Lib.hid (by rw[HF.out,hFo];rfl)
       go_wp2
       go_ret
       exact⟨QU (QaM hlt HG.out hbad.out).symm,by(with_reducible repeat first|exact bl0 _ _|refine blA ?_ _|(refine blS ?_ ?_ _;(simp<;>omega))|refine blD ?_|refine blN ?_ _|refine blF ?_ ‹_›)⟩
      ·have hbad:Hid (Zm l ins k=false):=Lib.hid (by rw[HF.out,hFo];rfl)
       go_wp2
       case roundEnd=>
        go_roundw
        case rel=>exact⟨k+1,xp,false,by omega,by go_num,by rw[HP.out];simp,Qbs HG.out hbad.out,by(repeat first|(with_reducible first|assumption|exact kN _ _ _ (by simp)|refine kA ?_ _|refine kD ?_|refine kW ?_ _|apply Bk.set'|refine kF ?_ (by simp<;>omega) _|refine kL ?_ ‹_›|refine kG ?_ ‹_› (by first|omega|simp<;>omega))|exact⟨by with_reducible rfl⟩|exact⟨by simp⟩),by rw[HSt.out];(repeat first|(with_reducible first|assumption|exact kN _ _ _ (by simp)|refine kA ?_ _|refine kD ?_|refine kW ?_ _|apply Bk.set'|refine kF ?_ (by simp<;>omega) _|refine kL ?_ ‹_›|refine kG ?_ ‹_› (by first|omega|simp<;>omega))|exact⟨by with_reducible rfl⟩|exact⟨by simp⟩),by(with_reducible repeat first|exact bl0 _ _|refine blA ?_ _|(refine blS ?_ ?_ _;(simp<;>omega))|refine blD ?_|refine blN ?_ _|refine blF ?_ ‹_›)⟩
        case measure=>simp[intOf];omega
     ·have hP2:P'=P+1:=by rw[hP'];simp
      have hBb:decide (3<P+1)=false:=by rw[←hP2];simpa using hB3
      have hB4:P+1≤3:=by omega
      clear hP' hP2 hP'e hB3
      go_wp2
      go_still_tail 15,(by kernel_rfl)
      change wpList _ _ _ _ _ wr.drew
      go_wp2_with fail
      refine(Qch l ⟨S,bp,bz⟩ ⟨xs,xp,true⟩ _ _ _ _ _ h0 h1 ⟨hst0,hst1⟩).mono ?_
      rintro e w1 ⟨rfl,hb1⟩
      have hL1:Bk w1 w.heap.size 42 #[.int .i64 l.id,.int .i64 l.ticks,.int .i64 l.start.x,.int .i64 l.start.y,.slice A l.walls.length c,.slice A' l.gates.length c',.int .i64 l.fin.lo.x,.int .i64 l.fin.lo.y,.int .i64 l.fin.hi.x,.int .i64 l.fin.hi.y,.int .i64 l.bans]:=by(repeat first|(with_reducible first|assumption|exact kN _ _ _ (by simp)|refine kA ?_ _|refine kD ?_|refine kW ?_ _|apply Bk.set'|refine kF ?_ (by simp<;>omega) _|refine kL ?_ ‹_›|refine kG ?_ ‹_› (by first|omega|simp<;>omega))|exact⟨by with_reducible rfl⟩|exact⟨by simp⟩)
      have hB1:Bk w1 (w.heap.size+1) 60 #[.int .i64 S,.int .i64 bp,.bool bz]:=by(repeat first|(with_reducible first|assumption|exact kN _ _ _ (by simp)|refine kA ?_ _|refine kD ?_|refine kW ?_ _|apply Bk.set'|refine kF ?_ (by simp<;>omega) _|refine kL ?_ ‹_›|refine kG ?_ ‹_› (by first|omega|simp<;>omega))|exact⟨by with_reducible rfl⟩|exact⟨by simp⟩)
      have hd1:Below w.heap.size w w1:=by(with_reducible repeat first|exact bl0 _ _|refine blA ?_ _|(refine blS ?_ ?_ _;(simp<;>omega))|refine blD ?_|refine blN ?_ _|refine blF ?_ ‹_›)
      have r0:w1.cell? ⟨b,off+k*3,none⟩=some (.int .i64 xs):=(hb1.cell (p:=⟨b,off+k*3,none⟩) hbl).trans q0
      have r1:w1.cell? ⟨b,off+k*3+1,none⟩=some (.int .i64 xp):=(hb1.cell (p:=⟨b,off+k*3+1,none⟩) hbl).trans q1
      have r2:w1.cell? ⟨b,off+k*3+2,none⟩=some (.bool true):=(hb1.cell (p:=⟨b,off+k*3+2,none⟩) hbl).trans q2
      have hbl1:b<w1.heap.size:=Nat.lt_of_lt_of_le hbl hb1.size
      clear hb1 hL hB zL zB hb l0 l1 l2 l3 l4 l5 l6 l7 l8 l9 l10 lf b0 b1 b2 bf q0 q1 q2 hbl
      obtain⟨⟨b0,b1,b2⟩,bf⟩:=hB1.c3
      cases hFo:folB l S ⟨xs,xp,true⟩
      ·have hbad:Hid (Zm l ins k=true):=Lib.hid (by rw[HF.out,hFo];rfl)
       go_wp2
       go_ret
       exact⟨QU (QaM hlt HG.out hbad.out).symm,by(with_reducible repeat first|exact bl0 _ _|refine blA ?_ _|(refine blS ?_ ?_ _;(simp<;>omega))|refine blD ?_|refine blN ?_ _|refine blF ?_ ‹_›)⟩
      ·have hbad:Hid (Zm l ins k=false):=Lib.hid (by rw[HF.out,hFo];rfl)
       go_wp2
       case roundEnd=>
        go_roundw
        case rel=>exact⟨k+1,xp,true,by omega,by go_num,by rw[HP.out];simp,Qbs HG.out hbad.out,by(repeat first|(with_reducible first|assumption|exact kN _ _ _ (by simp)|refine kA ?_ _|refine kD ?_|refine kW ?_ _|apply Bk.set'|refine kF ?_ (by simp<;>omega) _|refine kL ?_ ‹_›|refine kG ?_ ‹_› (by first|omega|simp<;>omega))|exact⟨by with_reducible rfl⟩|exact⟨by simp⟩),by rw[HSt.out];(repeat first|(with_reducible first|assumption|exact kN _ _ _ (by simp)|refine kA ?_ _|refine kD ?_|refine kW ?_ _|apply Bk.set'|refine kF ?_ (by simp<;>omega) _|refine kL ?_ ‹_›|refine kG ?_ ‹_› (by first|omega|simp<;>omega))|exact⟨by with_reducible rfl⟩|exact⟨by simp⟩),by(with_reducible repeat first|exact bl0 _ _|refine blA ?_ _|(refine blS ?_ ?_ _;(simp<;>omega))|refine blD ?_|refine blN ?_ _|refine blF ?_ ‹_›)⟩
        case measure=>simp[intOf];omega
  ·have hke:k=ins.length:=by omega
   have HG:=Lib.hid hgood
   clear hgood hs
   go_wp2
   go_ret
   exact⟨QU (Qgp (by rw[←hke];exact HG.out)).symm,hb⟩
end Go.Proofs.YtgaimkihacljdaaGreat
/- The reference's LevelValid. -/
namespace Go.Proofs.YtgaimkihacljdaaGreat
open Go.ChangeShapes Go.WideShapes Go.ChangeAt Go.RowKit
theorem Qfx{b:Bx}(h:bxOk b=true):bdBx b:=by
 have:=Qm6 h
 unfold bdBx bdV
 omega
theorem QbS{l:List Bx}(h:XZ l=true): ∀b∈l,bdBx b:=fun b hb=>Qfx (List.all_eq_true.1 h b hb)
theorem QaB{v:V2}(h:vOk v=true):bdV v:=by
 have:=ZO.1 h
 unfold bdV
 omega
set_option maxRecDepth 100000 in
set_option maxHeartbeats 2000000 in
theorem ZH(l:Lev)(A A':Option Addr)(c c':Nat)(w:World)(h:Sl w 4 Qc A l.walls.length l.walls)(hg:Sl w 4 Qc A' l.gates.length l.gates)(hn:(l.walls.length:Nat)≤9223372036854775807)(hn':(l.gates.length:Nat)≤9223372036854775807):
 Calls Sq.prog 34 #[.agg #[.int .i64 l.id,.int .i64 l.ticks,.int .i64 l.start.x,.int .i64 l.start.y,.slice A l.walls.length c,.slice A' l.gates.length c',.int .i64 l.fin.lo.x,.int .i64 l.fin.lo.y,.int .i64 l.fin.hi.x,.int .i64 l.fin.hi.y,.int .i64 l.bans]] w fun e w'=>e= .returned (.bool (QE l))∧Below w.heap.size w w':=by
 go_enter Sq.func34, Tryz.ntmps34
 go_wp2_with (first
  |(go_at_call 51;refine(Xt _ _ _ _).mono ?_;rintro e w0 ⟨rfl,rfl⟩)
  |(go_at_call 52;refine(Qe9 _ _ _).mono ?_;rintro e w1 ⟨rfl,hb1⟩;obtain⟨hc1,hf1⟩:=Qy hb1;have hy1:w.heap.size<w1.heap.size:=(by have:=hb1.size;first|omega|(simp at this;omega)))
  |(go_at_call 53;(with_reducible refine(Qje _ _ _ l.walls _ (h.below ?_) hn).mono ?_);(with_reducible repeat first|exact bl0 _ _|refine blA ?_ _|(refine blS ?_ ?_ _;(simp<;>omega))|refine blD ?_|refine blN ?_ _|refine blF ?_ ‹_›);rintro e w2 ⟨rfl,hb2⟩;obtain⟨hc2,hf2⟩:=Qy hb2;have hy2:w.heap.size<w2.heap.size:=(by have:=hb2.size;first|omega|(simp at this;omega)))
  |(go_at_call 53;(with_reducible refine(Qje _ _ _ l.gates _ (hg.below ?_) hn').mono ?_);(with_reducible repeat first|exact bl0 _ _|refine blA ?_ _|(refine blS ?_ ?_ _;(simp<;>omega))|refine blD ?_|refine blN ?_ _|refine blF ?_ ‹_›);rintro e w3 ⟨rfl,hb3⟩;obtain⟨hc3,hf3⟩:=Qy hb3;have hy3:w.heap.size<w3.heap.size:=(by have:=hb3.size;first|omega|(simp at this;omega)))
  |(go_at_call 54;refine(Qvr _ _ _ _ _).mono ?_;rintro e w4 ⟨rfl,hb4⟩;obtain⟨hc4,hf4⟩:=Qy hb4;have hy4:w.heap.size<w4.heap.size:=(by have:=hb4.size;first|omega|(simp at this;omega)))
  |(go_at_call 55;refine(Qa6 l l.start.x l.start.y _ _ _ _ _ (h.below ?_) hn (QbS (by assumption)) (QaB (v:=⟨l.start.x,l.start.y⟩) (by assumption))).mono ?_;(with_reducible repeat first|exact bl0 _ _|refine blA ?_ _|(refine blS ?_ ?_ _;(simp<;>omega))|refine blD ?_|refine blN ?_ _|refine blF ?_ ‹_›);rintro e w5 ⟨rfl,hb5⟩;obtain⟨hc5,hf5⟩:=Qy hb5;have hy5:w.heap.size<w5.heap.size:=(by have:=hb5.size;first|omega|(simp at this;omega))))
 all_goals (go_ret;refine⟨Qs (by first|(simp_all [QE];done)|(simp_all [QE];omega)|(simp_all [QE];intros;omega)|(simp_all [QE];rw[decide_eq_true (by omega),decide_eq_true (by omega)];rfl)),?_⟩;(with_reducible repeat first|exact bl0 _ _|refine blA ?_ _|(refine blS ?_ ?_ _;(simp<;>omega))|refine blD ?_|refine blN ?_ _|refine blF ?_ ‹_›))
end Go.Proofs.YtgaimkihacljdaaGreat
