/- Lists that are hashed and tags of the program. (Round B, seat Z) -/
import Derived.Test.YtpmjcjoeckajgaaGreatDoorZImpB
import Derived.Test.YtpmjcjoeckajgaaGreatDoorZRepl
import Derived.Test.YtpmjcjoeckajgaaGreatDoorZRun
namespace Go.Proofs.YtpmjcjoeckajgaaGreatDoor
open Go.ChangeShapes Go.WideShapes Go.ChangeAt Go.RowKit
theorem Qih(n:Int)(w:World):Calls Sq.prog 126 #[.int .i64 n] w fun e w'=>e= .returned (.bool (fixB n))∧w=w':=by
 by_cases h:(-2000000000:Int)≤n
 ·go_enter Sq.func126, Tryz.ntmps126
  go_wp2
  go_ret
  exact⟨Qs (by simp[fixB,inR,h]),rfl⟩
 ·go_enter Sq.func126, Tryz.ntmps126
  go_wp2
  go_ret
  exact⟨Qs (by simp[fixB,inR];omega),rfl⟩
set_option maxRecDepth 100000 in
theorem QmJ(A:Option Addr)(n c:Nat)(l:List Int)(w:World)(hs:Sl w 1 Qe A n l)(hn:(n:Nat)≤9223372036854775807):Calls Sq.prog 96 #[.slice A n c] w fun e w'=>e= .returned (.bool (l.all fixB))∧w=w':=by
 obtain rfl:=hs.len
 go_enter Sq.func96, Tryz.ntmps96
 go_wp2
 go_loopw [7] (fun i wr=>∃k:Nat,k≤l.length∧i= .int .i64 k∧(l.take k).all fixB=true∧w=wr) (fun i _=>l.length - (intOf i).toNat)
 case atStart=>exact⟨0,Nat.zero_le _,rfl,rfl,rfl⟩
 case round=>
  obtain⟨k,hk,rfl,ht,rfl⟩:=hrel
  have Ht:=Lib.hid ht;clear ht
  by_cases hlt:k<l.length
  ·obtain⟨b,off,x,rfl,hbl,hx,hc⟩:=hs.at_ hlt
   have q0:w.cell? ⟨b,off+k,none⟩=some (.int .i64 x):=by have:=hc 0 _ rfl;simpa using this
   have Hx:=Lib.hid hx;clear hx
   clear hs hc
   cases hf:fixB x
   ·have HF:=Lib.hid hf
    go_wp2_with (go_at_call 126;refine(Qih _ _).mono ?_;rw[HF.out];rintro e w' ⟨rfl,rfl⟩)
    go_ret
    exact⟨Qs (Qbi Hx.out HF.out).symm,rfl⟩
   ·have HF:=Lib.hid hf
    go_wp2_with (go_at_call 126;refine(Qih _ _).mono ?_;rw[HF.out];rintro e w' ⟨rfl,rfl⟩)
    go_roundw
    case rel=>exact⟨k+1,by omega,by go_num,Qbj Hx.out Ht.out HF.out,by trivial⟩
    case measure=>simp[intOf];omega
  ·have hkn:l.take k=l:=List.take_of_length_le (by omega)
   have H:=Lib.hid hkn;clear hkn
   go_wp2
   go_ret
   exact⟨Qs (by have:=Ht.out;rw[H.out] at this;rw[this]),rfl⟩
theorem Qqs(A:Option Addr)(n c:Nat)(l:List Int)(w:World)(hs:Sl w 1 Qe A n l)(hn:(n:Nat)≤9223372036854775807)(h2:n≤200):Calls Sq.prog 46 #[.slice A n c] w fun e w'=>e= .returned (.bool (QdK l))∧w=w':=by
 have hln:=hs.len
 have hle:((n:Nat):Int)≤200:=by omega
 go_enter Sq.func46, Tryz.ntmps46
 go_wp2_with (go_at_call 96;refine(QmJ _ _ _ l _ hs hn).mono ?_;rintro e w' ⟨rfl,rfl⟩)
 go_ret
 exact⟨Qs (by unfold QdK;rw[hln];simp[h2]),rfl⟩
theorem Own.alt{α:Type}{w:World}{B:Nat}{T:TypeId}{sz n c:Nat}{enc:α→List Value}{A:Option Addr}{l:List α}(h:Own w B T sz enc (.slice A n c) l): ∀a,A=some a→a.block<w.heap.size:=by
 intro a e
 obtain⟨A0,c0,e1,_,e2⟩:=h.form
 injection e1 with ea eb ec
 subst ea
 exact(e2 a e).2.1
theorem sl1(w:World)(T:TypeId)(a:Int):Sl (w.alloc (.cells #[.int .i64 a] T)) 1 Qe (some ⟨w.heap.size,0,none⟩) 1 [a]:=
 Sl.lit _ _ _ _ _ 1 rfl rfl (by simp[Qe])
theorem Qwb(key:Int)(l:List Int):tagL key l=ZU (ZU (ZU 17 [key]) l) [key]:=rfl
theorem QsU{l:List Int}(h1: ∀x∈l,0≤x∧x≤1000002)(h2:l.length≤200):QdK l=true:=by
 unfold QdK
 rw[Bool.and_eq_true,List.all_eq_true,decide_eq_true_eq]
 exact⟨fun x hx=>Q5.2 (by have:=h1 x hx;omega),h2⟩
set_option maxRecDepth 100000 in
set_option maxHeartbeats 1000000 in
theorem Qcb(key:Int)(A:Option Addr)(n c:Nat)(l:List Int)(w:World)(hs:Sl w 1 Qe A n l)(hn:(n:Nat)≤9223372036854775807)(h2:n≤200)(hA: ∀a,A=some a→a.block<w.heap.size)(hk:inR 1 9999 key=true)(hl: ∀x∈l,0≤x∧x≤1000002):
 Calls Sq.prog 14 #[.int .i64 key,.slice A n c] w fun e w'=>e= .returned (.int .i64 (tagL key l))∧Below w.heap.size w w':=by
 obtain⟨k0,k1⟩:=Q5.1 hk
 have hkey: ∀x∈ [key],QN x:=by intro x hx;simp only[List.mem_cons,List.not_mem_nil,or_false] at hx;subst hx;unfold QN;omega
 have hl64: ∀x∈l,QN x:=fun x hx=>by have:=hl x hx;unfold QN;omega
 have hLB:=QsU hl (by rw[hs.len];exact h2)
 have HT:=Lib.hid (Qwb key l)
 have p1:=Qb9 (h:=17) (by omega) [key]
 have p2:=Qb9 p1 l
 clear k0 k1 hl
 go_enter Sq.func14, Tryz.ntmps14
 go_wp2_with fail
 refine(QZ _ _ _ _).mono ?_
 rw[hk]
 rintro e w1 ⟨rfl,rfl⟩
 go_wp2_with fail
 refine(Qqs _ _ _ l _ hs hn h2).mono ?_
 rw[hLB]
 rintro e w2 ⟨rfl,rfl⟩
 go_wp2_with fail
 refine(Qey _).mono ?_
 rintro e w3 ⟨b,rfl,hb0,hB3,d3,_⟩
 have zB3:=hB3.lt
 go_wp2_with fail
 refine(Qeu b 17 _ 1 1 [key] _ (sl1 w3 _ key) (by omega) (by omega) (by omega) hkey (hB3.alloc _) (by intro a e;injection e with e;subst e;dsimp only;omega)).mono ?_
 generalize ZU 17 [key]=h1 at*
 rintro e w5 ⟨rfl,hB5,hg5⟩
 have d5:Below w.heap.size w w5:=QaX (Qf d3 _) hg5 hb0
 have zB5:=hB5.lt
 go_wp2_with fail
 refine(Qeu b h1 _ n c l _ (hs.below d5) hn p1.1 p1.2 hl64 hB5 (by intro a e;have:=hA a e;omega)).mono ?_
 generalize ZU h1 l=h2' at*
 rintro e w7 ⟨rfl,hB7,hg7⟩
 have d7:Below w.heap.size w w7:=QaX d5 hg7 hb0
 have zB7:=hB7.lt
 go_wp2_with fail
 refine(Qeu b h2' _ 1 1 [key] _ (sl1 w7 _ key) (by omega) p2.1 p2.2 hkey (hB7.alloc _) (by intro a e;injection e with e;subst e;dsimp only;omega)).mono ?_
 rintro e w9 ⟨rfl,hB9,hg9⟩
 have d9:Below w.heap.size w w9:=QaX (Qf d7 _) hg9 hb0
 go_wp2
 go_ret
 exact⟨QU HT.out.symm,d9⟩
end Go.Proofs.YtpmjcjoeckajgaaGreatDoor
