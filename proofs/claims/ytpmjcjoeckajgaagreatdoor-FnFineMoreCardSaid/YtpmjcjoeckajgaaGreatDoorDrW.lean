/- The reference's l91Key, DrawReplayMake. (Round B, seat Z; printed by gen/drw.py) -/
import Derived.Test.YtpmjcjoeckajgaaGreatDoorZDrawL
namespace Go.Proofs.YtpmjcjoeckajgaaGreatDoor
open Go.ChangeShapes Go.WideShapes Go.ChangeAt Go.RowKit
def Qmd(R n:Nat)(w:World)(e:Ending)(w':World):Prop:=∃x:Int,e= .returned (.int .i64 x)∧(-1≤x∧x≤10000)∧RdL w' R n∧w.grownBy w' (some R)
set_option maxRecDepth 100000 in
set_option maxHeartbeats 2000000 in
theorem Qjm(R n:Nat)(w:World)(h:RdL w R n)(hn:n≤900000):Calls Sq.prog 32 #[.pointer (some ⟨R,0,none⟩)] w (Qmd R (n+3) w):=by
 have hRl:=h.lt
 go_enter Sq.func32, Tryz.ntmps32
 go_wp2_with fail
 refine(Qz R n 20 _ h (by omega) (by omega) (by omega)).mono ?_
 rintro e w1 ⟨x,rfl,x0,x1,hR1,hg1⟩
 have hRl1:=hR1.lt
 by_cases q0:x=0
 ·subst q0
  obtain⟨M,hM⟩: ∃M,w1.heap.size=M:=⟨_,rfl⟩
  have B1:Bk (w1.alloc (.cells #[.int .i64 0,.int .i64 9999,.int .i64 10000,.int .i64 (-1)] 3)) M 3 #[.int .i64 0,.int .i64 9999,.int .i64 10000,.int .i64 (-1)]:=Bk.new w1 _ _ hM
  go_wp2_with fail
  refine(Qz R (n+1) 4 _ (hR1.alloc _) (by omega) (by omega) (by omega)).mono ?_
  rintro e w2 ⟨y,rfl,y0,y1,hR2,hg2⟩
  have B2:=B1.grown hg2 (by intro e;injection e;omega)
  have zB2:=B2.lt
  obtain⟨⟨b0,b1,b2,b3⟩,bf⟩:=B2.c4
  have hgr:w.grownBy w2 (some R):=XT (Qk hg1 _) hg2
  clear hg1 hg2 B1 B2 hR1 h
  rcases(show y=0∨y=1∨y=2∨y=3 by omega) with rfl|rfl|rfl|rfl
  ·go_wp2
   go_ret
   exact⟨0,rfl,by omega,hR2.more (by omega),hgr⟩
  ·go_wp2
   go_ret
   exact⟨9999,rfl,by omega,hR2.more (by omega),hgr⟩
  ·go_wp2
   go_ret
   exact⟨10000,rfl,by omega,hR2.more (by omega),hgr⟩
  ·go_wp2
   go_ret
   exact⟨(-1),rfl,by omega,hR2.more (by omega),hgr⟩
 ·go_wp2_with fail
  refine(Qz R (n+1) 99 _ hR1 (by omega) (by omega) (by omega)).mono ?_
  rintro e w2 ⟨y,rfl,y0,y1,hR2,hg2⟩
  go_wp2_with fail
  refine(Qz R (n+1+1) 100 _ hR2 (by omega) (by omega) (by omega)).mono ?_
  rintro e w3 ⟨z,rfl,z0,z1,hR3,hg3⟩
  have hgr:w.grownBy w3 (some R):=XT (XT hg1 hg2) hg3
  clear hg1 hg2 hg3 hR1 hR2 h
  go_wp2
  go_ret
  exact⟨_,rfl,by omega,hR3.more (by omega),hgr⟩
end Go.Proofs.YtpmjcjoeckajgaaGreatDoor
