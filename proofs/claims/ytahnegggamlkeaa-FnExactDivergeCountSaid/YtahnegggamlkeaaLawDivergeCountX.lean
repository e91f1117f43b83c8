/- The law FnExactDivergeCount: its walk. -/
import Derived.Test.YtahnegggamlkeaaZDvg
import Derived.Test.YtahnegggamlkeaaZBase
namespace Go.Proofs.Ytahnegggamlkeaa
open Go.ChangeShapes Go.WideShapes Go.ChangeAt Go.RowKit
set_option maxRecDepth 100000 in
set_option maxHeartbeats 2000000 in
theorem QC5(A A':Option Addr)(n n' c c':Nat)(l l':List Int)(w:World)(h:Sl w 1 Qe A n l)(h':Sl w 1 Qe A' n' l')(hn:n≤9223372036854775807)(hn':n'≤9223372036854775807):
 Calls Sq.prog 4 #[.slice A n c,.slice A' n' c'] w fun e w'=>e= .returned (.bool true)∧Below w.heap.size w w':=by
 obtain rfl:=h.1
 obtain rfl:=h'.1
 by_cases g1:1048576<(l.length:Int)
 ·go_enter Sq.func4, Try.ntmps4
  go_wp2
  go_ret
  exact⟨rfl,Below.refl _ _⟩
 ·by_cases g2:1048576<(l'.length:Int)
  ·go_enter Sq.func4, Try.ntmps4
   go_wp2
   go_ret
   exact⟨rfl,Below.refl _ _⟩
  ·go_enter Sq.func4, Try.ntmps4
   go_wp2_with fail
   refine(Qwa A _ c l _ h (by omega)).mono ?_
   rintro e w1 ⟨A1,c1,rfl,_,O1,d1⟩
   have h1:=h.below d1
   have h1':=h'.below d1
   go_wp2_with fail
   refine(Qwa A' _ c' l' _ h1' (by omega)).mono ?_
   rintro e w2 ⟨A2,c2,rfl,_,O2,b2⟩
   have P1:=O1.later b2
   have h2:=h1.below b2
   have h2':=h1'.below b2
   have d2:=Qa d1 b2
   clear h1 h1' b2 O1 d1
   go_wp2_with fail
   refine(Qvx A1 A2 l.length l'.length c1 c2 l l' _ (P1.sl' Qi) (O2.sl' Qi) (by omega) (by omega)).mono ?_
   rintro e w3 ⟨rfl,b3⟩
   have h3:=h2.below b3
   have h3':=h2'.below b3
   have d3:=Qa d2 b3
   clear h2 h2' b3 P1 O2 d2
   go_wp2_with fail
   refine(Qwa A _ c l _ h3 (by omega)).mono ?_
   rintro e w4 ⟨A4,c4,rfl,_,O4,b4⟩
   have h4:=h3.below b4
   have h4':=h3'.below b4
   have d4:=Qa d3 b4
   clear h3 h3' b4 d3
   go_wp2_with fail
   refine(Qwa A' _ c' l' _ h4' (by omega)).mono ?_
   rintro e w5 ⟨A5,c5,rfl,_,O5,b5⟩
   have P4:=O4.later b5
   have h5:=h4.below b5
   have h5':=h4'.below b5
   have d5:=Qa d4 b5
   clear h4 h4' b5 d4 O4
   go_wp2_with fail
   refine(Qd3 A4 A5 l.length l'.length c4 c5 l l' _ (P4.sl' Qi) (O5.sl' Qi) (by omega) (by omega)).mono ?_
   rintro e w6 ⟨rfl,b6⟩
   have Q4:=P4.later b6
   have Q5:=O5.later b6
   have h6:=h5.below b6
   have h6':=h5'.below b6
   have d6:=Qa d5 b6
   clear h5 h5' b6 d5 P4 O5
   go_wp2_with fail
   refine(Qwa A _ c l _ h6 (by omega)).mono ?_
   rintro e w7 ⟨A7,c7,rfl,_,O7,b7⟩
   have R4:=Q4.later b7
   have R5:=Q5.later b7
   have h7':=h6'.below b7
   have d7:=Qa d6 b7
   clear h6 h6' b7 d6 Q4 Q5
   go_wp2_with fail
   refine(QbX _ _ _ _ _ _ _ _ (R4.sl' Qi) (O7.sl' Qi) (by omega) (by omega)).mono ?_
   rintro e w8 ⟨rfl,b8⟩
   have S5:=R5.later b8
   have h8':=h7'.below b8
   have d8:=Qa d7 b8
   clear h7' b8 d7 R4 R5 O7
   go_wp2_with fail
   refine(Qwa A' _ c' l' _ h8' (by omega)).mono ?_
   rintro e w9 ⟨A9,c9,rfl,_,O9,b9⟩
   have T5:=S5.later b9
   have d9:=Qa d8 b9
   clear h8' b9 d8 S5
   go_wp2_with fail
   refine(QbX _ _ _ _ _ _ _ _ (T5.sl' Qi) (O9.sl' Qi) (by omega) (by omega)).mono ?_
   rintro e w10 ⟨rfl,b10⟩
   have d10:=Qa d9 b10
   clear b10 d9 T5 O9
   go_wp2
   go_ret
   exact⟨rfl,d10⟩
end Go.Proofs.Ytahnegggamlkeaa
