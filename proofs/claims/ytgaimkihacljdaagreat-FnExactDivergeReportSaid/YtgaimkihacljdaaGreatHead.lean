/- The words of the program's head, told off its first three alone: 'harness', a sum, 'cut'. Written by gen_head.py. -/
import Derived.Test.YtgaimkihacljdaaGreatRows
import Derived.JoinedOf
namespace Go.Proofs.YtgaimkihacljdaaGreat
theorem wordsSigns_word: ∀(w:List Char) (r:List Char),(w.all fun c=>c != Char.ofNat 32)=true→wordsSigns (w++Char.ofNat 32 :: r)=w :: wordsSigns r
 |[],r,_=>rfl
 |c :: w,r,h=>by
  simp only[List.all_cons,Bool.and_eq_true,bne_iff_ne,ne_eq] at h
  rw[List.cons_append,wordsSigns]
  ·rw[wordsSigns_word w r (by simpa using h.2)]
  ·exact h.1
def headA:List Char:=[104,97,114,110,101,115,115].map Char.ofNat
def hdWordB:List Char:=[50,54,100,52,101,55,50,99,49,98,53,55,51,52,48,50,54,49,101,51,52,98,101,48,49,57,97,57,54,48,56,56,98,97,99,101,49,56,57,100,50,50,102,52,101,100,100,100,57,52,48,102,50,54,100,48,57,57,98,54,49,55,54,102].map Char.ofNat
def headC:List Char:=[99,117,116].map Char.ofNat
def headR:List Char:=[97,116,32,108,111,111,112,46,101,120,97,109,112,108,101,47,114,101,112,108,97,121,118,101,114,105,102,105,101,114,47,108,97,119,115,46,70,110,69,120,97,99,116,68,105,118,101,114,103,101,82,101,112,111,114,116].map Char.ofNat
theorem head0:Tryz.prog.initOrder=String.ofList (headA++Char.ofNat 32 :: (hdWordB++Char.ofNat 32 :: (headC++Char.ofNat 32 :: headR))):=by kernel_rfl
theorem head1:behindMainWord (wordsSigns Tryz.prog.initOrder.toList)=headC :: wordsSigns headR:=by
 rw[head0,String.toList_ofList,wordsSigns_word headA _ (by decide+kernel),wordsSigns_word hdWordB _ (by decide+kernel),wordsSigns_word headC _ (by decide+kernel)]
 generalize wordsSigns headR=rest
 kernel_rfl
theorem e1a:(headC == "gc".toList)=false:=by kernel_rfl
theorem e1b:(headC == "spec".toList)=false:=by kernel_rfl
theorem e1c:(headC == "carried".toList)=false:=by kernel_rfl
theorem e2:(headC == "cut".toList)=true:=by kernel_rfl
theorem e3:(some headC == some "cut".toList)=true:=by kernel_rfl
theorem e4(r:List (List Char)):stripLifts liftWords (headC :: r)=([],headC :: r):=by kernel_rfl
theorem e5:(([]:List String).contains "finals")=false:=rfl
theorem e6:(([]:List String).contains "reflectrows")=false:=rfl
theorem e7:(([]:List String).contains "leanrows")=false:=rfl
theorem e8(r:List (List Char)):((headC :: r).head? == some "carried".toList)=false:=e1c
theorem d0:Tryz.prog.laysLater=false:=by kernel_rfl
theorem d1:Tryz.prog.bearsReflect=false:=by kernel_rfl
theorem d2:Tryz.prog.doorFits []=true:=by kernel_rfl
theorem mayEnter_of(l:List (List Char))(P:Program)(h:behindMainWord (wordsSigns P.initOrder.toList)=headC :: l)(d0:P.laysLater=false)(d1:P.bearsReflect=false)(d2:P.doorFits []=true):P.mayEnter=true:=by
 unfold Program.mayEnter
 rw[h]
 simp only[e1a,e1b,e1c,e4,e3,e5,e6,e7,d0,d1,d2,Bool.or_self,Bool.false_and,Bool.not_false,Bool.or_true,Bool.and_self,List.head?_cons]
theorem mayEnter_:Tryz.prog.mayEnter=true:=mayEnter_of _ _ head1 d0 d1 d2
theorem make_of(l:List (List Char))(P:Program)(h:behindMainWord (wordsSigns P.initOrder.toList)=headC :: l):P.make=some Make.cut:=by
 unfold Program.make
 rw[h]
 simp only[e1a,e1b,e2,Bool.or_self,Bool.true_or,if_true,Bool.false_eq_true,if_false]
theorem make_:Tryz.prog.make=some Make.cut:=make_of _ _ head1
theorem lifts_:Tryz.prog.liftsFinal=false:=by
 unfold Program.liftsFinal Program.headLifts
 rw[head1]
 simp only[e4,e5,e8,ite_self,Bool.false_and,Bool.or_self]
end Go.Proofs.YtgaimkihacljdaaGreat
