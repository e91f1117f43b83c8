/- Plain facts of verdicts: an honest replay, another key, another level, a longer run, another score. No program is named here. (Round C, cards) -/
import Derived.Test.YtpmjcjoeckajgaaGreatDoorVerM
import Derived.Test.YtpmjcjoeckajgaaGreatDoorMkL
import Derived.Test.YtpmjcjoeckajgaaGreatDoorRunQ
namespace Go.Proofs.YtpmjcjoeckajgaaGreatDoor
open Go.ChangeShapes Go.WideShapes Go.ChangeAt Go.RowKit
theorem Qtq{l:Lev}{ins:List Inp}(h:QA l ins=true):((Qg l ins ins.length).dn && (Qg l ins ins.length).ov)=false:=
 (ZS.1 (Qfi (QeW h _ (Nat.le_refl _)))).2.2.2.2.2.2
theorem Qjx{l:Lev}{pl key:Int}{ins:List Inp}(h:ZJ l pl key ins=true):
 (QM l key (Zv l pl key ins)=0∧QB l ins=ins.length)∨((QM l key (Zv l pl key ins)=8∨QM l key (Zv l pl key ins)=6)∧QB l ins≠ins.length):=by
 obtain⟨h1, -, -⟩:=JS.1 h
 have ho:=Qtq h1
 rw[QjB h]
 unfold QB
 rw[if_pos h1]
 generalize Qg l ins ins.length=s at ho⊢
 cases hd:s.dn
 ·right
  simp only[Bool.false_eq_true,if_false,false_and]
  refine⟨?_,by omega⟩
  by_cases hov:s.ov=true
  ·rw[if_pos hov];exact .inr rfl
  ·rw[if_neg hov];exact .inl rfl
 ·rw[hd,Bool.true_and] at ho
  rw[if_neg (by rw[ho];simp),if_pos rfl]
  by_cases ht:s.t=ins.length
  ·left;exact⟨if_pos ⟨rfl,ht⟩,ht⟩
  ·right;exact⟨.inl (if_neg fun h=>ht h.2),ht⟩
theorem QsV{l:Lev}{pl key k:Int}{ins:List Inp}(h:ZJ l pl key ins=true)(hk:inR 1 9999 k=true)(hne:tagL k (QK (Zv l pl key ins))≠(Zv l pl key ins).tag):QM l k (Zv l pl key ins)=4:=by
 obtain⟨h1, -, -⟩:=JS.1 h
 obtain⟨hL, -⟩:=J9.1 h1
 have hv:=QeL h
 have hid:(l.id == (Zv l pl key ins).lv)=true:=by simp[Zv]
 have hq:((Zv l pl key ins).tag == tagL k (QK (Zv l pl key ins)))=false:=by rw[beq_eq_false_iff_ne];exact fun e=>hne e.symm
 unfold QM
 rw[hv,hL,hid,hk,hq]
 rfl
end Go.Proofs.YtpmjcjoeckajgaaGreatDoor
