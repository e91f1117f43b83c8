/- The verdict on a made replay. (Round C, cards) -/
import Derived.Test.YtpmjcjoeckajgaaGreatDoorVerC
import Derived.Test.YtpmjcjoeckajgaaGreatDoorZRun
namespace Go.Proofs.YtpmjcjoeckajgaaGreatDoor
open Go.ChangeShapes Go.WideShapes Go.ChangeAt Go.RowKit
theorem QjB{l:Lev}{pl key:Int}{ins:List Inp}(h:ZJ l pl key ins=true):
 QM l key (Zv l pl key ins)=if(Qg l ins ins.length).ov=true then 6 else if(Qg l ins ins.length).dn=true∧(Qg l ins ins.length).t=ins.length then 0 else 8:=by
 obtain⟨h1,h2,h3⟩:=JS.1 h
 obtain⟨hL,hl⟩:=J9.1 h1
 have hv:=QeL h
 have hid:(l.id == (Zv l pl key ins).lv)=true:=by simp[Zv]
 have hk:inR 1 9999 key=true:=Q5.2 h3
 have hq:((Zv l pl key ins).tag == tagL key (QK (Zv l pl key ins)))=true:=by rw[beq_iff_eq];rfl
 have hi:(Zv l pl key ins).ins=ins:=rfl
 have hh:(Zv l pl key ins).hs=Qq l ins:=rfl
 have hs:(Zv l pl key ins).sc=max (QB l ins) 0:=rfl
 unfold QM
 rw[hv,hL,hid,hk,hq,hi,hh,hs,Qig]
 simp only[Bool.and_self,Bool.true_eq_false,if_false,if_neg (show¬0≤QC l ins by omega),if_neg (show¬(0:Int)≤ -1 by omega)]
 by_cases hov:(Qg l ins ins.length).ov=true
 ·rw[if_pos hov,if_pos hov]
 ·rw[if_neg hov,if_neg hov]
  by_cases hd:(Qg l ins ins.length).dn=true∧(Qg l ins ins.length).t=ins.length
  ·obtain⟨d1,d2⟩:=hd
   have hsc:QB l ins=ins.length:=by unfold QB;rw[h1,if_pos rfl,if_pos d1,d2]
   rw[if_neg (show¬((Qg l ins ins.length).dn && decide ((Qg l ins ins.length).t=ins.length))=false by simp[d1,d2]),if_neg (show¬(Qg l ins ins.length).t≠max (QB l ins) 0 by rw[hsc,d2];omega),if_pos (show(Qg l ins ins.length).dn=true∧(Qg l ins ins.length).t=ins.length from⟨d1,d2⟩)]
  ·rw[if_neg hd,if_pos (show((Qg l ins ins.length).dn && decide ((Qg l ins ins.length).t=ins.length))=false by
    cases hd1:(Qg l ins ins.length).dn
    ·rfl
    ·rw[Bool.true_and];exact decide_eq_false fun e=>hd ⟨hd1,e⟩)]
end Go.Proofs.YtpmjcjoeckajgaaGreatDoor
