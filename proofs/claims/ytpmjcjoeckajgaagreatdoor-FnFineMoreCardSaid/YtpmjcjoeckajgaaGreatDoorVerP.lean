/- Plain facts of verdicts: an honest replay, another key, another level, a longer run, another score. No program is named here. (Round C, cards) -/
import Derived.Test.YtpmjcjoeckajgaaGreatDoorVerM
import Derived.Test.YtpmjcjoeckajgaaGreatDoorMkL
import Derived.Test.YtpmjcjoeckajgaaGreatDoorRunQ
namespace Go.Proofs.YtpmjcjoeckajgaaGreatDoor
open Go.ChangeShapes Go.WideShapes Go.ChangeAt Go.RowKit
theorem Qby{l:Lev}{key:Int}{r:Rep}(h:QM l key r=0):
 QL r=true∧QE l=true∧l.id=r.lv∧inR 1 9999 key=true∧r.tag=tagL key (QK r)∧QC l r.ins<0∧(Qg l r.ins r.ins.length).ov=false∧Zg (Qq l r.ins) r.hs<0∧(Qg l r.ins r.ins.length).dn=true∧(Qg l r.ins r.ins.length).t=r.ins.length∧r.sc=r.ins.length:=by
 unfold QM at h
 by_cases c1:QL r=false
 ·rw[if_pos c1] at h;omega
 rw[if_neg c1] at h
 by_cases c2:(QE l && (l.id == r.lv))=false
 ·rw[if_pos c2] at h;omega
 rw[if_neg c2] at h
 by_cases c3:inR 1 9999 key=false
 ·rw[if_pos c3] at h;omega
 rw[if_neg c3] at h
 by_cases c4:(r.tag == tagL key (QK r))=false
 ·rw[if_pos c4] at h;omega
 rw[if_neg c4] at h
 by_cases c5:0≤QC l r.ins
 ·rw[if_pos c5] at h;omega
 rw[if_neg c5] at h
 by_cases c6:(Qg l r.ins r.ins.length).ov=true
 ·rw[if_pos c6] at h;omega
 rw[if_neg c6] at h
 by_cases c7:0≤Zg (Qq l r.ins) r.hs
 ·rw[if_pos c7] at h;omega
 rw[if_neg c7] at h
 by_cases c8:((Qg l r.ins r.ins.length).dn && decide ((Qg l r.ins r.ins.length).t=r.ins.length))=false
 ·rw[if_pos c8] at h;omega
 rw[if_neg c8] at h
 by_cases c9:(Qg l r.ins r.ins.length).t≠r.sc
 ·rw[if_pos c9] at h;omega
 simp only[Bool.not_eq_false,Bool.and_eq_true,beq_iff_eq,decide_eq_true_eq] at c1 c2 c3 c4 c8
 have c9':(Qg l r.ins r.ins.length).t=r.sc:=Decidable.not_not.1 c9
 exact⟨c1,c2.1,c2.2,c3,c4,by omega,by simpa using c6,by omega,c8.1,c8.2,by rw[←c9',c8.2]⟩
theorem Qpn{l:Lev}{key i:Int}{r:Rep}(h:QM l key r=0)(hi:i≠l.id):QM ⟨i,l.ticks,l.start,l.walls,l.gates,l.fin,l.bans⟩ key r=2:=by
 obtain⟨h1,h2,h3, -⟩:=Qby h
 have hb:(i == r.lv)=false:=by rw[beq_eq_false_iff_ne];omega
 unfold QM
 rw[h1,if_neg (by simp),if_pos]
 dsimp only
 rw[hb,Bool.and_false]
theorem Qpm{l:Lev}{key:Int}{r:Rep}(h:QM l key r=0):QM l 0 r=3:=by
 obtain⟨h1,h2,h3, -⟩:=Qby h
 have hb:(l.id == r.lv)=true:=by rw[beq_iff_eq];exact h3
 have h0:inR 1 9999 0=false:=by decide
 unfold QM
 rw[h1,h2,hb,h0]
 rfl
theorem QgI{r:Rep}(h:QL r=true):(0≤r.lv∧r.lv≤99)∧(0≤r.pl∧r.pl≤9)∧(0≤r.sc∧r.sc≤60):=by
 simp only[QL,Bool.and_eq_true,Q5] at h
 exact⟨h.1,h.2.1,h.2.2.1⟩
theorem Qpo{l:Lev}{key:Int}{r:Rep}(h:QM l key r=0){X:List Inp}(hX:X=r.ins++ [⟨0,0,false⟩])(hl:QC l X<0):
 ZJ l r.pl key X=true∧(∀t,⟨r.lv,r.pl,r.sc,X,Qq l X,t⟩=(⟨l.id,r.pl,max (QB l X) 0,X,Qq l X,t⟩:Rep))∧(Qg l X X.length).ov=false∧(Qg l X X.length).t≠X.length:=by
 obtain⟨h1,h2,h3,h4,h5,h6,h7,h8,h9,h10,h11⟩:=Qby h
 obtain⟨q1,q2,q3⟩:=QgI h1
 have hr:QA l X=true:=J9.2 ⟨h2,hl⟩
 have hlen:X.length=r.ins.length+1:=by rw[hX];simp
 have e0:Qg l X r.ins.length=Qg l r.ins r.ins.length:=by rw[hX];exact Qku (Nat.le_refl _)
 have e1:Qg l X X.length=Qg l r.ins r.ins.length:=by
  rw[hlen,Qei (j:=r.ins.length) (.inl (by rw[e0];exact h9)) 1,e0]
 have hsc:QB l X=r.ins.length:=by unfold QB;rw[if_pos hr,e1,if_pos h9,h10]
 refine⟨JS.2 ⟨hr,q2,Q5.1 h4⟩,fun t=>?_,by rw[e1];exact h7,by rw[e1,h10,hlen];omega⟩
 rw[hsc,h3,h11,Int.max_eq_left (by omega)]
theorem Qpp{l:Lev}{key:Int}{r:Rep}(h:QM l key r=0){X:List Inp}(hX:X=r.ins++ [⟨0,0,false⟩])(hl:QC l X<0):
 QL ⟨r.lv,r.pl,r.sc,X,Qq l X,r.tag⟩=true∧QM l key ⟨r.lv,r.pl,r.sc,X,Qq l X,tagL key (QK ⟨r.lv,r.pl,r.sc,X,Qq l X,r.tag⟩)⟩=8:=by
 obtain⟨k1,k2,k3,k4⟩:=Qpo h hX hl
 obtain⟨h1,h2,h3,h4,h5, -⟩:=Qby h
 obtain⟨q1,q2,q3⟩:=QgI h1
 obtain⟨m1, -, -⟩:=JS.1 k1
 constructor
 ·rw[k2]
  exact QgG m1 q2 (by rw[h5];exact Qd4 _ _)
 ·have e:(⟨r.lv,r.pl,r.sc,X,Qq l X,tagL key (QK ⟨r.lv,r.pl,r.sc,X,Qq l X,r.tag⟩)⟩:Rep)=Zv l r.pl key X:=by
   rw[k2,k2];rfl
  rw[e,QjB k1,if_neg (by rw[k3];simp),if_neg (fun q=>k4 q.2)]
theorem Qpq{l:Lev}{key s:Int}{r:Rep}(h:QM l key r=0)(h0:0≤s)(h6:s≤60):
 QL ⟨r.lv,r.pl,s,r.ins,r.hs,r.tag⟩=true∧(s≠r.sc→QM l key ⟨r.lv,r.pl,s,r.ins,r.hs,tagL key (QK ⟨r.lv,r.pl,s,r.ins,r.hs,r.tag⟩)⟩=9):=by
 obtain⟨h1,h2,h3,h4,h5,h7,h8,h9,h10,h11,h12⟩:=Qby h
 have hT:=Qd4 key (QK ⟨r.lv,r.pl,s,r.ins,r.hs,r.tag⟩)
 have hv: ∀t,0≤t∧t≤1000002→QL ⟨r.lv,r.pl,s,r.ins,r.hs,t⟩=true:=by
  intro t ht
  have h:=h1
  simp only[QL,Bool.and_eq_true,Q5,lenB] at h⊢
  exact⟨h.1,h.2.1,⟨h0,h6⟩,h.2.2.2.1,h.2.2.2.2.1,Qet.2 ht,h.2.2.2.2.2.2⟩
 refine⟨hv _ (by rw[h5];exact Qd4 _ _),fun hne=>?_⟩
 obtain⟨T,hTe⟩: ∃T,tagL key (QK ⟨r.lv,r.pl,s,r.ins,r.hs,r.tag⟩)=T:=⟨_,rfl⟩
 rw[hTe] at hT⊢
 have hq:((⟨r.lv,r.pl,s,r.ins,r.hs,T⟩:Rep).tag == tagL key (QK ⟨r.lv,r.pl,s,r.ins,r.hs,T⟩))=true:=by rw[beq_iff_eq];exact hTe.symm
 have hid:(l.id == r.lv)=true:=by rw[beq_iff_eq];exact h3
 unfold QM
 rw[hv T hT,if_neg (by simp),h2]
 rw[hq,h4]
 dsimp only
 rw[hid,h8,if_neg (by simp),if_neg (by simp),if_neg (by simp),if_neg (show¬0≤QC l r.ins by omega),if_neg (by simp),if_neg (show¬0≤Zg (Qq l r.ins) r.hs by omega),h10,h11,if_neg (by simp),if_pos (by omega)]
end Go.Proofs.YtpmjcjoeckajgaaGreatDoor
