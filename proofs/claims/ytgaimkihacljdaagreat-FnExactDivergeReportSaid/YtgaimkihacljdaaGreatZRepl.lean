/- Lemmas: RepL Rdr. -/
import Derived.Test.YtgaimkihacljdaaGreatZBase
import Derived.Deep.DeepMust
import Derived.Laws.BitsAllLaws
/- ReplayList: the reference's and the program's, each by its contract. -/
namespace Go.Proofs.YtgaimkihacljdaaGreat
open Go.ChangeShapes Go.WideShapes Go.ChangeAt Go.RowKit
theorem Own.nil_lit(w:World)(B:Nat)(T:TypeId)(hB:B≤w.heap.size):Own (w.alloc (.cells #[] T)) B T 1 Qe (.slice (some ⟨w.heap.size,0,none⟩) 0 0) []:=
 World.ownsRow_lit (base:=B) (size:=1) w #[] 0 hB (by decide) rfl
end Go.Proofs.YtgaimkihacljdaaGreat
/- The reader of the draws: l6Open, pick. -/
namespace Go.Proofs.YtgaimkihacljdaaGreat
open Go.ChangeShapes Go.WideShapes Go.ChangeAt Go.RowKit
def Rd(w:World)(R p:Nat):Prop:=
 ∃(A:Option Addr) (n c:Nat) (l:List Int),n≤2000∧w.cell? ⟨R,0,none⟩=some (.slice A n c)∧w.cell? ⟨R,1,none⟩=some (.int .i64 p)∧w.frozen? ⟨R,1,none⟩=false∧Sl w 1 QD A n l∧(∀x∈l,0≤x∧x<256)∧(0<n→∀a,A=some a→a.block<R)∧R<w.heap.size
theorem QcZ(w:World)(b o:Nat)(u:Value):w.grownBy (w.setCell ⟨b,o,none⟩ u) (some b):=
 ⟨rfl,rfl,rfl,by simp,fun k _ hk=>heap_setCell_other w ⟨b,o,none⟩ k u (fun e=>hk (by simp[e]))⟩
theorem Rd.step{w:World}{R p:Nat}(h:Rd w R p):Rd (w.setCell ⟨R,1,none⟩ (.int .i64 (p+1:Nat))) R (p+1):=by
 obtain⟨A,n,c,l,hn,h0,h1,h2,hs,hl,hA,hR⟩:=h
 refine⟨A,n,c,l,hn,?_,?_,?_,?_,hl,hA,by simpa using hR⟩
 ·rw[World.cell?_setCell_other w ⟨R,1,none⟩ ⟨R,0,none⟩ _ (by simp)];exact h0
 ·exact World.cell?_setCell_same' w _ _ (by simp[h1])
 ·simpa using h2
 ·rcases Nat.eq_zero_or_pos n with hz|hz
  ·subst hz
   have:=hs.len
   rw[List.length_eq_zero_iff.1 this]
   exact Sl.nil
  ·exact hs.grown (QcZ _ _ _ _) (fun a ha e=>by have:=hA hz a ha;injection e with e;omega)
theorem Rd.drewN{w:World}{R p:Nat}(h:Rd w R p)(n:Nat):Rd (w.drewN n) R p:=h
end Go.Proofs.YtgaimkihacljdaaGreat
