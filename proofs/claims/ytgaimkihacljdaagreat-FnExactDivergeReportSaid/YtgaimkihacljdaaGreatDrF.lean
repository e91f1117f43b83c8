/- Draws of hashes: l92Hashes. -/
import Derived.Test.YtgaimkihacljdaaGreatZDrawL
namespace Go.Proofs.YtgaimkihacljdaaGreat
open Go.ChangeShapes Go.WideShapes Go.ChangeAt Go.RowKit
theorem Own.cut{w:World}{B:Nat}{T:TypeId}{g n cap k:Nat}{l:List Int}(h:Own w B T 1 Qe (.slice (some ⟨g,0,none⟩) n cap) l)(hk:k≤n):Own w B T 1 Qe (.slice (some ⟨g,0,none⟩) k cap) (l.take k):=by
 obtain⟨A',c',e,_⟩:=h.form
 have hn:n=l.length:=by injection e
 subst hn
 have hl:(l.take k).length=k:=by rw[List.length_take];omega
 have hf: ∀m:List Int,m.flatMap Qe=m.map fun x=> .int .i64 x:=fun m=>by induction m with|nil=>rfl|cons x m ih=>simp[Qe,ih]
 refine⟨by rw[Qa2 Qi],?_⟩
 rcases h.2 with⟨e1,_⟩|⟨g2,cap2,cur,e1,hB,hgg,hc,hm,hs,hx⟩
 ·cases e1
 ·injection e1 with e1 e2 e3
  cases e1
  subst e3
  refine .inr ⟨g,cap,cur,by rw[hl],hB,hgg,by rw[hl];omega,hm,hs,?_⟩
  rw[hl,hf,List.map_take,←hf,←hx,List.take_take,Nat.mul_one,Nat.mul_one,Nat.min_eq_left hk]
end Go.Proofs.YtgaimkihacljdaaGreat
