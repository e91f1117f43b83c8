/- Small laws for the laws of runs. (Round B) -/
import Derived.Test.YtpmjcjoeckajgaaGreatDoorSpecN
import Derived.Test.YtpmjcjoeckajgaaGreatDoorZImpB
import Derived.Test.YtpmjcjoeckajgaaGreatDoorZDrawL
namespace Go.Proofs.YtpmjcjoeckajgaaGreatDoor
open Go.ChangeShapes Go.WideShapes Go.ChangeAt Go.RowKit
theorem Qay{l:Lev}{ins:List Inp}{n:Int}:toOk l ins n=true↔QA l ins=true∧0≤n∧n≤ins.length:=by
 simp only[toOk,Bool.and_eq_true,Q5]
theorem QcJ{l:Lev}{ins:List Inp}{n:Nat}(hr:QA l ins=true)(hn:n≤ins.length):toOk l ins n=true:=Qay.2 ⟨hr,by omega,by omega⟩
theorem JR{l:Lev}{ins:List Inp}{n:Nat}(hr:QA l ins=true)(hn:n≤ins.length):toR l ins n=Qg l ins n:=by
 unfold toR;rw[QcJ hr hn,if_pos rfl,Int.toNat_natCast]
theorem QlN{l:Lev}{ins:List Inp}{n:Int}(hr:QA l ins=false):toOk l ins n=false:=by unfold toOk;rw[hr];rfl
theorem Qb.alloc{l:Lev}{A A':Option Addr}{c c':Nat}{ins:List Inp}{A2:Option Addr}{c2:Nat}{w:World}(h:Qb l A A' c c' ins A2 c2 w)(o:Obj):Qb l A A' c c' ins A2 c2 (w.alloc o):=h.below (Qf (Below.refl _ _) o)
theorem Qb.drew{l:Lev}{A A':Option Addr}{c c':Nat}{ins:List Inp}{A2:Option Addr}{c2:Nat}{w:World}(h:Qb l A A' c c' ins A2 c2 w):Qb l A A' c c' ins A2 c2 w.drew:=h.below (Qw (Below.refl _ _))
theorem ZX{W w':World}{g:Nat}{t:TypeId}{v0 v1 v2 v3 v4 v5 v6 v7 v8 v9 v10:Value}(h:Bk W g t #[v0,v1,v2,v3,v4,v5,v6,v7,v8,v9,v10])(hb:Below W.heap.size W w'):
 w'.cell? ⟨g,0,none⟩=some v0∧w'.cell? ⟨g,1,none⟩=some v1∧w'.cell? ⟨g,2,none⟩=some v2∧w'.cell? ⟨g,3,none⟩=some v3∧w'.cell? ⟨g,4,none⟩=some v4∧w'.cell? ⟨g,5,none⟩=some v5∧w'.cell? ⟨g,6,none⟩=some v6∧w'.cell? ⟨g,7,none⟩=some v7∧w'.cell? ⟨g,8,none⟩=some v8∧w'.cell? ⟨g,9,none⟩=some v9∧w'.cell? ⟨g,10,none⟩=some v10:=(h.later hb).c11.1
end Go.Proofs.YtpmjcjoeckajgaaGreatDoor
