/- Small laws for the laws of runs. (Round B) -/
import Derived.Test.YtpmjcjoeckajgaaGreatSpecN
import Derived.Test.YtpmjcjoeckajgaaGreatZImpB
import Derived.Test.YtpmjcjoeckajgaaGreatZDrawL
namespace Go.Proofs.YtpmjcjoeckajgaaGreat
open Go.ChangeShapes Go.WideShapes Go.ChangeAt Go.RowKit
theorem Qb.alloc{l:Lev}{A A':Option Addr}{c c':Nat}{ins:List Inp}{A2:Option Addr}{c2:Nat}{w:World}(h:Qb l A A' c c' ins A2 c2 w)(o:Obj):Qb l A A' c c' ins A2 c2 (w.alloc o):=h.below (Qf (Below.refl _ _) o)
theorem Qb.drew{l:Lev}{A A':Option Addr}{c c':Nat}{ins:List Inp}{A2:Option Addr}{c2:Nat}{w:World}(h:Qb l A A' c c' ins A2 c2 w):Qb l A A' c c' ins A2 c2 w.drew:=h.below (Qw (Below.refl _ _))
theorem Sl.alloc'{α:Type}{w:World}{sz:Nat}{enc:α→List Value}{A:Option Addr}{n:Nat}{l:List α}(h:Sl w sz enc A n l)(o:Obj):Sl (w.alloc o) sz enc A n l:=h.below (Qf (Below.refl _ _) o)
theorem Sl.drew'{α:Type}{w:World}{sz:Nat}{enc:α→List Value}{A:Option Addr}{n:Nat}{l:List α}(h:Sl w sz enc A n l):Sl w.drew sz enc A n l:=h
theorem ZX{W w':World}{g:Nat}{t:TypeId}{v0 v1 v2 v3 v4 v5 v6 v7 v8 v9 v10:Value}(h:Bk W g t #[v0,v1,v2,v3,v4,v5,v6,v7,v8,v9,v10])(hb:Below W.heap.size W w'):
 w'.cell? ⟨g,0,none⟩=some v0∧w'.cell? ⟨g,1,none⟩=some v1∧w'.cell? ⟨g,2,none⟩=some v2∧w'.cell? ⟨g,3,none⟩=some v3∧w'.cell? ⟨g,4,none⟩=some v4∧w'.cell? ⟨g,5,none⟩=some v5∧w'.cell? ⟨g,6,none⟩=some v6∧w'.cell? ⟨g,7,none⟩=some v7∧w'.cell? ⟨g,8,none⟩=some v8∧w'.cell? ⟨g,9,none⟩=some v9∧w'.cell? ⟨g,10,none⟩=some v10:=(h.later hb).c11.1
end Go.Proofs.YtpmjcjoeckajgaaGreat
