/- Lemmas: DrD DrL DrM EqS. -/
import Derived.Test.YtpmjcjoeckajgaaGreatDoorZDraw
import Derived.Test.YtpmjcjoeckajgaaGreatDoorZPart
import Derived.Deep.RegionHeld3
import Derived.Deep.Cut
import Derived.Test.YtpmjcjoeckajgaaGreatDoorZImpC
/- Draws of inputs: l92Any; DrawReplayParts. -/
namespace Go.Proofs.YtpmjcjoeckajgaaGreatDoor
open Go.ChangeShapes Go.WideShapes Go.ChangeAt Go.RowKit
end Go.Proofs.YtpmjcjoeckajgaaGreatDoor
/- The reference's draws: vectors, boxes, changed levels. Printed by gen/drl.py. (Round B) -/
namespace Go.Proofs.YtpmjcjoeckajgaaGreatDoor
open Go.ChangeShapes Go.WideShapes Go.ChangeAt Go.RowKit
structure XJ(l:Lev)(A A':Option Addr)(c c':Nat)(R n:Nat)(l2:Array Value)(w u:World):Prop where
 L:Bk u w.heap.size 29 l2
 Z:Bk u (w.heap.size+1) 29 #[.int .i64 0,.int .i64 0,.int .i64 0,.int .i64 0,.slice none 0 0,.slice none 0 0,.int .i64 0,.int .i64 0,.int .i64 0,.int .i64 0,.int .i64 0]
 W:Sl u 4 Qc A l.walls.length l.walls
 G:Sl u 4 Qc A' l.gates.length l.gates
 r:RdL u R n
 g:w.grownBy u (some R)
theorem XJ.below{l:Lev}{A A':Option Addr}{c c' R n:Nat}{l2:Array Value}{w u u':World}(h:XJ l A A' c c' R n l2 w u)(hb:Below u.heap.size u u'):XJ l A A' c c' R n l2 w u':=
 ⟨h.L.later hb,h.Z.later hb,h.W.below hb,h.G.below hb,h.r.later hb,Qm h.g hb⟩
theorem XJ.alloc{l:Lev}{A A':Option Addr}{c c' R n:Nat}{l2:Array Value}{w u:World}(h:XJ l A A' c c' R n l2 w u)(o:Obj):XJ l A A' c c' R n l2 w (u.alloc o):=h.below (Qf (Below.refl _ _) o)
theorem XJ.own{l:Lev}{A A':Option Addr}{c c' R n:Nat}{l2:Array Value}{w u u':World}{row:Option Nat}(h:XJ l A A' c c' R n l2 w u)(hR:R<w.heap.size)(hA: ∀a,A=some a→a.block<w.heap.size)(hA': ∀a,A'=some a→a.block<w.heap.size)(hg:u.grownBy u' row)(hrow: ∀g,row=some g→w.heap.size+2≤g):XJ l A A' c c' R n l2 w u':=
 ⟨h.L.grown hg (by intro e;have:=hrow _ e.symm;omega),h.Z.grown hg (by intro e;have:=hrow _ e.symm;omega),h.W.grown hg (fun a e e2=>by have:=hrow _ e2;have:=hA a e;omega),h.G.grown hg (fun a e e2=>by have:=hrow _ e2;have:=hA' a e;omega),h.r.own hg (fun g e=>by have:=hrow g e;omega),JP h.g hg (fun g e=>by have:=hrow g e;omega)⟩
theorem XJ.more{l:Lev}{A A':Option Addr}{c c' R n m:Nat}{l2:Array Value}{w u:World}(h:XJ l A A' c c' R n l2 w u)(hm:n≤m):XJ l A A' c c' R m l2 w u:=⟨h.L,h.Z,h.W,h.G,h.r.more hm,h.g⟩
end Go.Proofs.YtpmjcjoeckajgaaGreatDoor
/- The reference's draws of runs: DrawInputsLegal, DrawRunScore, DrawRunHashes, DrawRunTo. (Round B) -/
namespace Go.Proofs.YtpmjcjoeckajgaaGreatDoor
open Go.ChangeShapes Go.WideShapes Go.ChangeAt Go.RowKit
structure Qb(l:Lev)(A A':Option Addr)(c c':Nat)(ins:List Inp)(A2:Option Addr)(c2:Nat)(w:World):Prop where
 nw:l.walls.length≤10
 ng:l.gates.length≤10
 W:Sl w 4 Qc A l.walls.length l.walls
 G:Sl w 4 Qc A' l.gates.length l.gates
 e:A=none→c=0
 e':A'=none→c'=0
 ni:ins.length≤63
 I:Sl w 3 Qd A2 ins.length ins
 ci:ins.length≤c2
 e2:A2=none→c2=0
theorem Qb.below{l:Lev}{A A':Option Addr}{c c':Nat}{ins:List Inp}{A2:Option Addr}{c2:Nat}{w w':World}(h:Qb l A A' c c' ins A2 c2 w)(hb:Below w.heap.size w w'):Qb l A A' c c' ins A2 c2 w':=
 ⟨h.nw,h.ng,h.W.below hb,h.G.below hb,h.e,h.e',h.ni,h.I.below hb,h.ci,h.e2⟩
end Go.Proofs.YtpmjcjoeckajgaaGreatDoor
/- Two equal states, two equal inputs are told equal. (Round B) -/
namespace Go.Proofs.YtpmjcjoeckajgaaGreatDoor
open Go.ChangeShapes Go.WideShapes Go.ChangeAt Go.RowKit
end Go.Proofs.YtpmjcjoeckajgaaGreatDoor
