/- Lemmas: DrA DrB DrC. -/
import Derived.Test.YtgaimkihacljdaaGreatZImpB
import Derived.Test.YtgaimkihacljdaaGreatZSpec
import Derived.Test.YtgaimkihacljdaaGreatZRun
import Derived.Deep.RegionLaw
import Derived.Deep.RegionHeld3
import Derived.Test.YtgaimkihacljdaaGreatZDrive
import Derived.Test.YtgaimkihacljdaaGreatZPart
import Derived.Deep.CutRange
import Derived.Deep.LoopGhost
/- Draws of inputs: l91Input, l92Next. Printed by gen/dr1.py. -/
namespace Go.Proofs.YtgaimkihacljdaaGreat
open Go.ChangeShapes Go.WideShapes Go.ChangeAt Go.RowKit
end Go.Proofs.YtgaimkihacljdaaGreat
/- Draws of levels: l91Level. -/
namespace Go.Proofs.YtgaimkihacljdaaGreat
open Go.ChangeShapes Go.WideShapes Go.ChangeAt Go.RowKit
section
variable {α : Type} {w w' : World} {B : Nat} {T : TypeId} {sz : Nat} {enc : α → List Value} {v : Value} {l : List α}
theorem Own.drew(h:Own w B T sz enc v l):Own w.drew B T sz enc v l:=h
theorem Own.up(h:Own w B T sz enc v l){B':Nat}(hB: ∀g,v.ownBlock=some g→B'≤g):Own w B' T sz enc v l:=by
 refine⟨h.1,?_⟩
 rcases h.2 with hn|⟨g,cap,cur,rfl,hb,rest⟩
 ·exact .inl hn
 ·exact .inr ⟨g,cap,cur,rfl,hB g rfl,rest⟩
end
def ldOp(T:TypeId)(o:Operand):Op:=Op.load T o
attribute [local go_sem] ldOp
end Go.Proofs.YtgaimkihacljdaaGreat
/- Draws of runs: l92Run. -/
namespace Go.Proofs.YtgaimkihacljdaaGreat
open Go.ChangeShapes Go.WideShapes Go.ChangeAt Go.RowKit
theorem Sl.drew{α:Type}{w:World}{sz:Nat}{enc:α→List Value}{A:Option Addr}{n:Nat}{l:List α}(h:Sl w sz enc A n l):Sl w.drew sz enc A n l:=h
structure RunS(l:Lev)(A A':Option Addr)(c c':Nat)(R n N I S:Nat)(b:Inp)(s:St)(w u:World):Prop where
 L:Bk u N 42 #[.int .i64 l.id,.int .i64 l.ticks,.int .i64 l.start.x,.int .i64 l.start.y,.slice A l.walls.length c,.slice A' l.gates.length c',.int .i64 l.fin.lo.x,.int .i64 l.fin.lo.y,.int .i64 l.fin.hi.x,.int .i64 l.fin.hi.y,.int .i64 l.bans]
 B:Bk u I 60 #[.int .i64 b.s,.int .i64 b.p,.bool b.z]
 T:Bk u S 72 #[.int .i64 s.t,.int .i64 s.p.x,.int .i64 s.p.y,.int .i64 s.f.x,.int .i64 s.f.y,.int .i64 s.d,.int .i64 s.g,.bool s.dn,.bool s.ov]
 r:RdL u R n
 g:w.grownBy u (some R)
 hW:Sl u 4 Qc A l.walls.length l.walls
 hG:Sl u 4 Qc A' l.gates.length l.gates
section
variable {l : Lev} {A A' : Option Addr} {c c' : Nat} {R n N I S : Nat} {b : Inp} {s : St} {w u u' : World}
theorem RunS.below(h:RunS l A A' c c' R n N I S b s w u)(hb:Below u.heap.size u u'):RunS l A A' c c' R n N I S b s w u':=
 ⟨h.L.later hb,h.B.later hb,h.T.later hb,h.r.later hb,Qm h.g hb,h.hW.below hb,h.hG.below hb⟩
theorem RunS.alloc(h:RunS l A A' c c' R n N I S b s w u)(o:Obj):RunS l A A' c c' R n N I S b s w (u.alloc o):=h.below (Qf (Below.refl _ _) o)
theorem RunS.drew(h:RunS l A A' c c' R n N I S b s w u):RunS l A A' c c' R n N I S b s w u.drew:=h.below (Qw (Below.refl _ _))
theorem RunS.rd{m:Nat}(h:RunS l A A' c c' R n N I S b s w u)(hg:u.grownBy u' (some R))(hr:RdL u' R m)(h1:R<N)(h2:R<I)(h3:R<S)(hA: ∀a,A=some a→R<a.block)(hA': ∀a,A'=some a→R<a.block):RunS l A A' c c' R m N I S b s w u':=
 ⟨h.L.grown hg (by intro e;injection e;omega),h.B.grown hg (by intro e;injection e;omega),h.T.grown hg (by intro e;injection e;omega),hr,Qn h.g hg,
  h.hW.grown hg (fun a e e2=>by injection e2 with e2;have:=hA a e;omega),h.hG.grown hg (fun a e e2=>by injection e2 with e2;have:=hA' a e;omega)⟩
theorem RunS.own{row:Option Nat}(h:RunS l A A' c c' R n N I S b s w u)(hg:u.grownBy u' row)(hrow: ∀g,row=some g→S<g)(h1:N<S)(h2:I<S)(h3:R<S)(hs:w.heap.size≤S)(hA: ∀a,A=some a→a.block<S)(hA': ∀a,A'=some a→a.block<S):RunS l A A' c c' R n N I S b s w u':=
 ⟨h.L.grown hg (by intro e;have:=hrow _ e.symm;omega),h.B.grown hg (by intro e;have:=hrow _ e.symm;omega),h.T.grown hg (by intro e;have:=hrow _ e.symm;omega),
  h.r.own hg (fun g e=>by have:=hrow g e;omega),JP h.g hg (fun g e=>by have:=hrow g e;omega),
  h.hW.grown hg (fun a e e2=>by have:=hrow _ e2;have:=hA a e;omega),h.hG.grown hg (fun a e e2=>by have:=hrow _ e2;have:=hA' a e;omega)⟩
theorem RunS.more{m:Nat}(h:RunS l A A' c c' R n N I S b s w u)(hm:n≤m):RunS l A A' c c' R m N I S b s w u:=⟨h.L,h.B,h.T,h.r.more hm,h.g,h.hW,h.hG⟩
end
theorem Qf4(w:World)(p:Addr)(v:Value):w.grownBy (w.setCell p v) (some p.block):=
 ⟨rfl,rfl,rfl,by simp,fun k hk hn=>Below.heap_setCell w p v k (fun e=>hn (by rw[e]))⟩
theorem Sl.far{α:Type}{w:World}{sz:Nat}{enc:α→List Value}{A:Option Addr}{n:Nat}{l:List α}{p:Addr}(h:Sl w sz enc A n l)(hA: ∀a,A=some a→a.block≠p.block)(v:Value):Sl (w.setCell p v) sz enc A n l:=
 h.grown (Qf4 w p v) fun a e e2=>by injection e2 with e2;exact hA a e e2.symm
section
variable {l : Lev} {A A' : Option Addr} {c c' : Nat} {R n N I S : Nat} {b : Inp} {s : St} {w u u' : World}
end
end Go.Proofs.YtgaimkihacljdaaGreat
