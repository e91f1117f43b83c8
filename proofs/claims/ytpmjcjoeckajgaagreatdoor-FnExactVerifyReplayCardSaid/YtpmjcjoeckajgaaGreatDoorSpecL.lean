/- The reference's ReplayMake. -/
import Derived.Test.YtpmjcjoeckajgaaGreatDoorZRun
import Derived.Test.YtpmjcjoeckajgaaGreatDoorZPart
import Derived.Test.YtpmjcjoeckajgaaGreatDoorZDraw
import Derived.Deep.RegionHeld3
namespace Go.Proofs.YtpmjcjoeckajgaaGreatDoor
open Go.ChangeShapes Go.WideShapes Go.ChangeAt Go.RowKit
structure MkS(l:Lev)(A A':Option Addr)(c c':Nat)(w u:World):Prop where
 L:Bk u w.heap.size 29 #[.int .i64 l.id,.int .i64 l.ticks,.int .i64 l.start.x,.int .i64 l.start.y,.slice A l.walls.length c,.slice A' l.gates.length c',.int .i64 l.fin.lo.x,.int .i64 l.fin.lo.y,.int .i64 l.fin.hi.x,.int .i64 l.fin.hi.y,.int .i64 l.bans]
 R:Bk u (w.heap.size+1) 33 #[.int .i64 0,.int .i64 0,.int .i64 0,.slice none 0 0,.slice none 0 0,.int .i64 0]
 d:Below w.heap.size w u
 z:w.heap.size+1<u.heap.size
section
variable {l : Lev} {A A' : Option Addr} {c c' : Nat} {w u u' : World}
theorem MkS.later(h:MkS l A A' c c' w u)(hb:Below u.heap.size u u'):MkS l A A' c c' w u':=⟨h.L.later hb,h.R.later hb,Qa h.d hb,Nat.lt_of_lt_of_le h.z hb.size⟩
theorem MkS.alloc(h:MkS l A A' c c' w u)(o:Obj):MkS l A A' c c' w (u.alloc o):=h.later (Qf (Below.refl _ _) o)
theorem MkS.drew(h:MkS l A A' c c' w u):MkS l A A' c c' w u.drew:=h.later (Qw (Below.refl _ _))
theorem MkS.own{row:Option Nat}(h:MkS l A A' c c' w u)(hg:u.grownBy u' row)(h0: ∀g,row=some g→w.heap.size+1<g):MkS l A A' c c' w u':=
 ⟨h.L.grown hg (by intro e;have:=h0 _ e.symm;omega),h.R.grown hg (by intro e;have:=h0 _ e.symm;omega),h.d.grown hg h.d.size (fun k e=>by have:=h0 k e;omega),Nat.lt_of_lt_of_le h.z hg.size⟩
end
theorem Own.ne{α:Type}{w:World}{B X:Nat}{T T':TypeId}{sz:Nat}{enc:α→List Value}{v:Value}{l:List α}{cs:Array Value}(h:Own w B T sz enc v l)(hb:Bk w X T' cs)(hT:T≠T'): ∀g,v.ownBlock=some g→g≠X:=by
 intro g e e2
 subst e2
 rcases h.2 with⟨rfl,_⟩|⟨g2,cap,cur,rfl,hB,hgg,rest⟩
 ·cases e
 ·simp only[Value.ownBlock,Option.some.injEq] at e
  subst e
  unfold Bk at hb
  rw[hgg] at hb
  injection hb with hb
  injection hb with _ h2
  exact hT h2
def Nm(P:Program)(md:Region.Mode)(ops:Array Oper)(Q:Exit→Act→World→Prop)(S:World→Prop)(W:Nat→Array Bool→Act→World→Prop):Prop:=∀n l a w,wpAnyH P md ops Q S n l a w↔W n l a w
section
variable {P : Program} {md : Region.Mode} {ops : Array Oper} {Q : Exit → Act → World → Prop} {S : World → Prop} {W : Nat → Array Bool → Act → World → Prop}
theorem Nm.take(hN:Nm P md ops Q S W)(i n t:Nat){oi:Oper}{v:Value}{lst lst':Array Bool}{ts:Array Value}{df:List Deferred}{w:World}(hi:ops[i]? =some oi)
 (hs:Region.noSelect ops=true)(hf:Region.free md ops lst i=true)(hr:(Region.ready md ops lst).contains i=true)(hQ: ∀c a w,Q (.panic c) (a.put oi.dst v) w→Q (.panic c) a w)(hd:oi.dst=some t)
 (hl:lst.setIfInBounds i true=lst')(hy:YieldsIf P ops S oi v ⟨ts,df⟩)(hS:S w)(h:W n lst' ⟨ts.setIfInBounds t v,df⟩ w):W (n+1) lst ⟨ts,df⟩ w:=by
 refine(hN _ _ _ _).1 (wpAnyH_take hi hs hf hr hQ hy hS ?_)
 rw[hd,hl]
 exact(hN _ _ _ _).2 h
def NmR(P:Program)(ops:Array Oper)(Q:Exit→Act→World→Prop)(S:World→Prop)(W:Nat→Array Bool→Act→World→Prop)(n:Nat)(lst:Array Bool)(a:Act)(w:World)(rs:List Nat):Prop:=
 ∀i∈rs,wpOp P ops Q i (fun a' w'=>S w'∧W n (lst.setIfInBounds i true) a' w') a w
theorem NmR.nil{n:Nat}{lst:Array Bool}{a:Act}{w:World}:NmR P ops Q S W n lst a w []:=fun _ h=>by cases h
theorem NmR.cons{n i:Nat}{lst lst':Array Bool}{a:Act}{w:World}{o:Oper}{rs:List Nat}(ho:ops[i]? =some o)(hl:lst.setIfInBounds i true=lst')
 (h: ∀K':Act→World→Prop,Shut (∀a w,S w→W n lst' a w→K' a w)→if Region.wanted o (yielded ops a.tmps)=true then Oper.wp P o a w K' Q else K' (a.put o.dst undef) w)
 (hs:NmR P ops Q S W n lst a w rs):NmR P ops Q S W n lst a w (i :: rs):=fun j hj=>by
 rcases List.mem_cons.1 hj with rfl|hj
 ·exact wpOp_step ho (fun K' hK=>h K' (fun a w hS hW=>hK a w ⟨hS,hl ▸ hW⟩))
 ·exact hs j hj
theorem Nm.step(hN:Nm P md ops Q S W)(rs:List Nat){n:Nat}{lst:Array Bool}{a:Act}{w:World}(hr:Region.ready md ops lst=rs)(hne:rs≠ [])(h:NmR P ops Q S W n lst a w rs):W (n+1) lst a w:=by
 refine(hN _ _ _ _).1 (wpAnyH_all hr hne (fun i hi=>?_))
 have e:(fun a' w'=>S w'∧wpAnyH P md ops Q S n (lst.setIfInBounds i true) a' w')=(fun a' w'=>S w'∧W n (lst.setIfInBounds i true) a' w'):=by
  funext a' w'
  rw[propext (hN n (lst.setIfInBounds i true) a' w')]
 rw[e]
 exact h i hi
end
end Go.Proofs.YtpmjcjoeckajgaaGreatDoor
