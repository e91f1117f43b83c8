/- The reference's ReplayMake. -/
import Derived.Test.YtdpoicfciogfnaaDoorZRun
import Derived.Test.YtdpoicfciogfnaaDoorZPart
import Derived.Test.YtdpoicfciogfnaaDoorZDraw
import Derived.Deep.RegionHeld3
namespace Go.Proofs.YtdpoicfciogfnaaDoor
open Go.ChangeShapes Go.WideShapes Go.ChangeAt Go.RowKit
/-- A call hands back a replay (its two slices the call's own) and whether it is one. -/
def RetRepB (r : Rep) (b : Bool) (w : World) (e : Ending) (w' : World) : Prop :=
  ∃ A c A' c', e = .returned (.tuple #[.agg #[.int .i64 r.lv, .int .i64 r.pl, .int .i64 r.sc, .slice A r.ins.length c, .slice A' r.hs.length c', .int .i64 r.tag], .bool b]) ∧ Own w' w.heap.size 68 3 encInp (.slice A r.ins.length c) r.ins ∧ Own w' w.heap.size 3 1 encInt (.slice A' r.hs.length c') r.hs ∧ Below w.heap.size w w' ∧
    (∀ g g', (Value.slice A r.ins.length c).ownBlock = some g → (Value.slice A' r.hs.length c').ownBlock = some g' → g ≠ g')
theorem keepLS {w : World} {g : Nat} {t : TypeId} {v0 v1 v2 v3 v4 v5 v6 v7 v8 v9 v10 : Value} (h : Bk w g t #[v0, v1, v2, v3, v4, v5, v6, v7, v8, v9, v10]) : w.cell? ⟨g, 0, none⟩ = some v0 ∧ w.cell? ⟨g, 1, none⟩ = some v1 ∧ w.cell? ⟨g, 2, none⟩ = some v2 ∧ w.cell? ⟨g, 3, none⟩ = some v3 ∧ w.cell? ⟨g, 4, none⟩ = some v4 ∧ w.cell? ⟨g, 5, none⟩ = some v5 ∧ w.cell? ⟨g, 6, none⟩ = some v6 ∧ w.cell? ⟨g, 7, none⟩ = some v7 ∧ w.cell? ⟨g, 8, none⟩ = some v8 ∧ w.cell? ⟨g, 9, none⟩ = some v9 ∧ w.cell? ⟨g, 10, none⟩ = some v10 := ⟨h.cell 0, h.cell 1, h.cell 2, h.cell 3, h.cell 4, h.cell 5, h.cell 6, h.cell 7, h.cell 8, h.cell 9, h.cell 10⟩
/-- What stands in the midst of ReplayMake. -/
structure MkS (l : Lev) (A A' : Option Addr) (c c' : Nat) (w u : World) : Prop where
  L : Bk u w.heap.size 87 #[.int .i64 l.id, .int .i64 l.ticks, .int .i64 l.start.x, .int .i64 l.start.y, .slice A l.walls.length c, .slice A' l.gates.length c', .int .i64 l.fin.lo.x, .int .i64 l.fin.lo.y, .int .i64 l.fin.hi.x, .int .i64 l.fin.hi.y, .int .i64 l.bans]
  R : Bk u (w.heap.size + 1) 30 #[.int .i64 0, .int .i64 0, .int .i64 0, .slice none 0 0, .slice none 0 0, .int .i64 0]
  d : Below w.heap.size w u
  z : w.heap.size + 1 < u.heap.size
section
variable {l : Lev} {A A' : Option Addr} {c c' : Nat} {w u u' : World}
theorem MkS.later (h : MkS l A A' c c' w u) (hb : Below u.heap.size u u') : MkS l A A' c c' w u' := ⟨h.L.later hb, h.R.later hb, below_after h.d hb, Nat.lt_of_lt_of_le h.z hb.size⟩
theorem MkS.alloc (h : MkS l A A' c c' w u) (o : Obj) : MkS l A A' c c' w (u.alloc o) := h.later (below_alloc (Below.refl _ _) o)
theorem MkS.drew (h : MkS l A A' c c' w u) : MkS l A A' c c' w u.drew := h.later (below_drew (Below.refl _ _))
theorem MkS.own {row : Option Nat} (h : MkS l A A' c c' w u) (hg : u.grownBy u' row) (h0 : ∀ g, row = some g → w.heap.size + 1 < g) : MkS l A A' c c' w u' :=
  ⟨h.L.grown hg (by intro e; have := h0 _ e.symm; omega), h.R.grown hg (by intro e; have := h0 _ e.symm; omega), h.d.grown hg h.d.size (fun k e => by have := h0 k e; omega), Nat.lt_of_lt_of_le h.z hg.size⟩
end
theorem Own.ne {α : Type} {w : World} {B X : Nat} {T T' : TypeId} {sz : Nat} {enc : α → List Value} {v : Value} {l : List α} {cs : Array Value} (h : Own w B T sz enc v l) (hb : Bk w X T' cs) (hT : T ≠ T') : ∀ g, v.ownBlock = some g → g ≠ X := by
  intro g e e2
  subst e2
  rcases h.2 with ⟨rfl, _⟩ | ⟨g2, cap, cur, rfl, hB, hgg, rest⟩
  · cases e
  · simp only [Value.ownBlock, Option.some.injEq] at e
    subst e
    unfold Bk at hb
    rw [hgg] at hb
    injection hb with hb
    injection hb with _ h2
    exact hT h2
/-- A region's walk, named: so that what is shown of it can be said in a 'have'. -/
def Nm (P : Program) (md : Region.Mode) (ops : Array Oper) (Q : Exit → Act → World → Prop) (S : World → Prop) (W : Nat → Array Bool → Act → World → Prop) : Prop := ∀ n l a w, wpAnyH P md ops Q S n l a w ↔ W n l a w
section
variable {P : Program} {md : Region.Mode} {ops : Array Oper} {Q : Exit → Act → World → Prop} {S : World → Prop} {W : Nat → Array Bool → Act → World → Prop}
theorem wpAnyH_named {n n' : Nat} {lst lst' : Array Bool} {a : Act} {w : World} (hn : n = n') (hl : lst = lst')
    (h : ∀ W : Nat → Array Bool → Act → World → Prop, Nm P md ops Q S W → W n' lst' a w) : wpAnyH P md ops Q S n lst a w := by
  subst hn; subst hl
  exact h _ (fun _ _ _ _ => Iff.rfl)
theorem Nm.take (hN : Nm P md ops Q S W) (i n t : Nat) {oi : Oper} {v : Value} {lst lst' : Array Bool} {ts : Array Value} {df : List Deferred} {w : World} (hi : ops[i]? = some oi)
    (hs : Region.noSelect ops = true) (hf : Region.free md ops lst i = true) (hr : (Region.ready md ops lst).contains i = true) (hQ : ∀ c a w, Q (.panic c) (a.put oi.dst v) w → Q (.panic c) a w) (hd : oi.dst = some t)
    (hl : lst.setIfInBounds i true = lst') (hy : YieldsIf P ops S oi v ⟨ts, df⟩) (hS : S w) (h : W n lst' ⟨ts.setIfInBounds t v, df⟩ w) : W (n + 1) lst ⟨ts, df⟩ w := by
  refine (hN _ _ _ _).1 (wpAnyH_take hi hs hf hr hQ hy hS ?_)
  rw [hd, hl]
  exact (hN _ _ _ _).2 h
def NmR (P : Program) (ops : Array Oper) (Q : Exit → Act → World → Prop) (S : World → Prop) (W : Nat → Array Bool → Act → World → Prop) (n : Nat) (lst : Array Bool) (a : Act) (w : World) (rs : List Nat) : Prop :=
  ∀ i ∈ rs, wpOp P ops Q i (fun a' w' => S w' ∧ W n (lst.setIfInBounds i true) a' w') a w
theorem NmR.nil {n : Nat} {lst : Array Bool} {a : Act} {w : World} : NmR P ops Q S W n lst a w [] := fun _ h => by cases h
theorem NmR.cons {n i : Nat} {lst lst' : Array Bool} {a : Act} {w : World} {o : Oper} {rs : List Nat} (ho : ops[i]? = some o) (hl : lst.setIfInBounds i true = lst')
    (h : ∀ K' : Act → World → Prop, Shut (∀ a w, S w → W n lst' a w → K' a w) → if Region.wanted o (yielded ops a.tmps) = true then Oper.wp P o a w K' Q else K' (a.put o.dst undef) w)
    (hs : NmR P ops Q S W n lst a w rs) : NmR P ops Q S W n lst a w (i :: rs) := fun j hj => by
  rcases List.mem_cons.1 hj with rfl | hj
  · exact wpOp_step ho (fun K' hK => h K' (fun a w hS hW => hK a w ⟨hS, hl ▸ hW⟩))
  · exact hs j hj
theorem Nm.step (hN : Nm P md ops Q S W) (rs : List Nat) {n : Nat} {lst : Array Bool} {a : Act} {w : World} (hr : Region.ready md ops lst = rs) (hne : rs ≠ []) (h : NmR P ops Q S W n lst a w rs) : W (n + 1) lst a w := by
  refine (hN _ _ _ _).1 (wpAnyH_all hr hne (fun i hi => ?_))
  have e : (fun a' w' => S w' ∧ wpAnyH P md ops Q S n (lst.setIfInBounds i true) a' w') = (fun a' w' => S w' ∧ W n (lst.setIfInBounds i true) a' w') := by
    funext a' w'
    rw [propext (hN n (lst.setIfInBounds i true) a' w')]
  rw [e]
  exact h i hi
end
def zr : Array Value := #[.int .i64 0, .int .i64 0, .int .i64 0, .slice none 0 0, .slice none 0 0, .int .i64 0]
set_option linter.unusedSimpArgs false in
set_option linter.unusedVariables false in
set_option maxRecDepth 100000 in
set_option maxHeartbeats 40000000 in
theorem specReplayMake_any (l : Lev) (pl key : Int) (ins : List Inp) (A A' A2 : Option Addr) (c c' c2 : Nat) (w : World) (h : Sl w 4 encBx A l.walls.length l.walls) (hg : Sl w 4 encBx A' l.gates.length l.gates) (hs : Sl w 3 encInp A2 ins.length ins) (hA2 : A2 = none → c2 = 0)
    (hn : (l.walls.length : Nat) ≤ 9223372036854775807) (hn' : (l.gates.length : Nat) ≤ 9223372036854775807) (hni : ins.length ≤ 9000000000000000000) :
    Calls Tryd.prog 73 #[.agg #[.int .i64 l.id, .int .i64 l.ticks, .int .i64 l.start.x, .int .i64 l.start.y, .slice A l.walls.length c, .slice A' l.gates.length c', .int .i64 l.fin.lo.x, .int .i64 l.fin.lo.y, .int .i64 l.fin.hi.x, .int .i64 l.fin.hi.y, .int .i64 l.bans], .int .i64 pl, .int .i64 key, .slice A2 ins.length c2] w (RetRepB (makeR l pl key ins) (makeOk l pl key ins) w) := by
  cases hok : makeOk l pl key ins
  · have hR : Hid (makeR l pl key ins = zeroRep) := Lib.hid (by unfold makeR; rw [hok]; rfl)
    rw [hR.out]
    unfold makeOk at hok
    cases h1 : runOk l ins
    · go_enter Tryd.func73, Tryd.ntmps73
      go_wp2_with fail
      refine (l21Ok_any l ins _ _ _ _ _ _ _ (h.below (by (with_reducible repeat first | exact bl0 _ _ | refine blA ?_ _ | (refine blS ?_ ?_ _; (simp <;> omega)) | refine blD ?_ | refine blN ?_ _ | refine blF ?_ ‹_›))) (hg.below (by (with_reducible repeat first | exact bl0 _ _ | refine blA ?_ _ | (refine blS ?_ ?_ _; (simp <;> omega)) | refine blD ?_ | refine blN ?_ _ | refine blF ?_ ‹_›))) (hs.below (by (with_reducible repeat first | exact bl0 _ _ | refine blA ?_ _ | (refine blS ?_ ?_ _; (simp <;> omega)) | refine blD ?_ | refine blN ?_ _ | refine blF ?_ ‹_›))) hn hn' (by omega)).mono ?_
      rw [h1]
      rintro e w1 ⟨rfl, hb1⟩
      have R1 : Bk w1 (w.heap.size + 1) 30 #[.int .i64 0, .int .i64 0, .int .i64 0, .slice none 0 0, .slice none 0 0, .int .i64 0] := by (repeat first | (with_reducible first | assumption | exact kN _ _ _ (by simp) | refine kA ?_ _ | refine kD ?_ | refine kW ?_ _ | apply Bk.set' | refine kF ?_ (by simp <;> omega) _ | refine kL ?_ ‹_› | refine kG ?_ ‹_› (by first | omega | simp <;> omega)) | exact ⟨by with_reducible rfl⟩ | exact ⟨by simp⟩)
      have L1 : Bk w1 w.heap.size 87 #[.int .i64 l.id, .int .i64 l.ticks, .int .i64 l.start.x, .int .i64 l.start.y, .slice A l.walls.length c, .slice A' l.gates.length c', .int .i64 l.fin.lo.x, .int .i64 l.fin.lo.y, .int .i64 l.fin.hi.x, .int .i64 l.fin.hi.y, .int .i64 l.bans] := by (repeat first | (with_reducible first | assumption | exact kN _ _ _ (by simp) | refine kA ?_ _ | refine kD ?_ | refine kW ?_ _ | apply Bk.set' | refine kF ?_ (by simp <;> omega) _ | refine kL ?_ ‹_› | refine kG ?_ ‹_› (by first | omega | simp <;> omega)) | exact ⟨by with_reducible rfl⟩ | exact ⟨by simp⟩)
      have zR := R1.lt
      obtain ⟨⟨r0, r1, r2, r3, r4, r5⟩, rf⟩ := R1.c6
      go_wp2
      exact bodyPost_ret (v := .tuple #[.agg #[.int .i64 0, .int .i64 0, .int .i64 0, .slice none 0 0, .slice none 0 0, .int .i64 0], .bool false]) (by simp [results, Tryd.results73, go_sem, *]) rfl ⟨none, 0, none, 0, rfl, Own.none_, Own.none_, by (with_reducible repeat first | exact bl0 _ _ | refine blA ?_ _ | (refine blS ?_ ?_ _; (simp <;> omega)) | refine blD ?_ | refine blN ?_ _ | refine blF ?_ ‹_›), fun g g' e => by cases e⟩
    · rw [h1] at hok
      cases h2 : inR 0 9 pl
      · go_enter Tryd.func73, Tryd.ntmps73
        go_wp2_with fail
        refine (l21Ok_any l ins _ _ _ _ _ _ _ (h.below (by (with_reducible repeat first | exact bl0 _ _ | refine blA ?_ _ | (refine blS ?_ ?_ _; (simp <;> omega)) | refine blD ?_ | refine blN ?_ _ | refine blF ?_ ‹_›))) (hg.below (by (with_reducible repeat first | exact bl0 _ _ | refine blA ?_ _ | (refine blS ?_ ?_ _; (simp <;> omega)) | refine blD ?_ | refine blN ?_ _ | refine blF ?_ ‹_›))) (hs.below (by (with_reducible repeat first | exact bl0 _ _ | refine blA ?_ _ | (refine blS ?_ ?_ _; (simp <;> omega)) | refine blD ?_ | refine blN ?_ _ | refine blF ?_ ‹_›))) hn hn' (by omega)).mono ?_
        rw [h1]
        rintro e w1 ⟨rfl, hb1⟩
        have R1 : Bk w1 (w.heap.size + 1) 30 #[.int .i64 0, .int .i64 0, .int .i64 0, .slice none 0 0, .slice none 0 0, .int .i64 0] := by (repeat first | (with_reducible first | assumption | exact kN _ _ _ (by simp) | refine kA ?_ _ | refine kD ?_ | refine kW ?_ _ | apply Bk.set' | refine kF ?_ (by simp <;> omega) _ | refine kL ?_ ‹_› | refine kG ?_ ‹_› (by first | omega | simp <;> omega)) | exact ⟨by with_reducible rfl⟩ | exact ⟨by simp⟩)
        have L1 : Bk w1 w.heap.size 87 #[.int .i64 l.id, .int .i64 l.ticks, .int .i64 l.start.x, .int .i64 l.start.y, .slice A l.walls.length c, .slice A' l.gates.length c', .int .i64 l.fin.lo.x, .int .i64 l.fin.lo.y, .int .i64 l.fin.hi.x, .int .i64 l.fin.hi.y, .int .i64 l.bans] := by (repeat first | (with_reducible first | assumption | exact kN _ _ _ (by simp) | refine kA ?_ _ | refine kD ?_ | refine kW ?_ _ | apply Bk.set' | refine kF ?_ (by simp <;> omega) _ | refine kL ?_ ‹_› | refine kG ?_ ‹_› (by first | omega | simp <;> omega)) | exact ⟨by with_reducible rfl⟩ | exact ⟨by simp⟩)
        have zR := R1.lt
        obtain ⟨⟨r0, r1, r2, r3, r4, r5⟩, rf⟩ := R1.c6
        go_wp2_with (go_at_call 38; refine (l6In_r _ _ _ _).mono ?_; rw [h2]; rintro e w2 ⟨rfl, rfl⟩)
        go_wp2
        exact bodyPost_ret (v := .tuple #[.agg #[.int .i64 0, .int .i64 0, .int .i64 0, .slice none 0 0, .slice none 0 0, .int .i64 0], .bool false]) (by simp [results, Tryd.results73, go_sem, *]) rfl ⟨none, 0, none, 0, rfl, Own.none_, Own.none_, by (with_reducible repeat first | exact bl0 _ _ | refine blA ?_ _ | (refine blS ?_ ?_ _; (simp <;> omega)) | refine blD ?_ | refine blN ?_ _ | refine blF ?_ ‹_›), fun g g' e => by cases e⟩
      · have h3 : inR 1 9999 key = false := by rw [h2] at hok; simpa using hok
        go_enter Tryd.func73, Tryd.ntmps73
        go_wp2_with fail
        refine (l21Ok_any l ins _ _ _ _ _ _ _ (h.below (by (with_reducible repeat first | exact bl0 _ _ | refine blA ?_ _ | (refine blS ?_ ?_ _; (simp <;> omega)) | refine blD ?_ | refine blN ?_ _ | refine blF ?_ ‹_›))) (hg.below (by (with_reducible repeat first | exact bl0 _ _ | refine blA ?_ _ | (refine blS ?_ ?_ _; (simp <;> omega)) | refine blD ?_ | refine blN ?_ _ | refine blF ?_ ‹_›))) (hs.below (by (with_reducible repeat first | exact bl0 _ _ | refine blA ?_ _ | (refine blS ?_ ?_ _; (simp <;> omega)) | refine blD ?_ | refine blN ?_ _ | refine blF ?_ ‹_›))) hn hn' (by omega)).mono ?_
        rw [h1]
        rintro e w1 ⟨rfl, hb1⟩
        have R1 : Bk w1 (w.heap.size + 1) 30 #[.int .i64 0, .int .i64 0, .int .i64 0, .slice none 0 0, .slice none 0 0, .int .i64 0] := by (repeat first | (with_reducible first | assumption | exact kN _ _ _ (by simp) | refine kA ?_ _ | refine kD ?_ | refine kW ?_ _ | apply Bk.set' | refine kF ?_ (by simp <;> omega) _ | refine kL ?_ ‹_› | refine kG ?_ ‹_› (by first | omega | simp <;> omega)) | exact ⟨by with_reducible rfl⟩ | exact ⟨by simp⟩)
        have L1 : Bk w1 w.heap.size 87 #[.int .i64 l.id, .int .i64 l.ticks, .int .i64 l.start.x, .int .i64 l.start.y, .slice A l.walls.length c, .slice A' l.gates.length c', .int .i64 l.fin.lo.x, .int .i64 l.fin.lo.y, .int .i64 l.fin.hi.x, .int .i64 l.fin.hi.y, .int .i64 l.bans] := by (repeat first | (with_reducible first | assumption | exact kN _ _ _ (by simp) | refine kA ?_ _ | refine kD ?_ | refine kW ?_ _ | apply Bk.set' | refine kF ?_ (by simp <;> omega) _ | refine kL ?_ ‹_› | refine kG ?_ ‹_› (by first | omega | simp <;> omega)) | exact ⟨by with_reducible rfl⟩ | exact ⟨by simp⟩)
        have zR := R1.lt
        obtain ⟨⟨r0, r1, r2, r3, r4, r5⟩, rf⟩ := R1.c6
        go_wp2_with fail
        refine (l6In_r _ _ _ _).mono ?_
        rw [h2]
        rintro e w2 ⟨rfl, rfl⟩
        go_wp2_with fail
        refine (l6In_r _ _ _ _).mono ?_
        rw [h3]
        rintro e w2 ⟨rfl, rfl⟩
        go_wp2
        exact bodyPost_ret (v := .tuple #[.agg #[.int .i64 0, .int .i64 0, .int .i64 0, .slice none 0 0, .slice none 0 0, .int .i64 0], .bool false]) (by simp [results, Tryd.results73, go_sem, *]) rfl ⟨none, 0, none, 0, rfl, Own.none_, Own.none_, by (with_reducible repeat first | exact bl0 _ _ | refine blA ?_ _ | (refine blS ?_ ?_ _; (simp <;> omega)) | refine blD ?_ | refine blN ?_ _ | refine blF ?_ ‹_›), fun g g' e => by cases e⟩
  · obtain ⟨h1, h2, h3⟩ := makeOk_iff.1 hok
    have hR : Hid (makeR l pl key ins = makeRep l pl key ins) := Lib.hid (by unfold makeR; rw [hok]; rfl)
    rw [hR.out]
    have h2b := inR_iff.2 h2
    have h3b := inR_iff.2 h3
    have hbase := Lib.hid (baseRep_ok h1 h2)
    obtain ⟨hLG, hl60, _, _, _⟩ := runOk_bd h1
    have hH1 := hashesR_len h1
    have hHl : (hashesR l ins).length ≤ 12 := by omega
    have hsc := scoreR_bd l ins
    have hkey : int64 key := by unfold int64; omega
    obtain ⟨i0, hi, hz0, hz1, hz2⟩ := info_parts Tryd.infoInp
    clear hok hH1
    go_enter Tryd.func73, Tryd.ntmps73
    go_wp2_with fail
    refine (l21Ok_any l ins _ _ _ _ _ _ _ (h.below (by (with_reducible repeat first | exact bl0 _ _ | refine blA ?_ _ | (refine blS ?_ ?_ _; (simp <;> omega)) | refine blD ?_ | refine blN ?_ _ | refine blF ?_ ‹_›))) (hg.below (by (with_reducible repeat first | exact bl0 _ _ | refine blA ?_ _ | (refine blS ?_ ?_ _; (simp <;> omega)) | refine blD ?_ | refine blN ?_ _ | refine blF ?_ ‹_›))) (hs.below (by (with_reducible repeat first | exact bl0 _ _ | refine blA ?_ _ | (refine blS ?_ ?_ _; (simp <;> omega)) | refine blD ?_ | refine blN ?_ _ | refine blF ?_ ‹_›))) hn hn' (by omega)).mono ?_
    rw [h1]
    rintro e w1 ⟨rfl, hb1⟩
    have R1 : Bk w1 (w.heap.size + 1) 30 #[.int .i64 0, .int .i64 0, .int .i64 0, .slice none 0 0, .slice none 0 0, .int .i64 0] := by (repeat first | (with_reducible first | assumption | exact kN _ _ _ (by simp) | refine kA ?_ _ | refine kD ?_ | refine kW ?_ _ | apply Bk.set' | refine kF ?_ (by simp <;> omega) _ | refine kL ?_ ‹_› | refine kG ?_ ‹_› (by first | omega | simp <;> omega)) | exact ⟨by with_reducible rfl⟩ | exact ⟨by simp⟩)
    have L1 : Bk w1 w.heap.size 87 #[.int .i64 l.id, .int .i64 l.ticks, .int .i64 l.start.x, .int .i64 l.start.y, .slice A l.walls.length c, .slice A' l.gates.length c', .int .i64 l.fin.lo.x, .int .i64 l.fin.lo.y, .int .i64 l.fin.hi.x, .int .i64 l.fin.hi.y, .int .i64 l.bans] := by (repeat first | (with_reducible first | assumption | exact kN _ _ _ (by simp) | refine kA ?_ _ | refine kD ?_ | refine kW ?_ _ | apply Bk.set' | refine kF ?_ (by simp <;> omega) _ | refine kL ?_ ‹_› | refine kG ?_ ‹_› (by first | omega | simp <;> omega)) | exact ⟨by with_reducible rfl⟩ | exact ⟨by simp⟩)
    have zR := R1.lt
    obtain ⟨⟨r0, r1, r2, r3, r4, r5⟩, rf⟩ := R1.c6
    go_wp2_with fail
    refine (l6In_r _ _ _ _).mono ?_
    rw [h2b]
    rintro e w2 ⟨rfl, rfl⟩
    go_wp2_with fail
    refine (l6In_r _ _ _ _).mono ?_
    rw [h3b]
    rintro e w2 ⟨rfl, rfl⟩
    have hd1 : Below w.heap.size w w1 := by (with_reducible repeat first | exact bl0 _ _ | refine blA ?_ _ | (refine blS ?_ ?_ _; (simp <;> omega)) | refine blD ?_ | refine blN ?_ _ | refine blF ?_ ‹_›)
    have zL := L1.lt
    have hz1' := hd1.size
    obtain ⟨⟨l0, l1, l2, l3, l4, l5, l6, l7, l8, l9, l10⟩, lf⟩ := L1.c11
    clear hb1 h2b h3b
    obtain ⟨mx, hmx⟩ : ∃ mx : Int, (if scoreR l ins < 0 then (0 : Int) else scoreR l ins) = mx := ⟨_, rfl⟩
    have HMX : Hid (max (scoreR l ins) 0 = mx) := Lib.hid (by rw [← hmx]; split <;> omega)
    have hni' : ins.length ≤ 9223372036854775807 := by omega
    have hb63 : ([] : List Inp).length + ins.length ≤ maxLen := by have e0 : ([] : List Inp).length = 0 := rfl; unfold maxLen; omega
    have hb48 : (([] : List Inp).length + ins.length) * 24 ≤ 140737488355328 := by have e0 : ([] : List Inp).length = 0 := rfl; omega
    go_upto_region 3 with fail
    go_cut [10] from 11 (fun rp wc => ∃ (X : Nat) (A8 A11 : Option Addr) (c8 c11 : Nat), rp = .pointer (some ⟨X, 0, none⟩) ∧ Bk wc X 30 #[.int .i64 l.id, .int .i64 pl, .int .i64 mx, .slice A8 ins.length c8, .slice A11 (hashesR l ins).length c11, .int .i64 0] ∧ Bk wc (w.heap.size + 1) 30 #[.int .i64 0, .int .i64 0, .int .i64 0, .slice none 0 0, .slice none 0 0, .int .i64 0] ∧ Own wc (w.heap.size + 1 + 1) 68 3 encInp (.slice A8 ins.length c8) ins ∧ Own wc (w.heap.size + 1 + 1) 3 1 encInt (.slice A11 (hashesR l ins).length c11) (hashesR l ins) ∧ (∀ g g', (Value.slice A8 ins.length c8).ownBlock = some g → (Value.slice A11 (hashesR l ins).length c11).ownBlock = some g' → g ≠ g') ∧ (∀ g, (Value.slice A8 ins.length c8).ownBlock = some g → g ≠ X) ∧ (∀ g, (Value.slice A11 (hashesR l ins).length c11).ownBlock = some g → g ≠ X) ∧ w.heap.size + 1 < X ∧ Below w.heap.size w wc)
    case first =>
      have M1 : MkS l A A' c c' w w1 := ⟨L1, R1, hd1, by omega⟩
      have z1 := M1.z
      clear L1 R1 hd1 hsc hHl zL zR hz1' r0 r1 r2 r3 r4 r5 rf hkey h1 h2 h3
      refine wp_region_noPanic ?_
      refine wp_region_held_drew (S := (fun w' => w'.cell? ⟨w.heap.size, 0, none⟩ = some (.int .i64 l.id) ∧ w'.cell? ⟨w.heap.size, 1, none⟩ = some (.int .i64 l.ticks) ∧ w'.cell? ⟨w.heap.size, 2, none⟩ = some (.int .i64 l.start.x) ∧ w'.cell? ⟨w.heap.size, 3, none⟩ = some (.int .i64 l.start.y) ∧ w'.cell? ⟨w.heap.size, 4, none⟩ = some (.slice A l.walls.length c) ∧ w'.cell? ⟨w.heap.size, 5, none⟩ = some (.slice A' l.gates.length c') ∧ w'.cell? ⟨w.heap.size, 6, none⟩ = some (.int .i64 l.fin.lo.x) ∧ w'.cell? ⟨w.heap.size, 7, none⟩ = some (.int .i64 l.fin.lo.y) ∧ w'.cell? ⟨w.heap.size, 8, none⟩ = some (.int .i64 l.fin.hi.x) ∧ w'.cell? ⟨w.heap.size, 9, none⟩ = some (.int .i64 l.fin.hi.y) ∧ w'.cell? ⟨w.heap.size, 10, none⟩ = some (.int .i64 l.bans))) (by kernel_rfl) (keepLS M1.drew.L) (fun hHeld => ?_)
      refine wpAnyH_named (n' := 16) (lst' := #[false, false, false, false, false, false, false, false, false, false, false, false, false, false, false, false]) rfl (by kernel_rfl) (fun W hN => ?_)
      refine hN.take 0 15 26 (v := ?_) (lst' := #[true, false, false, false, false, false, false, false, false, false, false, false, false, false, false, false]) (by rfl) (by kernel_rfl) (by kernel_rfl) (by kernel_rfl) (fun _ _ _ h => h) rfl (by kernel_rfl) (Or.inl ⟨by rfl, ?yTk0⟩) hHeld ?_
      case yTk0 => (intro w hSw; (try dsimp only at hSw); go_simp; (try with_reducible rfl))
      try simp only [List.setIfInBounds_toArray, List.set_cons_zero, List.set_cons_succ]
      refine hN.take 1 14 27 (v := ?_) (lst' := #[true, true, false, false, false, false, false, false, false, false, false, false, false, false, false, false]) (by rfl) (by kernel_rfl) (by kernel_rfl) (by kernel_rfl) (fun _ _ _ h => h) rfl (by kernel_rfl) (Or.inl ⟨by rfl, ?yTk1⟩) hHeld ?_
      case yTk1 => (intro w hSw; (try dsimp only at hSw); go_simp; (try with_reducible rfl))
      try simp only [List.setIfInBounds_toArray, List.set_cons_zero, List.set_cons_succ]
      refine hN.take 2 13 28 (v := ?_) (lst' := #[true, true, true, false, false, false, false, false, false, false, false, false, false, false, false, false]) (by rfl) (by kernel_rfl) (by kernel_rfl) (by kernel_rfl) (fun _ _ _ h => h) rfl (by kernel_rfl) (Or.inl ⟨by rfl, ?yTk2⟩) hHeld ?_
      case yTk2 => (intro w hSw; (try dsimp only at hSw); go_simp; (try with_reducible rfl))
      try simp only [List.setIfInBounds_toArray, List.set_cons_zero, List.set_cons_succ]
      refine hN.take 3 12 29 (v := ?_) (lst' := #[true, true, true, true, false, false, false, false, false, false, false, false, false, false, false, false]) (by rfl) (by kernel_rfl) (by kernel_rfl) (by kernel_rfl) (fun _ _ _ h => h) rfl (by kernel_rfl) (Or.inl ⟨by rfl, ?yTk3⟩) hHeld ?_
      case yTk3 => (intro w hSw; (try dsimp only at hSw); go_simp; (try with_reducible rfl))
      try simp only [List.setIfInBounds_toArray, List.set_cons_zero, List.set_cons_succ]
      refine hN.take 4 11 30 (v := ?_) (lst' := #[true, true, true, true, true, false, false, false, false, false, false, false, false, false, false, false]) (by rfl) (by kernel_rfl) (by kernel_rfl) (by kernel_rfl) (fun _ _ _ h => h) rfl (by kernel_rfl) (Or.inl ⟨by rfl, ?yTk4⟩) hHeld ?_
      case yTk4 => (intro w hSw; (try dsimp only at hSw); go_simp; (try with_reducible rfl))
      try simp only [List.setIfInBounds_toArray, List.set_cons_zero, List.set_cons_succ]
      refine hN.take 8 10 34 (v := ?_) (lst' := #[true, true, true, true, true, false, false, false, true, false, false, false, false, false, false, false]) (by rfl) (by kernel_rfl) (by kernel_rfl) (by kernel_rfl) (fun _ _ _ h => h) rfl (by kernel_rfl) (Or.inl ⟨by rfl, ?yTk8⟩) hHeld ?_
      case yTk8 => (intro w hSw; (try dsimp only at hSw); go_simp; (try with_reducible rfl))
      try simp only [List.setIfInBounds_toArray, List.set_cons_zero, List.set_cons_succ]
      refine hN.take 10 9 36 (v := ?_) (lst' := #[true, true, true, true, true, false, false, false, true, false, true, false, false, false, false, false]) (by rfl) (by kernel_rfl) (by kernel_rfl) (by kernel_rfl) (fun _ _ _ h => h) rfl (by kernel_rfl) (Or.inl ⟨by rfl, ?yTk10⟩) hHeld ?_
      case yTk10 => (intro w hSw; (try dsimp only at hSw); go_simp; (try with_reducible rfl))
      try simp only [List.setIfInBounds_toArray, List.set_cons_zero, List.set_cons_succ]
      refine hN.take 11 8 37 (v := ?_) (lst' := #[true, true, true, true, true, false, false, false, true, false, true, true, false, false, false, false]) (by rfl) (by kernel_rfl) (by kernel_rfl) (by kernel_rfl) (fun _ _ _ h => h) rfl (by kernel_rfl) (Or.inl ⟨by rfl, ?yTk11⟩) hHeld ?_
      case yTk11 => (intro w hSw; (try dsimp only at hSw); go_simp; (try with_reducible rfl))
      try simp only [List.setIfInBounds_toArray, List.set_cons_zero, List.set_cons_succ]
      have N311 : ∀ (u : World) (v7 : Value) (A8 : Option Addr) (c8 : Nat) (A11 : Option Addr) (c11 : Nat) (X : Nat) (M : MkS l A A' c c' w u) (O : Own u (w.heap.size + 1 + 1) 68 3 encInp (.slice A8 ins.length c8) ins) (H : Own u (w.heap.size + 1 + 1) 3 1 encInt (.slice A11 (hashesR l ins).length c11) (hashesR l ins)) (hsep : ∀ g g', (Value.slice A8 ins.length c8).ownBlock = some g → (Value.slice A11 (hashesR l ins).length c11).ownBlock = some g' → g ≠ g') (B : Bk u X 30 #[.int .i64 0, .int .i64 0, .int .i64 0, .slice none 0 0, .slice none 0 0, .int .i64 0]) (zX : w.heap.size + 1 < X), W 1 #[true, true, true, true, true, true, true, true, true, true, true, true, true, true, true, false] ⟨#[.agg #[.int .i64 l.id, .int .i64 l.ticks, .int .i64 l.start.x, .int .i64 l.start.y, .slice A l.walls.length c, .slice A' l.gates.length c', .int .i64 l.fin.lo.x, .int .i64 l.fin.lo.y, .int .i64 l.fin.hi.x, .int .i64 l.fin.hi.y, .int .i64 l.bans], .int .i64 pl, .int .i64 key, .slice A2 ins.length c2, .pointer (some ⟨w.heap.size, 0, none⟩), undef, undef, undef, .pointer (some ⟨w.heap.size + 1, 0, none⟩), .bool false, .pointer (some ⟨X, 0, none⟩), .agg #[.int .i64 l.id, .int .i64 l.ticks, .int .i64 l.start.x, .int .i64 l.start.y, .slice A l.walls.length c, .slice A' l.gates.length c', .int .i64 l.fin.lo.x, .int .i64 l.fin.lo.y, .int .i64 l.fin.hi.x, .int .i64 l.fin.hi.y, .int .i64 l.bans], .slice A2 ins.length c2, .bool true, .bool false, .bool false, .int .i64 pl, .bool true, .bool false, .bool false, .bool false, .int .i64 key, .bool true, .bool false, .bool false, undef, .pointer (some ⟨w.heap.size, 0, none⟩), .int .i64 l.id, .int .i64 pl, .agg #[.int .i64 l.id, .int .i64 l.ticks, .int .i64 l.start.x, .int .i64 l.start.y, .slice A l.walls.length c, .slice A' l.gates.length c', .int .i64 l.fin.lo.x, .int .i64 l.fin.lo.y, .int .i64 l.fin.hi.x, .int .i64 l.fin.hi.y, .int .i64 l.bans], .slice A2 ins.length c2, .int .i64 (scoreR l ins), .int .i64 mx, v7, .slice A2 ins.length c2, .slice A8 ins.length c8, .agg #[.int .i64 l.id, .int .i64 l.ticks, .int .i64 l.start.x, .int .i64 l.start.y, .slice A l.walls.length c, .slice A' l.gates.length c', .int .i64 l.fin.lo.x, .int .i64 l.fin.lo.y, .int .i64 l.fin.hi.x, .int .i64 l.fin.hi.y, .int .i64 l.bans], .slice A2 ins.length c2, .slice A11 (hashesR l ins).length c11, .agg #[.int .i64 l.id, .int .i64 pl, .int .i64 mx, .slice A8 ins.length c8, .slice A11 (hashesR l ins).length c11, .int .i64 0], undef, undef, undef, undef, undef, undef], []⟩ u := by
        intro u v7 A8 c8 A11 c11 X M O H hsep B zX
        have z := M.z
        have hHeld := keepLS M.L
        have zB := B.lt
        obtain ⟨⟨n0, n1, n2, n3, n4, n5⟩, nf⟩ := B.c6
        refine hN.step [15] (by kernel_rfl) (by simp) ?_
        refine NmR.cons (lst' := #[true, true, true, true, true, true, true, true, true, true, true, true, true, true, true, true]) (by rfl) (by kernel_rfl) (fun K hK => ?_) NmR.nil
        go_simp
        refine hK.out _ _ ?_ ?_
        · exact keepLS (t := 87) (by have L1 := M.L; (repeat first | (with_reducible first | assumption | exact kN _ _ _ (by simp) | refine kA ?_ _ | refine kD ?_ | refine kW ?_ _ | apply Bk.set' | refine kF ?_ (by simp <;> omega) _ | refine kL ?_ ‹_› | refine kG ?_ ‹_› (by first | omega | simp <;> omega)) | exact ⟨by with_reducible rfl⟩ | exact ⟨by simp⟩))
        try simp only [Act.put, List.setIfInBounds_toArray, List.set_cons_zero, List.set_cons_succ]
        refine (hN _ _ _ _).1 (wpAnyH_done (by kernel_rfl) ?_ _)
        refine NoPanic.normal ?_
        clear hN hHeld
        go_wp2_with fail
        go_meet
        have hX8 := O.ne B (by decide)
        have hXH := H.ne B (by decide)
        have d11 := M.d
        exact ⟨X, A8, A11, c8, c11, rfl, by (repeat first | (with_reducible first | assumption | exact kN _ _ _ (by simp) | refine kA ?_ _ | refine kD ?_ | refine kW ?_ _ | apply Bk.set' | refine kF ?_ (by simp <;> omega) _ | refine kL ?_ ‹_› | refine kG ?_ ‹_› (by first | omega | simp <;> omega)) | exact ⟨by with_reducible rfl⟩ | exact ⟨by simp⟩), (by have R1 := M.R; repeat (first | (with_reducible exact R1) | (with_reducible refine Bk.far ?_ (by first | omega | (simp; done) | (simp; omega)) _))), by (with_reducible repeat first | assumption | refine Own.fars ?_ ‹_› _ | refine Own.alloc ?_ _ | refine Own.drew ?_ | refine Own.drewN ?_ _ | refine Own.set (by first | omega | simp <;> omega) ?_ _ | refine Own.later ?_ ‹_› | refine Own.gk ?_ ‹_› (by omega)), by (with_reducible repeat first | assumption | refine Own.fars ?_ ‹_› _ | refine Own.alloc ?_ _ | refine Own.drew ?_ | refine Own.drewN ?_ _ | refine Own.set (by first | omega | simp <;> omega) ?_ _ | refine Own.later ?_ ‹_› | refine Own.gk ?_ ‹_› (by omega)), hsep, hX8, hXH, zX, by (with_reducible repeat first | assumption | exact bl0 _ _ | refine blA ?_ _ | (refine blS ?_ ?_ _; (simp <;> omega)) | refine blD ?_ | refine blN ?_ _ | refine blF ?_ ‹_›)⟩
      have N310 : ∀ (u : World) (v7 : Value) (A8 : Option Addr) (c8 : Nat) (A11 : Option Addr) (c11 : Nat) (M : MkS l A A' c c' w u) (O : Own u (w.heap.size + 1 + 1) 68 3 encInp (.slice A8 ins.length c8) ins) (H : Own u (w.heap.size + 1 + 1) 3 1 encInt (.slice A11 (hashesR l ins).length c11) (hashesR l ins)) (hsep : ∀ g g', (Value.slice A8 ins.length c8).ownBlock = some g → (Value.slice A11 (hashesR l ins).length c11).ownBlock = some g' → g ≠ g'), W 2 #[true, true, true, true, true, true, true, true, true, true, true, true, true, true, false, false] ⟨#[.agg #[.int .i64 l.id, .int .i64 l.ticks, .int .i64 l.start.x, .int .i64 l.start.y, .slice A l.walls.length c, .slice A' l.gates.length c', .int .i64 l.fin.lo.x, .int .i64 l.fin.lo.y, .int .i64 l.fin.hi.x, .int .i64 l.fin.hi.y, .int .i64 l.bans], .int .i64 pl, .int .i64 key, .slice A2 ins.length c2, .pointer (some ⟨w.heap.size, 0, none⟩), undef, undef, undef, .pointer (some ⟨w.heap.size + 1, 0, none⟩), .bool false, undef, .agg #[.int .i64 l.id, .int .i64 l.ticks, .int .i64 l.start.x, .int .i64 l.start.y, .slice A l.walls.length c, .slice A' l.gates.length c', .int .i64 l.fin.lo.x, .int .i64 l.fin.lo.y, .int .i64 l.fin.hi.x, .int .i64 l.fin.hi.y, .int .i64 l.bans], .slice A2 ins.length c2, .bool true, .bool false, .bool false, .int .i64 pl, .bool true, .bool false, .bool false, .bool false, .int .i64 key, .bool true, .bool false, .bool false, undef, .pointer (some ⟨w.heap.size, 0, none⟩), .int .i64 l.id, .int .i64 pl, .agg #[.int .i64 l.id, .int .i64 l.ticks, .int .i64 l.start.x, .int .i64 l.start.y, .slice A l.walls.length c, .slice A' l.gates.length c', .int .i64 l.fin.lo.x, .int .i64 l.fin.lo.y, .int .i64 l.fin.hi.x, .int .i64 l.fin.hi.y, .int .i64 l.bans], .slice A2 ins.length c2, .int .i64 (scoreR l ins), .int .i64 mx, v7, .slice A2 ins.length c2, .slice A8 ins.length c8, .agg #[.int .i64 l.id, .int .i64 l.ticks, .int .i64 l.start.x, .int .i64 l.start.y, .slice A l.walls.length c, .slice A' l.gates.length c', .int .i64 l.fin.lo.x, .int .i64 l.fin.lo.y, .int .i64 l.fin.hi.x, .int .i64 l.fin.hi.y, .int .i64 l.bans], .slice A2 ins.length c2, .slice A11 (hashesR l ins).length c11, .agg #[.int .i64 l.id, .int .i64 pl, .int .i64 mx, .slice A8 ins.length c8, .slice A11 (hashesR l ins).length c11, .int .i64 0], undef, undef, undef, undef, undef, undef], []⟩ u := by
        intro u v7 A8 c8 A11 c11 M O H hsep
        have z := M.z
        have hHeld := keepLS M.L
        refine hN.step [14] (by kernel_rfl) (by simp) ?_
        refine NmR.cons (lst' := #[true, true, true, true, true, true, true, true, true, true, true, true, true, true, true, false]) (by rfl) (by kernel_rfl) (fun K hK => ?_) ?_
        · skip
          go_simp
          have M' := M.alloc (.cells #[.int .i64 0, .int .i64 0, .int .i64 0, .slice none 0 0, .slice none 0 0, .int .i64 0] 30)
          refine hK.out _ _ (keepLS M'.L) ?_
          try simp only [Act.put, List.setIfInBounds_toArray, List.set_cons_zero, List.set_cons_succ]
          exact N311 _ v7 A8 c8 A11 c11 _ M' (O.alloc _) (H.alloc _) hsep (Bk.new u _ _ rfl) (by omega)
        exact NmR.nil
      have N211 : ∀ (u : World) (v7 : Value) (A8 : Option Addr) (c8 : Nat) (X : Nat) (M : MkS l A A' c c' w u) (O : Own u (w.heap.size + 1 + 1) 68 3 encInp (.slice A8 ins.length c8) ins) (B : Bk u X 30 #[.int .i64 0, .int .i64 0, .int .i64 0, .slice none 0 0, .slice none 0 0, .int .i64 0]) (zX : w.heap.size + 1 < X), W 3 #[true, true, true, true, true, true, true, true, true, true, true, true, false, false, true, false] ⟨#[.agg #[.int .i64 l.id, .int .i64 l.ticks, .int .i64 l.start.x, .int .i64 l.start.y, .slice A l.walls.length c, .slice A' l.gates.length c', .int .i64 l.fin.lo.x, .int .i64 l.fin.lo.y, .int .i64 l.fin.hi.x, .int .i64 l.fin.hi.y, .int .i64 l.bans], .int .i64 pl, .int .i64 key, .slice A2 ins.length c2, .pointer (some ⟨w.heap.size, 0, none⟩), undef, undef, undef, .pointer (some ⟨w.heap.size + 1, 0, none⟩), .bool false, .pointer (some ⟨X, 0, none⟩), .agg #[.int .i64 l.id, .int .i64 l.ticks, .int .i64 l.start.x, .int .i64 l.start.y, .slice A l.walls.length c, .slice A' l.gates.length c', .int .i64 l.fin.lo.x, .int .i64 l.fin.lo.y, .int .i64 l.fin.hi.x, .int .i64 l.fin.hi.y, .int .i64 l.bans], .slice A2 ins.length c2, .bool true, .bool false, .bool false, .int .i64 pl, .bool true, .bool false, .bool false, .bool false, .int .i64 key, .bool true, .bool false, .bool false, undef, .pointer (some ⟨w.heap.size, 0, none⟩), .int .i64 l.id, .int .i64 pl, .agg #[.int .i64 l.id, .int .i64 l.ticks, .int .i64 l.start.x, .int .i64 l.start.y, .slice A l.walls.length c, .slice A' l.gates.length c', .int .i64 l.fin.lo.x, .int .i64 l.fin.lo.y, .int .i64 l.fin.hi.x, .int .i64 l.fin.hi.y, .int .i64 l.bans], .slice A2 ins.length c2, .int .i64 (scoreR l ins), .int .i64 mx, v7, .slice A2 ins.length c2, .slice A8 ins.length c8, .agg #[.int .i64 l.id, .int .i64 l.ticks, .int .i64 l.start.x, .int .i64 l.start.y, .slice A l.walls.length c, .slice A' l.gates.length c', .int .i64 l.fin.lo.x, .int .i64 l.fin.lo.y, .int .i64 l.fin.hi.x, .int .i64 l.fin.hi.y, .int .i64 l.bans], .slice A2 ins.length c2, undef, undef, undef, undef, undef, undef, undef, undef], []⟩ u := by
        intro u v7 A8 c8 X M O B zX
        have z := M.z
        have hHeld := keepLS M.L
        refine hN.step [12] (by kernel_rfl) (by simp) ?_
        refine NmR.cons (lst' := #[true, true, true, true, true, true, true, true, true, true, true, true, true, false, true, false]) (by rfl) (by kernel_rfl) (fun K hK => ?_) ?_
        · skip
          go_simp
          go_at_call 95
          refine (specRunHashes_any l ins _ _ _ _ _ _ _ (h.below M.d) (hg.below M.d) (hs.below M.d) hn hn' hni).mono ?_
          rintro e w11 ⟨A11, c11, rfl, hc11, hH11, hb⟩
          go_wp2_with fail
          have M' := M.later hb
          have hHeld' := keepLS M'.L
          refine hK.out _ _ hHeld' ?_
          try simp only [Act.put, List.setIfInBounds_toArray, List.set_cons_zero, List.set_cons_succ]
          refine hN.take 13 1 39 (v := .agg #[.int .i64 l.id, .int .i64 pl, .int .i64 mx, .slice A8 ins.length c8, .slice A11 (hashesR l ins).length c11, .int .i64 0]) (lst' := #[true, true, true, true, true, true, true, true, true, true, true, true, true, true, true, false]) (by rfl) (by kernel_rfl) (by kernel_rfl) (by kernel_rfl) (fun _ _ _ h => h) rfl (by kernel_rfl) (Or.inl ⟨by rfl, ?yBd⟩) hHeld' ?_
          case yBd => (intro w hSw; go_simp; (try with_reducible rfl))
          try simp only [Act.put, List.setIfInBounds_toArray, List.set_cons_zero, List.set_cons_succ]
          exact N311 _ _ _ _ _ _ X M' (O.later hb) (hH11.mono (by omega)) (fun g g' e e' => by have q1 := (O.lt g e).2; have q2 := (hH11.lt g' e').1; omega) (B.later hb) zX
        exact NmR.nil
      have N210 : ∀ (u : World) (v7 : Value) (A8 : Option Addr) (c8 : Nat) (M : MkS l A A' c c' w u) (O : Own u (w.heap.size + 1 + 1) 68 3 encInp (.slice A8 ins.length c8) ins), W 4 #[true, true, true, true, true, true, true, true, true, true, true, true, false, false, false, false] ⟨#[.agg #[.int .i64 l.id, .int .i64 l.ticks, .int .i64 l.start.x, .int .i64 l.start.y, .slice A l.walls.length c, .slice A' l.gates.length c', .int .i64 l.fin.lo.x, .int .i64 l.fin.lo.y, .int .i64 l.fin.hi.x, .int .i64 l.fin.hi.y, .int .i64 l.bans], .int .i64 pl, .int .i64 key, .slice A2 ins.length c2, .pointer (some ⟨w.heap.size, 0, none⟩), undef, undef, undef, .pointer (some ⟨w.heap.size + 1, 0, none⟩), .bool false, undef, .agg #[.int .i64 l.id, .int .i64 l.ticks, .int .i64 l.start.x, .int .i64 l.start.y, .slice A l.walls.length c, .slice A' l.gates.length c', .int .i64 l.fin.lo.x, .int .i64 l.fin.lo.y, .int .i64 l.fin.hi.x, .int .i64 l.fin.hi.y, .int .i64 l.bans], .slice A2 ins.length c2, .bool true, .bool false, .bool false, .int .i64 pl, .bool true, .bool false, .bool false, .bool false, .int .i64 key, .bool true, .bool false, .bool false, undef, .pointer (some ⟨w.heap.size, 0, none⟩), .int .i64 l.id, .int .i64 pl, .agg #[.int .i64 l.id, .int .i64 l.ticks, .int .i64 l.start.x, .int .i64 l.start.y, .slice A l.walls.length c, .slice A' l.gates.length c', .int .i64 l.fin.lo.x, .int .i64 l.fin.lo.y, .int .i64 l.fin.hi.x, .int .i64 l.fin.hi.y, .int .i64 l.bans], .slice A2 ins.length c2, .int .i64 (scoreR l ins), .int .i64 mx, v7, .slice A2 ins.length c2, .slice A8 ins.length c8, .agg #[.int .i64 l.id, .int .i64 l.ticks, .int .i64 l.start.x, .int .i64 l.start.y, .slice A l.walls.length c, .slice A' l.gates.length c', .int .i64 l.fin.lo.x, .int .i64 l.fin.lo.y, .int .i64 l.fin.hi.x, .int .i64 l.fin.hi.y, .int .i64 l.bans], .slice A2 ins.length c2, undef, undef, undef, undef, undef, undef, undef, undef], []⟩ u := by
        intro u v7 A8 c8 M O
        have z := M.z
        have hHeld := keepLS M.L
        refine hN.step [12, 14] (by kernel_rfl) (by simp) ?_
        refine NmR.cons (lst' := #[true, true, true, true, true, true, true, true, true, true, true, true, true, false, false, false]) (by rfl) (by kernel_rfl) (fun K hK => ?_) ?_
        · skip
          go_simp
          go_at_call 95
          refine (specRunHashes_any l ins _ _ _ _ _ _ _ (h.below M.d) (hg.below M.d) (hs.below M.d) hn hn' hni).mono ?_
          rintro e w11 ⟨A11, c11, rfl, hc11, hH11, hb⟩
          go_wp2_with fail
          have M' := M.later hb
          have hHeld' := keepLS M'.L
          refine hK.out _ _ hHeld' ?_
          try simp only [Act.put, List.setIfInBounds_toArray, List.set_cons_zero, List.set_cons_succ]
          refine hN.take 13 2 39 (v := .agg #[.int .i64 l.id, .int .i64 pl, .int .i64 mx, .slice A8 ins.length c8, .slice A11 (hashesR l ins).length c11, .int .i64 0]) (lst' := #[true, true, true, true, true, true, true, true, true, true, true, true, true, true, false, false]) (by rfl) (by kernel_rfl) (by kernel_rfl) (by kernel_rfl) (fun _ _ _ h => h) rfl (by kernel_rfl) (Or.inl ⟨by rfl, ?yBd⟩) hHeld' ?_
          case yBd => (intro w hSw; go_simp; (try with_reducible rfl))
          try simp only [Act.put, List.setIfInBounds_toArray, List.set_cons_zero, List.set_cons_succ]
          exact N310 _ _ _ _ _ _ M' (O.later hb) (hH11.mono (by omega)) (fun g g' e e' => by have q1 := (O.lt g e).2; have q2 := (hH11.lt g' e').1; omega)
        refine NmR.cons (lst' := #[true, true, true, true, true, true, true, true, true, true, true, true, false, false, true, false]) (by rfl) (by kernel_rfl) (fun K hK => ?_) ?_
        · skip
          go_simp
          have M' := M.alloc (.cells #[.int .i64 0, .int .i64 0, .int .i64 0, .slice none 0 0, .slice none 0 0, .int .i64 0] 30)
          refine hK.out _ _ (keepLS M'.L) ?_
          try simp only [Act.put, List.setIfInBounds_toArray, List.set_cons_zero, List.set_cons_succ]
          exact N211 _ v7 A8 c8 _ M' (O.alloc _) (Bk.new u _ _ rfl) (by omega)
        exact NmR.nil
      have N111 : ∀ (u : World) (v7 : Value) (X : Nat) (M : MkS l A A' c c' w u) (O7 : Own u (w.heap.size + 1 + 1) 68 3 encInp v7 []) (B : Bk u X 30 #[.int .i64 0, .int .i64 0, .int .i64 0, .slice none 0 0, .slice none 0 0, .int .i64 0]) (zX : w.heap.size + 1 < X), W 4 #[true, true, true, true, true, true, true, true, true, false, true, true, false, false, true, false] ⟨#[.agg #[.int .i64 l.id, .int .i64 l.ticks, .int .i64 l.start.x, .int .i64 l.start.y, .slice A l.walls.length c, .slice A' l.gates.length c', .int .i64 l.fin.lo.x, .int .i64 l.fin.lo.y, .int .i64 l.fin.hi.x, .int .i64 l.fin.hi.y, .int .i64 l.bans], .int .i64 pl, .int .i64 key, .slice A2 ins.length c2, .pointer (some ⟨w.heap.size, 0, none⟩), undef, undef, undef, .pointer (some ⟨w.heap.size + 1, 0, none⟩), .bool false, .pointer (some ⟨X, 0, none⟩), .agg #[.int .i64 l.id, .int .i64 l.ticks, .int .i64 l.start.x, .int .i64 l.start.y, .slice A l.walls.length c, .slice A' l.gates.length c', .int .i64 l.fin.lo.x, .int .i64 l.fin.lo.y, .int .i64 l.fin.hi.x, .int .i64 l.fin.hi.y, .int .i64 l.bans], .slice A2 ins.length c2, .bool true, .bool false, .bool false, .int .i64 pl, .bool true, .bool false, .bool false, .bool false, .int .i64 key, .bool true, .bool false, .bool false, undef, .pointer (some ⟨w.heap.size, 0, none⟩), .int .i64 l.id, .int .i64 pl, .agg #[.int .i64 l.id, .int .i64 l.ticks, .int .i64 l.start.x, .int .i64 l.start.y, .slice A l.walls.length c, .slice A' l.gates.length c', .int .i64 l.fin.lo.x, .int .i64 l.fin.lo.y, .int .i64 l.fin.hi.x, .int .i64 l.fin.hi.y, .int .i64 l.bans], .slice A2 ins.length c2, .int .i64 (scoreR l ins), .int .i64 mx, v7, .slice A2 ins.length c2, undef, .agg #[.int .i64 l.id, .int .i64 l.ticks, .int .i64 l.start.x, .int .i64 l.start.y, .slice A l.walls.length c, .slice A' l.gates.length c', .int .i64 l.fin.lo.x, .int .i64 l.fin.lo.y, .int .i64 l.fin.hi.x, .int .i64 l.fin.hi.y, .int .i64 l.bans], .slice A2 ins.length c2, undef, undef, undef, undef, undef, undef, undef, undef], []⟩ u := by
        intro u v7 X M O7 B zX
        have z := M.z
        have hHeld := keepLS M.L
        refine hN.step [9] (by kernel_rfl) (by simp) ?_
        refine NmR.cons (lst' := #[true, true, true, true, true, true, true, true, true, true, true, true, false, false, true, false]) (by rfl) (by kernel_rfl) (fun K hK => ?_) ?_
        · skip
          refine step_appL rfl (.tmp 33) (.tmp 34) _ rfl (w.heap.size + 1 + 1) 68 i0 (.agg #[.int .i64 0, .int .i64 0, .bool false]) 3 24 Tryd.underlying28 hi hz0 hz1 hz2 rfl (by decide) encInp_len one_inp _ [] ins (by first | (simp [Act.eval]; done) | (simp [Act.eval]; rfl)) O7 A2 ins.length c2 (by first | (simp [Act.eval]; done) | (simp [Act.eval]; rfl)) (hs.below M.d) hA2 hb63 hb48 (by omega) ?_
          intro v8 w8 O8 hg8 hl8
          rw [List.nil_append] at O8
          obtain ⟨A8, c8, rfl, hc8, _⟩ := O8.form
          have M' := M.own hg8 (fun g e => by have := (O7.lt g e).1; omega)
          refine hK.out _ _ (keepLS M'.L) ?_
          try simp only [Act.put, List.setIfInBounds_toArray, List.set_cons_zero, List.set_cons_succ]
          exact N211 _ _ _ _ X M' O8 (B.grown hg8 (by intro e; exact O7.ne B (by decide) _ e.symm rfl)) zX
        exact NmR.nil
      have N110 : ∀ (u : World) (v7 : Value) (M : MkS l A A' c c' w u) (O7 : Own u (w.heap.size + 1 + 1) 68 3 encInp v7 []), W 5 #[true, true, true, true, true, true, true, true, true, false, true, true, false, false, false, false] ⟨#[.agg #[.int .i64 l.id, .int .i64 l.ticks, .int .i64 l.start.x, .int .i64 l.start.y, .slice A l.walls.length c, .slice A' l.gates.length c', .int .i64 l.fin.lo.x, .int .i64 l.fin.lo.y, .int .i64 l.fin.hi.x, .int .i64 l.fin.hi.y, .int .i64 l.bans], .int .i64 pl, .int .i64 key, .slice A2 ins.length c2, .pointer (some ⟨w.heap.size, 0, none⟩), undef, undef, undef, .pointer (some ⟨w.heap.size + 1, 0, none⟩), .bool false, undef, .agg #[.int .i64 l.id, .int .i64 l.ticks, .int .i64 l.start.x, .int .i64 l.start.y, .slice A l.walls.length c, .slice A' l.gates.length c', .int .i64 l.fin.lo.x, .int .i64 l.fin.lo.y, .int .i64 l.fin.hi.x, .int .i64 l.fin.hi.y, .int .i64 l.bans], .slice A2 ins.length c2, .bool true, .bool false, .bool false, .int .i64 pl, .bool true, .bool false, .bool false, .bool false, .int .i64 key, .bool true, .bool false, .bool false, undef, .pointer (some ⟨w.heap.size, 0, none⟩), .int .i64 l.id, .int .i64 pl, .agg #[.int .i64 l.id, .int .i64 l.ticks, .int .i64 l.start.x, .int .i64 l.start.y, .slice A l.walls.length c, .slice A' l.gates.length c', .int .i64 l.fin.lo.x, .int .i64 l.fin.lo.y, .int .i64 l.fin.hi.x, .int .i64 l.fin.hi.y, .int .i64 l.bans], .slice A2 ins.length c2, .int .i64 (scoreR l ins), .int .i64 mx, v7, .slice A2 ins.length c2, undef, .agg #[.int .i64 l.id, .int .i64 l.ticks, .int .i64 l.start.x, .int .i64 l.start.y, .slice A l.walls.length c, .slice A' l.gates.length c', .int .i64 l.fin.lo.x, .int .i64 l.fin.lo.y, .int .i64 l.fin.hi.x, .int .i64 l.fin.hi.y, .int .i64 l.bans], .slice A2 ins.length c2, undef, undef, undef, undef, undef, undef, undef, undef], []⟩ u := by
        intro u v7 M O7
        have z := M.z
        have hHeld := keepLS M.L
        refine hN.step [9, 14] (by kernel_rfl) (by simp) ?_
        refine NmR.cons (lst' := #[true, true, true, true, true, true, true, true, true, true, true, true, false, false, false, false]) (by rfl) (by kernel_rfl) (fun K hK => ?_) ?_
        · skip
          refine step_appL rfl (.tmp 33) (.tmp 34) _ rfl (w.heap.size + 1 + 1) 68 i0 (.agg #[.int .i64 0, .int .i64 0, .bool false]) 3 24 Tryd.underlying28 hi hz0 hz1 hz2 rfl (by decide) encInp_len one_inp _ [] ins (by first | (simp [Act.eval]; done) | (simp [Act.eval]; rfl)) O7 A2 ins.length c2 (by first | (simp [Act.eval]; done) | (simp [Act.eval]; rfl)) (hs.below M.d) hA2 hb63 hb48 (by omega) ?_
          intro v8 w8 O8 hg8 hl8
          rw [List.nil_append] at O8
          obtain ⟨A8, c8, rfl, hc8, _⟩ := O8.form
          have M' := M.own hg8 (fun g e => by have := (O7.lt g e).1; omega)
          refine hK.out _ _ (keepLS M'.L) ?_
          try simp only [Act.put, List.setIfInBounds_toArray, List.set_cons_zero, List.set_cons_succ]
          exact N210 _ _ _ _ M' O8
        refine NmR.cons (lst' := #[true, true, true, true, true, true, true, true, true, false, true, true, false, false, true, false]) (by rfl) (by kernel_rfl) (fun K hK => ?_) ?_
        · skip
          go_simp
          have M' := M.alloc (.cells #[.int .i64 0, .int .i64 0, .int .i64 0, .slice none 0 0, .slice none 0 0, .int .i64 0] 30)
          refine hK.out _ _ (keepLS M'.L) ?_
          try simp only [Act.put, List.setIfInBounds_toArray, List.set_cons_zero, List.set_cons_succ]
          exact N111 _ v7 _ M' (O7.alloc _) (Bk.new u _ _ rfl) (by omega)
        exact NmR.nil
      have N101 : ∀ (u : World) (X : Nat) (M : MkS l A A' c c' w u) (B : Bk u X 30 #[.int .i64 0, .int .i64 0, .int .i64 0, .slice none 0 0, .slice none 0 0, .int .i64 0]) (zX : w.heap.size + 1 < X), W 5 #[true, true, true, true, true, true, true, false, true, false, true, true, false, false, true, false] ⟨#[.agg #[.int .i64 l.id, .int .i64 l.ticks, .int .i64 l.start.x, .int .i64 l.start.y, .slice A l.walls.length c, .slice A' l.gates.length c', .int .i64 l.fin.lo.x, .int .i64 l.fin.lo.y, .int .i64 l.fin.hi.x, .int .i64 l.fin.hi.y, .int .i64 l.bans], .int .i64 pl, .int .i64 key, .slice A2 ins.length c2, .pointer (some ⟨w.heap.size, 0, none⟩), undef, undef, undef, .pointer (some ⟨w.heap.size + 1, 0, none⟩), .bool false, .pointer (some ⟨X, 0, none⟩), .agg #[.int .i64 l.id, .int .i64 l.ticks, .int .i64 l.start.x, .int .i64 l.start.y, .slice A l.walls.length c, .slice A' l.gates.length c', .int .i64 l.fin.lo.x, .int .i64 l.fin.lo.y, .int .i64 l.fin.hi.x, .int .i64 l.fin.hi.y, .int .i64 l.bans], .slice A2 ins.length c2, .bool true, .bool false, .bool false, .int .i64 pl, .bool true, .bool false, .bool false, .bool false, .int .i64 key, .bool true, .bool false, .bool false, undef, .pointer (some ⟨w.heap.size, 0, none⟩), .int .i64 l.id, .int .i64 pl, .agg #[.int .i64 l.id, .int .i64 l.ticks, .int .i64 l.start.x, .int .i64 l.start.y, .slice A l.walls.length c, .slice A' l.gates.length c', .int .i64 l.fin.lo.x, .int .i64 l.fin.lo.y, .int .i64 l.fin.hi.x, .int .i64 l.fin.hi.y, .int .i64 l.bans], .slice A2 ins.length c2, .int .i64 (scoreR l ins), .int .i64 mx, undef, .slice A2 ins.length c2, undef, .agg #[.int .i64 l.id, .int .i64 l.ticks, .int .i64 l.start.x, .int .i64 l.start.y, .slice A l.walls.length c, .slice A' l.gates.length c', .int .i64 l.fin.lo.x, .int .i64 l.fin.lo.y, .int .i64 l.fin.hi.x, .int .i64 l.fin.hi.y, .int .i64 l.bans], .slice A2 ins.length c2, undef, undef, undef, undef, undef, undef, undef, undef], []⟩ u := by
        intro u X M B zX
        have z := M.z
        have hHeld := keepLS M.L
        refine hN.step [7] (by kernel_rfl) (by simp) ?_
        refine NmR.cons (lst' := #[true, true, true, true, true, true, true, true, true, false, true, true, false, false, true, false]) (by rfl) (by kernel_rfl) (fun K hK => ?_) ?_
        · skip
          go_simp
          have M' := M.alloc (.cells #[] 68)
          refine hK.out _ _ (keepLS M'.L) ?_
          try simp only [Act.put, List.setIfInBounds_toArray, List.set_cons_zero, List.set_cons_succ]
          exact N111 _ _ X M' (own_nil_inp _ _ _ _ (by omega) rfl) (B.alloc _) zX
        exact NmR.nil
      have N100 : ∀ (u : World) (M : MkS l A A' c c' w u), W 6 #[true, true, true, true, true, true, true, false, true, false, true, true, false, false, false, false] ⟨#[.agg #[.int .i64 l.id, .int .i64 l.ticks, .int .i64 l.start.x, .int .i64 l.start.y, .slice A l.walls.length c, .slice A' l.gates.length c', .int .i64 l.fin.lo.x, .int .i64 l.fin.lo.y, .int .i64 l.fin.hi.x, .int .i64 l.fin.hi.y, .int .i64 l.bans], .int .i64 pl, .int .i64 key, .slice A2 ins.length c2, .pointer (some ⟨w.heap.size, 0, none⟩), undef, undef, undef, .pointer (some ⟨w.heap.size + 1, 0, none⟩), .bool false, undef, .agg #[.int .i64 l.id, .int .i64 l.ticks, .int .i64 l.start.x, .int .i64 l.start.y, .slice A l.walls.length c, .slice A' l.gates.length c', .int .i64 l.fin.lo.x, .int .i64 l.fin.lo.y, .int .i64 l.fin.hi.x, .int .i64 l.fin.hi.y, .int .i64 l.bans], .slice A2 ins.length c2, .bool true, .bool false, .bool false, .int .i64 pl, .bool true, .bool false, .bool false, .bool false, .int .i64 key, .bool true, .bool false, .bool false, undef, .pointer (some ⟨w.heap.size, 0, none⟩), .int .i64 l.id, .int .i64 pl, .agg #[.int .i64 l.id, .int .i64 l.ticks, .int .i64 l.start.x, .int .i64 l.start.y, .slice A l.walls.length c, .slice A' l.gates.length c', .int .i64 l.fin.lo.x, .int .i64 l.fin.lo.y, .int .i64 l.fin.hi.x, .int .i64 l.fin.hi.y, .int .i64 l.bans], .slice A2 ins.length c2, .int .i64 (scoreR l ins), .int .i64 mx, undef, .slice A2 ins.length c2, undef, .agg #[.int .i64 l.id, .int .i64 l.ticks, .int .i64 l.start.x, .int .i64 l.start.y, .slice A l.walls.length c, .slice A' l.gates.length c', .int .i64 l.fin.lo.x, .int .i64 l.fin.lo.y, .int .i64 l.fin.hi.x, .int .i64 l.fin.hi.y, .int .i64 l.bans], .slice A2 ins.length c2, undef, undef, undef, undef, undef, undef, undef, undef], []⟩ u := by
        intro u M
        have z := M.z
        have hHeld := keepLS M.L
        refine hN.step [7, 14] (by kernel_rfl) (by simp) ?_
        refine NmR.cons (lst' := #[true, true, true, true, true, true, true, true, true, false, true, true, false, false, false, false]) (by rfl) (by kernel_rfl) (fun K hK => ?_) ?_
        · skip
          go_simp
          have M' := M.alloc (.cells #[] 68)
          refine hK.out _ _ (keepLS M'.L) ?_
          try simp only [Act.put, List.setIfInBounds_toArray, List.set_cons_zero, List.set_cons_succ]
          exact N110 _ _ M' (own_nil_inp _ _ _ _ (by omega) rfl)
        refine NmR.cons (lst' := #[true, true, true, true, true, true, true, false, true, false, true, true, false, false, true, false]) (by rfl) (by kernel_rfl) (fun K hK => ?_) ?_
        · skip
          go_simp
          have M' := M.alloc (.cells #[.int .i64 0, .int .i64 0, .int .i64 0, .slice none 0 0, .slice none 0 0, .int .i64 0] 30)
          refine hK.out _ _ (keepLS M'.L) ?_
          try simp only [Act.put, List.setIfInBounds_toArray, List.set_cons_zero, List.set_cons_succ]
          exact N101 _ _ M' (Bk.new u _ _ rfl) (by omega)
        exact NmR.nil
      have N011 : ∀ (u : World) (v7 : Value) (X : Nat) (M : MkS l A A' c c' w u) (O7 : Own u (w.heap.size + 1 + 1) 68 3 encInp v7 []) (B : Bk u X 30 #[.int .i64 0, .int .i64 0, .int .i64 0, .slice none 0 0, .slice none 0 0, .int .i64 0]) (zX : w.heap.size + 1 < X), W 6 #[true, true, true, true, true, false, false, true, true, false, true, true, false, false, true, false] ⟨#[.agg #[.int .i64 l.id, .int .i64 l.ticks, .int .i64 l.start.x, .int .i64 l.start.y, .slice A l.walls.length c, .slice A' l.gates.length c', .int .i64 l.fin.lo.x, .int .i64 l.fin.lo.y, .int .i64 l.fin.hi.x, .int .i64 l.fin.hi.y, .int .i64 l.bans], .int .i64 pl, .int .i64 key, .slice A2 ins.length c2, .pointer (some ⟨w.heap.size, 0, none⟩), undef, undef, undef, .pointer (some ⟨w.heap.size + 1, 0, none⟩), .bool false, .pointer (some ⟨X, 0, none⟩), .agg #[.int .i64 l.id, .int .i64 l.ticks, .int .i64 l.start.x, .int .i64 l.start.y, .slice A l.walls.length c, .slice A' l.gates.length c', .int .i64 l.fin.lo.x, .int .i64 l.fin.lo.y, .int .i64 l.fin.hi.x, .int .i64 l.fin.hi.y, .int .i64 l.bans], .slice A2 ins.length c2, .bool true, .bool false, .bool false, .int .i64 pl, .bool true, .bool false, .bool false, .bool false, .int .i64 key, .bool true, .bool false, .bool false, undef, .pointer (some ⟨w.heap.size, 0, none⟩), .int .i64 l.id, .int .i64 pl, .agg #[.int .i64 l.id, .int .i64 l.ticks, .int .i64 l.start.x, .int .i64 l.start.y, .slice A l.walls.length c, .slice A' l.gates.length c', .int .i64 l.fin.lo.x, .int .i64 l.fin.lo.y, .int .i64 l.fin.hi.x, .int .i64 l.fin.hi.y, .int .i64 l.bans], .slice A2 ins.length c2, undef, undef, v7, .slice A2 ins.length c2, undef, .agg #[.int .i64 l.id, .int .i64 l.ticks, .int .i64 l.start.x, .int .i64 l.start.y, .slice A l.walls.length c, .slice A' l.gates.length c', .int .i64 l.fin.lo.x, .int .i64 l.fin.lo.y, .int .i64 l.fin.hi.x, .int .i64 l.fin.hi.y, .int .i64 l.bans], .slice A2 ins.length c2, undef, undef, undef, undef, undef, undef, undef, undef], []⟩ u := by
        intro u v7 X M O7 B zX
        have z := M.z
        have hHeld := keepLS M.L
        refine hN.step [5] (by kernel_rfl) (by simp) ?_
        refine NmR.cons (lst' := #[true, true, true, true, true, true, false, true, true, false, true, true, false, false, true, false]) (by rfl) (by kernel_rfl) (fun K hK => ?_) ?_
        · skip
          go_simp
          go_at_call 94
          refine (specRunScore_any l ins _ _ _ _ _ _ _ (h.below M.d) (hg.below M.d) (hs.below M.d) hn hn' hni').mono ?_
          rintro e w7 ⟨rfl, hb⟩
          go_wp2_with fail
          have M' := M.later hb
          have hHeld' := keepLS M'.L
          refine hK.out _ _ hHeld' ?_
          try simp only [Act.put, List.setIfInBounds_toArray, List.set_cons_zero, List.set_cons_succ]
          refine hN.take 6 4 32 (v := .int .i64 mx) (lst' := #[true, true, true, true, true, true, true, true, true, false, true, true, false, false, true, false]) (by rfl) (by kernel_rfl) (by kernel_rfl) (by kernel_rfl) (fun _ _ _ h => h) rfl (by kernel_rfl) (Or.inl ⟨by rfl, ?yMx⟩) hHeld' ?_
          case yMx => (intro w hSw; clear hSw hHeld'; go_simp; (try simp [hmx]))
          try simp only [Act.put, List.setIfInBounds_toArray, List.set_cons_zero, List.set_cons_succ]
          exact N111 _ v7 X M' (O7.later hb) (B.later hb) zX
        exact NmR.nil
      have N010 : ∀ (u : World) (v7 : Value) (M : MkS l A A' c c' w u) (O7 : Own u (w.heap.size + 1 + 1) 68 3 encInp v7 []), W 7 #[true, true, true, true, true, false, false, true, true, false, true, true, false, false, false, false] ⟨#[.agg #[.int .i64 l.id, .int .i64 l.ticks, .int .i64 l.start.x, .int .i64 l.start.y, .slice A l.walls.length c, .slice A' l.gates.length c', .int .i64 l.fin.lo.x, .int .i64 l.fin.lo.y, .int .i64 l.fin.hi.x, .int .i64 l.fin.hi.y, .int .i64 l.bans], .int .i64 pl, .int .i64 key, .slice A2 ins.length c2, .pointer (some ⟨w.heap.size, 0, none⟩), undef, undef, undef, .pointer (some ⟨w.heap.size + 1, 0, none⟩), .bool false, undef, .agg #[.int .i64 l.id, .int .i64 l.ticks, .int .i64 l.start.x, .int .i64 l.start.y, .slice A l.walls.length c, .slice A' l.gates.length c', .int .i64 l.fin.lo.x, .int .i64 l.fin.lo.y, .int .i64 l.fin.hi.x, .int .i64 l.fin.hi.y, .int .i64 l.bans], .slice A2 ins.length c2, .bool true, .bool false, .bool false, .int .i64 pl, .bool true, .bool false, .bool false, .bool false, .int .i64 key, .bool true, .bool false, .bool false, undef, .pointer (some ⟨w.heap.size, 0, none⟩), .int .i64 l.id, .int .i64 pl, .agg #[.int .i64 l.id, .int .i64 l.ticks, .int .i64 l.start.x, .int .i64 l.start.y, .slice A l.walls.length c, .slice A' l.gates.length c', .int .i64 l.fin.lo.x, .int .i64 l.fin.lo.y, .int .i64 l.fin.hi.x, .int .i64 l.fin.hi.y, .int .i64 l.bans], .slice A2 ins.length c2, undef, undef, v7, .slice A2 ins.length c2, undef, .agg #[.int .i64 l.id, .int .i64 l.ticks, .int .i64 l.start.x, .int .i64 l.start.y, .slice A l.walls.length c, .slice A' l.gates.length c', .int .i64 l.fin.lo.x, .int .i64 l.fin.lo.y, .int .i64 l.fin.hi.x, .int .i64 l.fin.hi.y, .int .i64 l.bans], .slice A2 ins.length c2, undef, undef, undef, undef, undef, undef, undef, undef], []⟩ u := by
        intro u v7 M O7
        have z := M.z
        have hHeld := keepLS M.L
        refine hN.step [5, 14] (by kernel_rfl) (by simp) ?_
        refine NmR.cons (lst' := #[true, true, true, true, true, true, false, true, true, false, true, true, false, false, false, false]) (by rfl) (by kernel_rfl) (fun K hK => ?_) ?_
        · skip
          go_simp
          go_at_call 94
          refine (specRunScore_any l ins _ _ _ _ _ _ _ (h.below M.d) (hg.below M.d) (hs.below M.d) hn hn' hni').mono ?_
          rintro e w7 ⟨rfl, hb⟩
          go_wp2_with fail
          have M' := M.later hb
          have hHeld' := keepLS M'.L
          refine hK.out _ _ hHeld' ?_
          try simp only [Act.put, List.setIfInBounds_toArray, List.set_cons_zero, List.set_cons_succ]
          refine hN.take 6 5 32 (v := .int .i64 mx) (lst' := #[true, true, true, true, true, true, true, true, true, false, true, true, false, false, false, false]) (by rfl) (by kernel_rfl) (by kernel_rfl) (by kernel_rfl) (fun _ _ _ h => h) rfl (by kernel_rfl) (Or.inl ⟨by rfl, ?yMx⟩) hHeld' ?_
          case yMx => (intro w hSw; clear hSw hHeld'; go_simp; (try simp [hmx]))
          try simp only [Act.put, List.setIfInBounds_toArray, List.set_cons_zero, List.set_cons_succ]
          exact N110 _ v7 M' (O7.later hb)
        refine NmR.cons (lst' := #[true, true, true, true, true, false, false, true, true, false, true, true, false, false, true, false]) (by rfl) (by kernel_rfl) (fun K hK => ?_) ?_
        · skip
          go_simp
          have M' := M.alloc (.cells #[.int .i64 0, .int .i64 0, .int .i64 0, .slice none 0 0, .slice none 0 0, .int .i64 0] 30)
          refine hK.out _ _ (keepLS M'.L) ?_
          try simp only [Act.put, List.setIfInBounds_toArray, List.set_cons_zero, List.set_cons_succ]
          exact N011 _ v7 _ M' (O7.alloc _) (Bk.new u _ _ rfl) (by omega)
        exact NmR.nil
      have N001 : ∀ (u : World) (X : Nat) (M : MkS l A A' c c' w u) (B : Bk u X 30 #[.int .i64 0, .int .i64 0, .int .i64 0, .slice none 0 0, .slice none 0 0, .int .i64 0]) (zX : w.heap.size + 1 < X), W 7 #[true, true, true, true, true, false, false, false, true, false, true, true, false, false, true, false] ⟨#[.agg #[.int .i64 l.id, .int .i64 l.ticks, .int .i64 l.start.x, .int .i64 l.start.y, .slice A l.walls.length c, .slice A' l.gates.length c', .int .i64 l.fin.lo.x, .int .i64 l.fin.lo.y, .int .i64 l.fin.hi.x, .int .i64 l.fin.hi.y, .int .i64 l.bans], .int .i64 pl, .int .i64 key, .slice A2 ins.length c2, .pointer (some ⟨w.heap.size, 0, none⟩), undef, undef, undef, .pointer (some ⟨w.heap.size + 1, 0, none⟩), .bool false, .pointer (some ⟨X, 0, none⟩), .agg #[.int .i64 l.id, .int .i64 l.ticks, .int .i64 l.start.x, .int .i64 l.start.y, .slice A l.walls.length c, .slice A' l.gates.length c', .int .i64 l.fin.lo.x, .int .i64 l.fin.lo.y, .int .i64 l.fin.hi.x, .int .i64 l.fin.hi.y, .int .i64 l.bans], .slice A2 ins.length c2, .bool true, .bool false, .bool false, .int .i64 pl, .bool true, .bool false, .bool false, .bool false, .int .i64 key, .bool true, .bool false, .bool false, undef, .pointer (some ⟨w.heap.size, 0, none⟩), .int .i64 l.id, .int .i64 pl, .agg #[.int .i64 l.id, .int .i64 l.ticks, .int .i64 l.start.x, .int .i64 l.start.y, .slice A l.walls.length c, .slice A' l.gates.length c', .int .i64 l.fin.lo.x, .int .i64 l.fin.lo.y, .int .i64 l.fin.hi.x, .int .i64 l.fin.hi.y, .int .i64 l.bans], .slice A2 ins.length c2, undef, undef, undef, .slice A2 ins.length c2, undef, .agg #[.int .i64 l.id, .int .i64 l.ticks, .int .i64 l.start.x, .int .i64 l.start.y, .slice A l.walls.length c, .slice A' l.gates.length c', .int .i64 l.fin.lo.x, .int .i64 l.fin.lo.y, .int .i64 l.fin.hi.x, .int .i64 l.fin.hi.y, .int .i64 l.bans], .slice A2 ins.length c2, undef, undef, undef, undef, undef, undef, undef, undef], []⟩ u := by
        intro u X M B zX
        have z := M.z
        have hHeld := keepLS M.L
        refine hN.step [5, 7] (by kernel_rfl) (by simp) ?_
        refine NmR.cons (lst' := #[true, true, true, true, true, true, false, false, true, false, true, true, false, false, true, false]) (by rfl) (by kernel_rfl) (fun K hK => ?_) ?_
        · skip
          go_simp
          go_at_call 94
          refine (specRunScore_any l ins _ _ _ _ _ _ _ (h.below M.d) (hg.below M.d) (hs.below M.d) hn hn' hni').mono ?_
          rintro e w7 ⟨rfl, hb⟩
          go_wp2_with fail
          have M' := M.later hb
          have hHeld' := keepLS M'.L
          refine hK.out _ _ hHeld' ?_
          try simp only [Act.put, List.setIfInBounds_toArray, List.set_cons_zero, List.set_cons_succ]
          refine hN.take 6 5 32 (v := .int .i64 mx) (lst' := #[true, true, true, true, true, true, true, false, true, false, true, true, false, false, true, false]) (by rfl) (by kernel_rfl) (by kernel_rfl) (by kernel_rfl) (fun _ _ _ h => h) rfl (by kernel_rfl) (Or.inl ⟨by rfl, ?yMx⟩) hHeld' ?_
          case yMx => (intro w hSw; clear hSw hHeld'; go_simp; (try simp [hmx]))
          try simp only [Act.put, List.setIfInBounds_toArray, List.set_cons_zero, List.set_cons_succ]
          exact N101 _ X M' (B.later hb) zX
        refine NmR.cons (lst' := #[true, true, true, true, true, false, false, true, true, false, true, true, false, false, true, false]) (by rfl) (by kernel_rfl) (fun K hK => ?_) ?_
        · skip
          go_simp
          have M' := M.alloc (.cells #[] 68)
          refine hK.out _ _ (keepLS M'.L) ?_
          try simp only [Act.put, List.setIfInBounds_toArray, List.set_cons_zero, List.set_cons_succ]
          exact N011 _ _ X M' (own_nil_inp _ _ _ _ (by omega) rfl) (B.alloc _) zX
        exact NmR.nil
      have N000 : ∀ (u : World) (M : MkS l A A' c c' w u), W 8 #[true, true, true, true, true, false, false, false, true, false, true, true, false, false, false, false] ⟨#[.agg #[.int .i64 l.id, .int .i64 l.ticks, .int .i64 l.start.x, .int .i64 l.start.y, .slice A l.walls.length c, .slice A' l.gates.length c', .int .i64 l.fin.lo.x, .int .i64 l.fin.lo.y, .int .i64 l.fin.hi.x, .int .i64 l.fin.hi.y, .int .i64 l.bans], .int .i64 pl, .int .i64 key, .slice A2 ins.length c2, .pointer (some ⟨w.heap.size, 0, none⟩), undef, undef, undef, .pointer (some ⟨w.heap.size + 1, 0, none⟩), .bool false, undef, .agg #[.int .i64 l.id, .int .i64 l.ticks, .int .i64 l.start.x, .int .i64 l.start.y, .slice A l.walls.length c, .slice A' l.gates.length c', .int .i64 l.fin.lo.x, .int .i64 l.fin.lo.y, .int .i64 l.fin.hi.x, .int .i64 l.fin.hi.y, .int .i64 l.bans], .slice A2 ins.length c2, .bool true, .bool false, .bool false, .int .i64 pl, .bool true, .bool false, .bool false, .bool false, .int .i64 key, .bool true, .bool false, .bool false, undef, .pointer (some ⟨w.heap.size, 0, none⟩), .int .i64 l.id, .int .i64 pl, .agg #[.int .i64 l.id, .int .i64 l.ticks, .int .i64 l.start.x, .int .i64 l.start.y, .slice A l.walls.length c, .slice A' l.gates.length c', .int .i64 l.fin.lo.x, .int .i64 l.fin.lo.y, .int .i64 l.fin.hi.x, .int .i64 l.fin.hi.y, .int .i64 l.bans], .slice A2 ins.length c2, undef, undef, undef, .slice A2 ins.length c2, undef, .agg #[.int .i64 l.id, .int .i64 l.ticks, .int .i64 l.start.x, .int .i64 l.start.y, .slice A l.walls.length c, .slice A' l.gates.length c', .int .i64 l.fin.lo.x, .int .i64 l.fin.lo.y, .int .i64 l.fin.hi.x, .int .i64 l.fin.hi.y, .int .i64 l.bans], .slice A2 ins.length c2, undef, undef, undef, undef, undef, undef, undef, undef], []⟩ u := by
        intro u M
        have z := M.z
        have hHeld := keepLS M.L
        refine hN.step [5, 7, 14] (by kernel_rfl) (by simp) ?_
        refine NmR.cons (lst' := #[true, true, true, true, true, true, false, false, true, false, true, true, false, false, false, false]) (by rfl) (by kernel_rfl) (fun K hK => ?_) ?_
        · skip
          go_simp
          go_at_call 94
          refine (specRunScore_any l ins _ _ _ _ _ _ _ (h.below M.d) (hg.below M.d) (hs.below M.d) hn hn' hni').mono ?_
          rintro e w7 ⟨rfl, hb⟩
          go_wp2_with fail
          have M' := M.later hb
          have hHeld' := keepLS M'.L
          refine hK.out _ _ hHeld' ?_
          try simp only [Act.put, List.setIfInBounds_toArray, List.set_cons_zero, List.set_cons_succ]
          refine hN.take 6 6 32 (v := .int .i64 mx) (lst' := #[true, true, true, true, true, true, true, false, true, false, true, true, false, false, false, false]) (by rfl) (by kernel_rfl) (by kernel_rfl) (by kernel_rfl) (fun _ _ _ h => h) rfl (by kernel_rfl) (Or.inl ⟨by rfl, ?yMx⟩) hHeld' ?_
          case yMx => (intro w hSw; clear hSw hHeld'; go_simp; (try simp [hmx]))
          try simp only [Act.put, List.setIfInBounds_toArray, List.set_cons_zero, List.set_cons_succ]
          exact N100 _ M'
        refine NmR.cons (lst' := #[true, true, true, true, true, false, false, true, true, false, true, true, false, false, false, false]) (by rfl) (by kernel_rfl) (fun K hK => ?_) ?_
        · skip
          go_simp
          have M' := M.alloc (.cells #[] 68)
          refine hK.out _ _ (keepLS M'.L) ?_
          try simp only [Act.put, List.setIfInBounds_toArray, List.set_cons_zero, List.set_cons_succ]
          exact N010 _ _ M' (own_nil_inp _ _ _ _ (by omega) rfl)
        refine NmR.cons (lst' := #[true, true, true, true, true, false, false, false, true, false, true, true, false, false, true, false]) (by rfl) (by kernel_rfl) (fun K hK => ?_) ?_
        · skip
          go_simp
          have M' := M.alloc (.cells #[.int .i64 0, .int .i64 0, .int .i64 0, .slice none 0 0, .slice none 0 0, .int .i64 0] 30)
          refine hK.out _ _ (keepLS M'.L) ?_
          try simp only [Act.put, List.setIfInBounds_toArray, List.set_cons_zero, List.set_cons_succ]
          exact N001 _ _ M' (Bk.new u _ _ rfl) (by omega)
        exact NmR.nil
      exact N000 _ M1.drew
    case rest =>
      obtain ⟨X, A8, A11, c8, c11, rfl, hX, hRr, hP, hH, hsep, hPX, hHX, hXz, hd⟩ := hcut
      have hbok := Lib.hid (show replayOk ⟨l.id, pl, mx, ins, hashesR l ins, 0⟩ = true by rw [← HMX.out]; exact hbase.out)
      have HRL : Hid (repList ⟨l.id, pl, mx, ins, hashesR l ins, 0⟩ = repList (baseRep l pl ins)) := Lib.hid (by unfold baseRep; rw [HMX.out])
      have hbd := repList_bd hbok.out
      have hrl := repList_len ⟨l.id, pl, mx, ins, hashesR l ins, 0⟩
      simp only at hrl
      have hln : (repList ⟨l.id, pl, mx, ins, hashesR l ins, 0⟩).length ≤ 200 := by omega
      have zX := hX.lt
      have zR2 := hRr.lt
      clear L1 R1 hd1 hrl h hg hs hmx
      obtain ⟨⟨x0, x1, x2, x3, x4, x5⟩, xf⟩ := hX.c6
      go_wp2_with fail
      refine (l23List_any _ _ _ _ ⟨l.id, pl, mx, ins, hashesR l ins, 0⟩ _ hbok.out (hP.sl' encInp_len) (hH.sl' encInt_len) hH.none_cap).mono ?_
      rw [HRL.out] at hbd hln ⊢
      have HTG : Hid (makeRep l pl key ins = ⟨l.id, pl, mx, ins, hashesR l ins, tagL key (repList (baseRep l pl ins))⟩) := Lib.hid (by unfold makeRep; rw [HMX.out])
      generalize repList (baseRep l pl ins) = ls at *
      rintro e w8 ⟨A9, c9, rfl, hc9, hO9, hb9⟩
      have X8 := hX.later hb9
      have R8 := hRr.later hb9
      have P8 := hP.later hb9
      have H8 := hH.later hb9
      have hd8 := below_after hd hb9
      clear hX hRr hP hH hd hb9 x0 x1 x2 x3 x4 x5 xf
      go_wp2_with fail
      refine (l4Tag_any key _ _ _ ls _ (hO9.sl' encInt_len) (by omega) hkey (fun y hy => by have := hbd y hy; unfold int64; omega)).mono ?_
      generalize tagL key ls = tg at *
      rintro e w9 ⟨rfl, rfl⟩
      have z8 := X8.lt
      have y8 := R8.lt
      obtain ⟨⟨x0, x1, x2, x3, x4, x5⟩, xf⟩ := X8.c6; obtain ⟨⟨y0, y1, y2, y3, y4, y5⟩, yf⟩ := R8.c6
      have fPR : ∀ g, (Value.slice A8 ins.length c8).ownBlock = some g → g ≠ w.heap.size + 1 := fun g e => by have := (P8.lt g e).1; omega
      have fHR : ∀ g, (Value.slice A11 (hashesR l ins).length c11).ownBlock = some g → g ≠ w.heap.size + 1 := fun g e => by have := (H8.lt g e).1; omega
      clear hO9 hbd
      go_wp2
      refine bodyPost_ret (v := .tuple #[.agg #[.int .i64 l.id, .int .i64 pl, .int .i64 mx, .slice A8 ins.length c8, .slice A11 (hashesR l ins).length c11, .int .i64 tg], .bool true]) (by simp [results, Tryd.results73, go_sem, *]) rfl ?_
      rw [HTG.out]
      refine ⟨A8, c8, A11, c11, rfl, ?_, ?_, by (with_reducible repeat first | assumption | exact bl0 _ _ | refine blA ?_ _ | (refine blS ?_ ?_ _; (simp <;> omega)) | refine blD ?_ | refine blN ?_ _ | refine blF ?_ ‹_›), hsep⟩
      · refine Own.mono (B := w.heap.size + 1 + 1) ?_ (by omega)
        (with_reducible repeat first | assumption | refine Own.fars ?_ ‹_› _ | refine Own.alloc ?_ _ | refine Own.drew ?_ | refine Own.drewN ?_ _ | refine Own.set (by first | omega | simp <;> omega) ?_ _ | refine Own.later ?_ ‹_› | refine Own.gk ?_ ‹_› (by omega))
      · refine Own.mono (B := w.heap.size + 1 + 1) ?_ (by omega)
        (with_reducible repeat first | assumption | refine Own.fars ?_ ‹_› _ | refine Own.alloc ?_ _ | refine Own.drew ?_ | refine Own.drewN ?_ _ | refine Own.set (by first | omega | simp <;> omega) ?_ _ | refine Own.later ?_ ‹_› | refine Own.gk ?_ ‹_› (by omega))

end Go.Proofs.YtdpoicfciogfnaaDoor
