/- Draws of honest replays: l92Good. -/
import Derived.Test.YtdpoicfciogfnaaDoorDrH
import Derived.Test.YtdpoicfciogfnaaDoorSpecL
import Derived.Test.YtdpoicfciogfnaaDoorZDraw
import Derived.Test.YtdpoicfciogfnaaDoorZSpec
import Derived.Deep.RegionHeld3
import Derived.BigRegion
namespace Go.Proofs.YtdpoicfciogfnaaDoor
open Go.ChangeShapes Go.WideShapes Go.ChangeAt Go.RowKit
theorem zeroRep_ok : replayOk zeroRep = true := rfl
theorem makeR_ok (l : Lev) (pl key : Int) (ins : List Inp) : replayOk (makeR l pl key ins) = true := by
  unfold makeR
  cases h : makeOk l pl key ins
  · exact zeroRep_ok
  · exact makeRep_ok h
def RetGood (R n : Nat) (w : World) (e : Ending) (w' : World) : Prop :=
  ∃ l A c A' c' key r A2 c2 A3 c3, e = .returned (.tuple #[.agg #[.int .i64 l.id, .int .i64 l.ticks, .int .i64 l.start.x, .int .i64 l.start.y, .slice A l.walls.length c, .slice A' l.gates.length c', .int .i64 l.fin.lo.x, .int .i64 l.fin.lo.y, .int .i64 l.fin.hi.x, .int .i64 l.fin.hi.y, .int .i64 l.bans], .int .i64 key, .agg #[.int .i64 r.lv, .int .i64 r.pl, .int .i64 r.sc, .slice A2 r.ins.length c2, .slice A3 r.hs.length c3, .int .i64 r.tag]]) ∧ LevD l ∧ 1 ≤ key ∧ key ≤ 9999 ∧ replayOk r = true ∧
    Own w' w.heap.size 85 4 encBx (.slice A l.walls.length c) l.walls ∧ Own w' w.heap.size 85 4 encBx (.slice A' l.gates.length c') l.gates ∧
    Own w' w.heap.size 68 3 encInp (.slice A2 r.ins.length c2) r.ins ∧ Own w' w.heap.size 3 1 encInt (.slice A3 r.hs.length c3) r.hs ∧ RdL w' R n ∧ w.grownBy w' (some R)
def zLev : Array Value := #[.int .i64 0, .int .i64 0, .int .i64 0, .int .i64 0, .slice none 0 0, .slice none 0 0, .int .i64 0, .int .i64 0, .int .i64 0, .int .i64 0, .int .i64 0]
/-- What stands in the midst of l92Good. -/
structure GoodS (R n M : Nat) (l : Lev) (A : Option Addr) (c : Nat) (A' : Option Addr) (c' : Nat) (w u : World) : Prop where
  L : Bk u M 87 #[.int .i64 l.id, .int .i64 l.ticks, .int .i64 l.start.x, .int .i64 l.start.y, .slice A l.walls.length c, .slice A' l.gates.length c', .int .i64 l.fin.lo.x, .int .i64 l.fin.lo.y, .int .i64 l.fin.hi.x, .int .i64 l.fin.hi.y, .int .i64 l.bans]
  Z : Bk u w.heap.size 87 #[.int .i64 0, .int .i64 0, .int .i64 0, .int .i64 0, .slice none 0 0, .slice none 0 0, .int .i64 0, .int .i64 0, .int .i64 0, .int .i64 0, .int .i64 0]
  Y : Bk u (w.heap.size + 1) 30 #[.int .i64 0, .int .i64 0, .int .i64 0, .slice none 0 0, .slice none 0 0, .int .i64 0]
  W : Own u (w.heap.size + 2) 85 4 encBx (.slice A l.walls.length c) l.walls
  G : Own u (w.heap.size + 2) 85 4 encBx (.slice A' l.gates.length c') l.gates
  r : RdL u R n
  g : w.grownBy u (some R)
  m : w.heap.size + 1 < M
  p : LevD l
section
variable {R n M : Nat} {l : Lev} {A A' : Option Addr} {c c' : Nat} {w u u' : World}
theorem GoodS.rd {m : Nat} (h : GoodS R n M l A c A' c' w u) (hR : R < w.heap.size) (hg : u.grownBy u' (some R)) (hr : RdL u' R m) : GoodS R m M l A c A' c' w u' :=
  ⟨h.L.grown hg (by have := h.m; intro e; injection e; omega), h.Z.grown hg (by intro e; injection e; omega), h.Y.grown hg (by intro e; injection e; omega), h.W.gk hg (by omega), h.G.gk hg (by omega), hr, gr_after h.g hg, h.m, h.p⟩
theorem GoodS.later (h : GoodS R n M l A c A' c' w u) (hb : Below u.heap.size u u') : GoodS R n M l A c A' c' w u' :=
  ⟨h.L.later hb, h.Z.later hb, h.Y.later hb, h.W.later hb, h.G.later hb, h.r.later hb, gr_below h.g hb, h.m, h.p⟩
theorem GoodS.alloc (h : GoodS R n M l A c A' c' w u) (o : Obj) : GoodS R n M l A c A' c' w (u.alloc o) := h.later (below_alloc (Below.refl _ _) o)
theorem GoodS.drew (h : GoodS R n M l A c A' c' w u) : GoodS R n M l A c A' c' w u.drew := h.later (below_drew (Below.refl _ _))
theorem GoodS.more {m : Nat} (h : GoodS R n M l A c A' c' w u) (hm : n ≤ m) : GoodS R m M l A c A' c' w u := ⟨h.L, h.Z, h.Y, h.W, h.G, h.r.more hm, h.g, h.m, h.p⟩
end
set_option maxRecDepth 100000 in
set_option maxHeartbeats 4000000 in
theorem l92Good_any (R n : Nat) (w : World) (h : RdL w R n) (hn : n ≤ 500000) : Calls Tryd.prog 53 #[.pointer (some ⟨R, 0, none⟩)] w (RetGood R (n + 600) w) := by
  have hRl := h.lt
  go_enter Tryd.func53, Tryd.ntmps53
  go_wp2_with fail
  refine (l91Level_any R n _ (by (with_reducible repeat first | assumption | refine RdL.alloc ?_ _ | refine RdL.drew ?_ | refine RdL.drewN ?_ _ | refine RdL.far ?_ (by first | omega | simp <;> omega) _ | refine RdL.later ?_ ‹_›)) (by omega)).mono ?_
  rintro e w1 ⟨l, A, c, A', c', rfl, hP, hW, hG, hR1, hg1⟩
  have hz1 := hg1.size
  simp only [World.size_alloc] at hz1 hW hG
  obtain ⟨M, hM⟩ : ∃ M, w1.heap.size = M := ⟨_, rfl⟩
  have S1 : GoodS R (n + 40) M l A c A' c' w (w1.alloc (.cells #[.int .i64 l.id, .int .i64 l.ticks, .int .i64 l.start.x, .int .i64 l.start.y, .slice A l.walls.length c, .slice A' l.gates.length c', .int .i64 l.fin.lo.x, .int .i64 l.fin.lo.y, .int .i64 l.fin.hi.x, .int .i64 l.fin.hi.y, .int .i64 l.bans] 87)) :=
    ⟨Bk.new _ _ _ hM, (((Bk.new w _ _ rfl).alloc _).grown hg1 (by intro e; injection e; omega)).alloc _, ((Bk.new (w.alloc _) _ _ (by simp; done)).grown hg1 (by intro e; injection e; omega)).alloc _,
     hW.alloc _, hG.alloc _, hR1.alloc _, gr_alloc (gr_after (gr_alloc (gr_alloc (grownBy_refl _ _) _) _) hg1) _, by omega, hP⟩
  clear hP hW hG hR1 hg1
  have hMz : M < (w1.alloc (.cells #[.int .i64 l.id, .int .i64 l.ticks, .int .i64 l.start.x, .int .i64 l.start.y, .slice A l.walls.length c, .slice A' l.gates.length c', .int .i64 l.fin.lo.x, .int .i64 l.fin.lo.y, .int .i64 l.fin.hi.x, .int .i64 l.fin.hi.y, .int .i64 l.bans] 87)).heap.size := by simp [hM]
  go_upto_block 0 with fail
  go_cut [6] from 10 (fun iv wc => ∃ l2 A2 c2 A3 c3, GoodS R (n + 300) M l2 A2 c2 A3 c3 w wc)
  case first =>
    go_wp2
    go_loopg [6] 6 (fun q i wr => ∃ (k : Nat) (l2 : Lev) (A2 : Option Addr) (c2 : Nat) (A3 : Option Addr) (c3 : Nat), q = 6 - k ∧ k ≤ 6 ∧ i = .int .i64 k ∧ GoodS R (n + 40 + 40 * k) M l2 A2 c2 A3 c3 w wr)
    case atStart => exact ⟨0, l, A, c, A', c', rfl, by omega, rfl, S1⟩
    case round =>
      obtain ⟨k, l2, A2, c2, A5, c5, hq, hk, rfl, hS⟩ := hrel
      have Hq := Lib.hid hq
      clear S1 hMz hM hq
      obtain ⟨⟨q0, q1, q2, q3, q4, q5, q6, q7, q8, q9, q10⟩, qf⟩ := hS.L.c11
      have zL := hS.L.lt
      have hMw := hS.m
      by_cases hlt : (k : Int) < 6
      · cases hv : levOk l2
        · go_wp2_with fail
          refine (specLevelValid_any l2 _ _ _ _ _ (hS.W.sl' encBx_len) (hS.G.sl' encBx_len) (by have := hS.p.nw; omega) (by have := hS.p.ng; omega)).mono ?_
          rw [hv]
          rintro e w2 ⟨rfl, hb2⟩
          have S2 := hS.later hb2
          clear hS hb2 q0 q1 q2 q3 q4 q5 q6 q7 q8 q9 q10 qf zL
          have zL2 := S2.L.lt
          go_wp2_with fail
          refine (l91Level_any R (n + 40 + 40 * k) _ S2.r (by omega)).mono ?_
          rintro e w3 ⟨l3, A3, c3, A4, c4, rfl, hP, hW, hG, hR3, hg3⟩
          have S3 := S2.rd hRl hg3 hR3
          have zL3 := S3.L.lt
          have fW : ∀ g, (Value.slice A3 l3.walls.length c3).ownBlock = some g → g ≠ M := fun g e => by have := (hW.lt g e).1; omega
          have fG : ∀ g, (Value.slice A4 l3.gates.length c4).ownBlock = some g → g ≠ M := fun g e => by have := (hG.lt g e).1; omega
          have W3 := hW.mono (B' := w.heap.size + 2) (by omega)
          have G3 := hG.mono (B' := w.heap.size + 2) (by omega)
          obtain ⟨⟨q0, q1, q2, q3, q4, q5, q6, q7, q8, q9, q10⟩, qf⟩ := S3.L.c11
          have L3 := S3.L
          have fM : w.heap.size ≠ M := by omega
          have fM1 : w.heap.size + 1 ≠ M := by omega
          have fMw : w.heap.size ≤ M := by omega
          have fMR : R < M := by omega
          have S4 : GoodS R (n + 40 + 40 * k + 40) M l3 A3 c3 A4 c4 w (((((((((((w3.setCell ⟨M, 0, none⟩ (.int .i64 l3.id)).setCell ⟨M, 1, none⟩ (.int .i64 l3.ticks)).setCell ⟨M, 2, none⟩ (.int .i64 l3.start.x)).setCell ⟨M, 3, none⟩ (.int .i64 l3.start.y)).setCell ⟨M, 4, none⟩ (.slice A3 l3.walls.length c3)).setCell ⟨M, 5, none⟩ (.slice A4 l3.gates.length c4)).setCell ⟨M, 6, none⟩ (.int .i64 l3.fin.lo.x)).setCell ⟨M, 7, none⟩ (.int .i64 l3.fin.lo.y)).setCell ⟨M, 8, none⟩ (.int .i64 l3.fin.hi.x)).setCell ⟨M, 9, none⟩ (.int .i64 l3.fin.hi.y)).setCell ⟨M, 10, none⟩ (.int .i64 l3.bans)) :=
            ⟨by (repeat first | (with_reducible first | assumption | exact kN _ _ _ (by simp) | refine kA ?_ _ | refine kD ?_ | refine kW ?_ _ | apply Bk.set' | refine kF ?_ (by simp <;> omega) _ | refine kL ?_ ‹_› | refine kG ?_ ‹_› (by first | omega | simp <;> omega)) | exact ⟨by with_reducible rfl⟩ | exact ⟨by simp⟩), (((((((((((S3.Z.far fM _).far fM _).far fM _).far fM _).far fM _).far fM _).far fM _).far fM _).far fM _).far fM _).far fM _), (((((((((((S3.Y.far fM1 _).far fM1 _).far fM1 _).far fM1 _).far fM1 _).far fM1 _).far fM1 _).far fM1 _).far fM1 _).far fM1 _).far fM1 _), (((((((((((W3.fars (p := ⟨M, 0, none⟩) fW _).fars (p := ⟨M, 1, none⟩) fW _).fars (p := ⟨M, 2, none⟩) fW _).fars (p := ⟨M, 3, none⟩) fW _).fars (p := ⟨M, 4, none⟩) fW _).fars (p := ⟨M, 5, none⟩) fW _).fars (p := ⟨M, 6, none⟩) fW _).fars (p := ⟨M, 7, none⟩) fW _).fars (p := ⟨M, 8, none⟩) fW _).fars (p := ⟨M, 9, none⟩) fW _).fars (p := ⟨M, 10, none⟩) fW _), (((((((((((G3.fars (p := ⟨M, 0, none⟩) fG _).fars (p := ⟨M, 1, none⟩) fG _).fars (p := ⟨M, 2, none⟩) fG _).fars (p := ⟨M, 3, none⟩) fG _).fars (p := ⟨M, 4, none⟩) fG _).fars (p := ⟨M, 5, none⟩) fG _).fars (p := ⟨M, 6, none⟩) fG _).fars (p := ⟨M, 7, none⟩) fG _).fars (p := ⟨M, 8, none⟩) fG _).fars (p := ⟨M, 9, none⟩) fG _).fars (p := ⟨M, 10, none⟩) fG _), (((((((((((S3.r.far fMR _).far fMR _).far fMR _).far fMR _).far fMR _).far fMR _).far fMR _).far fMR _).far fMR _).far fMR _).far fMR _), (gr_set fMw (gr_set fMw (gr_set fMw (gr_set fMw (gr_set fMw (gr_set fMw (gr_set fMw (gr_set fMw (gr_set fMw (gr_set fMw (gr_set fMw S3.g _) _) _) _) _) _) _) _) _) _) _), hMw, hP⟩
          clear S2 S3 L3 hW hG W3 G3 hR3 hg3 zL2
          go_wp2_with fail
          go_roundg (6 - (k + 1))
          case measure => have := Hq.out; omega
          case rel => exact ⟨k + 1, l3, A3, c3, A4, c4, rfl, by omega, by go_num, S4.more (by omega)⟩
        · go_wp2_with fail
          refine (specLevelValid_any l2 _ _ _ _ _ (hS.W.sl' encBx_len) (hS.G.sl' encBx_len) (by have := hS.p.nw; omega) (by have := hS.p.ng; omega)).mono ?_
          rw [hv]
          rintro e w2 ⟨rfl, hb2⟩
          have S2 := hS.later hb2
          go_wp2_with fail
          go_meet
          exact ⟨l2, A2, c2, A5, c5, S2.more (by omega)⟩
      · have hlt2 : decide ((k : Int) < 6) = false := by simpa using hlt
        go_wp2_with fail
        go_meet
        exact ⟨l2, A2, c2, A5, c5, hS.more (by omega)⟩
  case rest =>
    obtain ⟨l2, A2, c2, A3, c3, hS⟩ := hcut
    clear S1 hMz hM
    have hMw := hS.m
    have hRl2 := hS.r.lt
    go_wp2_with fail
    refine (pick_n R (n + 300) 99 _ hS.r (by omega) (by omega) (by omega)).mono ?_
    rintro e w4 ⟨k1, rfl, k1_0, k1_1, hR4, hg4⟩
    have S4 := hS.rd hRl hg4 hR4
    clear hS hg4 hR4
    go_wp2_with fail
    refine (pick_n R (n + 300 + 1) 100 _ S4.r (by omega) (by omega) (by omega)).mono ?_
    rintro e w5 ⟨k2, rfl, k2_0, k2_1, hR5, hg5⟩
    have S5 := S4.rd hRl hg5 hR5
    clear S4 hg5 hR5
    have hz5 := S5.L.lt
    obtain ⟨key, hkey⟩ : ∃ key : Int, 1 + 100 * k1 + k2 = key := ⟨_, rfl⟩
    have hkb : 1 ≤ key ∧ key ≤ 9999 := by omega
    have HKEY := Lib.hid hkey
    go_upto_region 7 with fail
    go_cut [8, 9] from 10 (fun rp ob wc => ∃ (X : Nat) (r : Rep) (B1 : Option Addr) (d1 : Nat) (B2 : Option Addr) (d2 : Nat) (b : Bool), rp = .pointer (some ⟨X, 0, none⟩) ∧ ob = .bool b ∧ replayOk r = true ∧ Bk wc X 30 #[.int .i64 r.lv, .int .i64 r.pl, .int .i64 r.sc, .slice B1 r.ins.length d1, .slice B2 r.hs.length d2, .int .i64 r.tag] ∧ GoodS R (n + 600) M l2 A2 c2 A3 c3 w wc ∧ Own wc (w.heap.size + 2) 68 3 encInp (.slice B1 r.ins.length d1) r.ins ∧ Own wc (w.heap.size + 2) 3 1 encInt (.slice B2 r.hs.length d2) r.hs ∧ w.heap.size + 1 < X)
    case first =>
      have hnw := S5.p.nw
      have L5 := S5.L
      have hng := S5.p.ng
      go_region_held3 (fun w' => w'.cell? ⟨M, 0, none⟩ = some (.int .i64 l2.id) ∧ w'.cell? ⟨M, 1, none⟩ = some (.int .i64 l2.ticks) ∧ w'.cell? ⟨M, 2, none⟩ = some (.int .i64 l2.start.x) ∧ w'.cell? ⟨M, 3, none⟩ = some (.int .i64 l2.start.y) ∧ w'.cell? ⟨M, 4, none⟩ = some (.slice A2 l2.walls.length c2) ∧ w'.cell? ⟨M, 5, none⟩ = some (.slice A3 l2.gates.length c3) ∧ w'.cell? ⟨M, 6, none⟩ = some (.int .i64 l2.fin.lo.x) ∧ w'.cell? ⟨M, 7, none⟩ = some (.int .i64 l2.fin.lo.y) ∧ w'.cell? ⟨M, 8, none⟩ = some (.int .i64 l2.fin.hi.x) ∧ w'.cell? ⟨M, 9, none⟩ = some (.int .i64 l2.fin.hi.y) ∧ w'.cell? ⟨M, 10, none⟩ = some (.int .i64 l2.bans))
        (first | (with_reducible exact keepLS S5.drew.L) | (with_reducible exact keepLS (S5.alloc _).drew.L) | (with_reducible exact keepLS S6.L) | (with_reducible exact keepLS (S6.alloc _).L) | (with_reducible exact keepLS S7.L) | (with_reducible exact keepLS (S7.alloc _).L) | (with_reducible exact keepLS S8.L) | (with_reducible exact keepLS (S8.alloc _).L) | (exact keepLS (t := 87) (by (repeat first | (with_reducible first | assumption | exact kN _ _ _ (by simp) | refine kA ?_ _ | refine kD ?_ | refine kW ?_ _ | apply Bk.set' | refine kF ?_ (by simp <;> omega) _ | refine kL ?_ ‹_› | refine kG ?_ ‹_› (by first | omega | simp <;> omega)) | exact ⟨by with_reducible rfl⟩ | exact ⟨by simp⟩))))
        (first
        | (go_simp; go_at_call 72; refine (pick_n R (n + 300 + 1 + 1) 10 _ (by first | exact S5.drew.r | exact (S5.alloc _).drew.r) (by omega) (by omega) (by omega)).mono ?_; rintro e w6 ⟨pl, rfl, pl_0, pl_1, hR6, hg6⟩; have S6 : GoodS R (n + 300 + 1 + 1 + 1) M l2 A2 c2 A3 c3 w w6 := (by first | exact S5.drew.rd hRl hg6 hR6 | exact (S5.alloc _).drew.rd hRl hg6 hR6); have y6 : w5.heap.size ≤ w6.heap.size := (by have := hg6.size; first | exact this | (simp at this; omega)); (first | have N6 : Bk w6 w5.heap.size 30 #[.int .i64 0, .int .i64 0, .int .i64 0, .slice none 0 0, .slice none 0 0, .int .i64 0] := (Bk.new w5 _ _ rfl).drew.grown hg6 (by intro e; injection e with e <;> omega) | skip))
        | (go_simp; go_at_call 74; refine (l92Run_any l2 A2 A3 c2 c3 R (n + 300 + 1 + 1 + 1) _ (by first | exact S6.r | exact (S6.alloc _).r) (by omega) S6.p (by first | exact S6.W.sl' encBx_len | exact (S6.alloc _).W.sl' encBx_len) (by first | exact S6.G.sl' encBx_len | exact (S6.alloc _).G.sl' encBx_len) (fun a e => by subst e; have := S6.W.lt a.block rfl; exact ⟨by omega, by first | exact this.2 | (simp; omega)⟩) (fun a e => by subst e; have := S6.G.lt a.block rfl; exact ⟨by omega, by first | exact this.2 | (simp; omega)⟩)).mono ?_; rintro e w7 ⟨ins, A7, c7, rfl, hleg, hO7, hR7, hg7⟩; have S7 : GoodS R (n + 300 + 1 + 1 + 1 + 200) M l2 A2 c2 A3 c3 w w7 := (by first | exact S6.rd hRl hg7 hR7 | exact (S6.alloc _).rd hRl hg7 hR7); have hil : ins.length ≤ 60 := (legal_len hleg S6.p.t1 S6.p.t0).1; have y7 : w6.heap.size ≤ w7.heap.size := (by have := hg7.size; first | exact this | (simp at this; omega)); (first | have N7 := N6.grown hg7 (by intro e; injection e with e <;> omega) | have N7 : Bk w7 w6.heap.size 30 #[.int .i64 0, .int .i64 0, .int .i64 0, .slice none 0 0, .slice none 0 0, .int .i64 0] := (Bk.new w6 _ _ rfl).grown hg7 (by intro e; injection e with e <;> omega) | skip))
        | (go_at_call 73; refine (specReplayMake_any l2 pl key ins _ _ _ _ _ _ _ (by first | exact S7.W.sl' encBx_len | exact (S7.alloc _).W.sl' encBx_len) (by first | exact S7.G.sl' encBx_len | exact (S7.alloc _).G.sl' encBx_len) (by first | exact hO7.sl' encInp_len | exact (hO7.alloc _).sl' encInp_len) hO7.none_cap (by omega) (by omega) (by omega)).mono ?_; rintro e w8 ⟨A8, c8, A9, c9, rfl, hP8, hH8, hb8, _⟩; have S8 : GoodS R (n + 300 + 1 + 1 + 1 + 200) M l2 A2 c2 A3 c3 w w8 := (by first | exact S7.later hb8 | exact (S7.alloc _).later hb8); have P8 := hP8.mono (B' := w.heap.size + 2) (by have := S7.L.lt; first | omega | (simp; omega)); have H8 := hH8.mono (B' := w.heap.size + 2) (by have := S7.L.lt; first | omega | (simp; omega)); have y8 : w7.heap.size ≤ w8.heap.size := (by have := hb8.size; first | exact this | (simp at this; omega)); (first | (have N8 := N7.later hb8; have zN8 := N8.lt; obtain ⟨⟨x0, x1, x2, x3, x4, x5⟩, xf⟩ := N8.c6) | (have N8 : Bk w8 w7.heap.size 30 #[.int .i64 0, .int .i64 0, .int .i64 0, .slice none 0 0, .slice none 0 0, .int .i64 0] := Bk.later (Bk.new w7 _ _ rfl) hb8; have zN8 := N8.lt; obtain ⟨⟨x0, x1, x2, x3, x4, x5⟩, xf⟩ := N8.c6) | skip)))
      all_goals
        have hok := makeR_ok l2 pl key ins
        have HOK := Lib.hid hok
        clear hok S5 S6 S7 hP8 hH8 hO7 hR6 hR7 hg6 hg7 L5
        generalize makeR l2 pl key ins = r at *
        generalize makeOk l2 pl key ins = ob at *
        have z8 := S8.L.lt
        have m8 := S8.m
        go_wp2_with fail
        go_meet
        (first | have fP := P8.ne N8 (by decide) | have fP : ∀ g, (Value.slice A8 r.ins.length c8).ownBlock = some g → g ≠ w8.heap.size := fun g e => by have := (P8.lt g e).2; omega)
        (first | have fH := H8.ne N8 (by decide) | have fH : ∀ g, (Value.slice A9 r.hs.length c9).ownBlock = some g → g ≠ w8.heap.size := fun g e => by have := (H8.lt g e).2; omega)
        (first | have fW := S8.W.ne N8 (by decide) | have fW : ∀ g, (Value.slice A2 l2.walls.length c2).ownBlock = some g → g ≠ w8.heap.size := fun g e => by have := (S8.W.lt g e).2; omega)
        (first | have fG := S8.G.ne N8 (by decide) | have fG : ∀ g, (Value.slice A3 l2.gates.length c3).ownBlock = some g → g ≠ w8.heap.size := fun g e => by have := (S8.G.lt g e).2; omega)
        have sL := S8.L
        have sZ := S8.Z
        have sY := S8.Y
        have sW := S8.W
        have sG := S8.G
        have sr := S8.r
        have sg := S8.g
        have sp := S8.p
        clear S8
        exact ⟨_, r, A8, c8, A9, c9, ob, rfl, rfl, HOK.out, by (repeat first | (with_reducible first | assumption | exact kN _ _ _ (by simp) | refine kA ?_ _ | refine kD ?_ | refine kW ?_ _ | apply Bk.set' | refine kF ?_ (by simp <;> omega) _ | refine kL ?_ ‹_› | refine kG ?_ ‹_› (by first | omega | simp <;> omega)) | exact ⟨by with_reducible rfl⟩ | exact ⟨by simp⟩), ⟨by (repeat first | (with_reducible first | assumption | exact kN _ _ _ (by simp) | refine kA ?_ _ | refine kD ?_ | refine kW ?_ _ | apply Bk.set' | refine kF ?_ (by simp <;> omega) _ | refine kL ?_ ‹_› | refine kG ?_ ‹_› (by first | omega | simp <;> omega)) | exact ⟨by with_reducible rfl⟩ | exact ⟨by simp⟩), by (repeat first | (with_reducible first | assumption | exact kN _ _ _ (by simp) | refine kA ?_ _ | refine kD ?_ | refine kW ?_ _ | apply Bk.set' | refine kF ?_ (by simp <;> omega) _ | refine kL ?_ ‹_› | refine kG ?_ ‹_› (by first | omega | simp <;> omega)) | exact ⟨by with_reducible rfl⟩ | exact ⟨by simp⟩), by (repeat first | (with_reducible first | assumption | exact kN _ _ _ (by simp) | refine kA ?_ _ | refine kD ?_ | refine kW ?_ _ | apply Bk.set' | refine kF ?_ (by simp <;> omega) _ | refine kL ?_ ‹_› | refine kG ?_ ‹_› (by first | omega | simp <;> omega)) | exact ⟨by with_reducible rfl⟩ | exact ⟨by simp⟩), by (with_reducible repeat first | assumption | refine Own.fars ?_ ‹_› _ | refine Own.alloc ?_ _ | refine Own.drew ?_ | refine Own.drewN ?_ _ | refine Own.set (by first | omega | simp <;> omega) ?_ _ | refine Own.later ?_ ‹_› | refine Own.gk ?_ ‹_› (by omega)), by (with_reducible repeat first | assumption | refine Own.fars ?_ ‹_› _ | refine Own.alloc ?_ _ | refine Own.drew ?_ | refine Own.drewN ?_ _ | refine Own.set (by first | omega | simp <;> omega) ?_ _ | refine Own.later ?_ ‹_› | refine Own.gk ?_ ‹_› (by omega)), (show RdL _ R (n + 300 + 1 + 1 + 1 + 200) by (with_reducible repeat first | assumption | refine RdL.alloc ?_ _ | refine RdL.drew ?_ | refine RdL.drewN ?_ _ | refine RdL.far ?_ (by first | omega | simp <;> omega) _ | refine RdL.later ?_ ‹_›)).more (by omega), by (with_reducible repeat first | assumption | exact grownBy_refl _ _ | refine gr_alloc ?_ _ | refine gr_set (by first | omega | simp <;> omega) ?_ _ | refine gr_drew ?_ | refine gr_drewN ?_ _ | refine gr_after ?_ ‹_› | refine gr_below ?_ ‹_›), m8, sp⟩, by (with_reducible repeat first | assumption | refine Own.fars ?_ ‹_› _ | refine Own.alloc ?_ _ | refine Own.drew ?_ | refine Own.drewN ?_ _ | refine Own.set (by first | omega | simp <;> omega) ?_ _ | refine Own.later ?_ ‹_› | refine Own.gk ?_ ‹_› (by omega)), by (with_reducible repeat first | assumption | refine Own.fars ?_ ‹_› _ | refine Own.alloc ?_ _ | refine Own.drew ?_ | refine Own.drewN ?_ _ | refine Own.set (by first | omega | simp <;> omega) ?_ _ | refine Own.later ?_ ‹_› | refine Own.gk ?_ ‹_› (by omega)), by omega⟩
    case rest =>
      obtain ⟨X, r, B1, d1, B2, d2, b, rfl, rfl, hok, hX, hS, hP, hH, hXz⟩ := hcut
      have HOK := Lib.hid hok
      have fP := hP.ne hX (by decide)
      have zX := hX.lt
      have zL := hS.L.lt
      have zr := hS.r.lt
      clear S5 hok
      obtain ⟨⟨q0, q1, q2, q3, q4, q5, q6, q7, q8, q9, q10⟩, qf⟩ := hS.L.c11; obtain ⟨⟨z0, z1, z2, z3, z4, z5, z6, z7, z8, z9, z10⟩, zf⟩ := hS.Z.c11; obtain ⟨⟨y0, y1, y2, y3, y4, y5⟩, yf⟩ := hS.Y.c6; obtain ⟨⟨x0, x1, x2, x3, x4, x5⟩, xf⟩ := hX.c6
      go_wp2
      go_region
      go_wp2
      refine bodyPost_ret (v := .tuple #[.agg #[.int .i64 l2.id, .int .i64 l2.ticks, .int .i64 l2.start.x, .int .i64 l2.start.y, .slice A2 l2.walls.length c2, .slice A3 l2.gates.length c3, .int .i64 l2.fin.lo.x, .int .i64 l2.fin.lo.y, .int .i64 l2.fin.hi.x, .int .i64 l2.fin.hi.y, .int .i64 l2.bans], .int .i64 key, .agg #[.int .i64 r.lv, .int .i64 r.pl, .int .i64 r.sc, .slice B1 r.ins.length d1, .slice B2 r.hs.length d2, .int .i64 r.tag]]) (by simp [results, Tryd.results53, go_sem, *]) rfl ⟨l2, A2, c2, A3, c3, key, r, B1, d1, B2, d2, rfl, hS.p, hkb.1, hkb.2, HOK.out, ?_, ?_, ?_, ?_, ?_, ?_⟩
      · refine Own.mono (B := w.heap.size + 2) ?_ (by omega)
        have hh := hS.W
        (with_reducible repeat first | assumption | refine Own.fars ?_ ‹_› _ | refine Own.alloc ?_ _ | refine Own.drew ?_ | refine Own.drewN ?_ _ | refine Own.set (by first | omega | simp <;> omega) ?_ _ | refine Own.later ?_ ‹_› | refine Own.gk ?_ ‹_› (by omega))
      · refine Own.mono (B := w.heap.size + 2) ?_ (by omega)
        have hh := hS.G
        (with_reducible repeat first | assumption | refine Own.fars ?_ ‹_› _ | refine Own.alloc ?_ _ | refine Own.drew ?_ | refine Own.drewN ?_ _ | refine Own.set (by first | omega | simp <;> omega) ?_ _ | refine Own.later ?_ ‹_› | refine Own.gk ?_ ‹_› (by omega))
      · refine Own.mono (B := w.heap.size + 2) ?_ (by omega)
        (with_reducible repeat first | assumption | refine Own.fars ?_ ‹_› _ | refine Own.alloc ?_ _ | refine Own.drew ?_ | refine Own.drewN ?_ _ | refine Own.set (by first | omega | simp <;> omega) ?_ _ | refine Own.later ?_ ‹_› | refine Own.gk ?_ ‹_› (by omega))
      · refine Own.mono (B := w.heap.size + 2) ?_ (by omega)
        (with_reducible repeat first | assumption | refine Own.fars ?_ ‹_› _ | refine Own.alloc ?_ _ | refine Own.drew ?_ | refine Own.drewN ?_ _ | refine Own.set (by first | omega | simp <;> omega) ?_ _ | refine Own.later ?_ ‹_› | refine Own.gk ?_ ‹_› (by omega))
      · have hh := hS.r
        (with_reducible repeat first | assumption | refine RdL.alloc ?_ _ | refine RdL.drew ?_ | refine RdL.drewN ?_ _ | refine RdL.far ?_ (by first | omega | simp <;> omega) _ | refine RdL.later ?_ ‹_›)
      · have hh := hS.g
        (with_reducible repeat first | assumption | exact grownBy_refl _ _ | refine gr_alloc ?_ _ | refine gr_set (by first | omega | simp <;> omega) ?_ _ | refine gr_drew ?_ | refine gr_drewN ?_ _ | refine gr_after ?_ ‹_› | refine gr_below ?_ ‹_›)
end Go.Proofs.YtdpoicfciogfnaaDoor
