/- The plain engine: vectors, boxes, levels, states, one tick, runs, hashes. No program is named here. -/
import Derived.Test.YtmfhfebakdkkdaaReps
namespace Go.Proofs.Ytmfhfebakdkkdaa
open Go.RowKit

structure V2 where
  x : Int
  y : Int
structure Bx where
  lo : V2
  hi : V2
structure Lev where
  id : Int
  ticks : Int
  start : V2
  walls : List Bx
  gates : List Bx
  fin : Bx
  bans : Int
structure St where
  t : Int
  p : V2
  f : V2
  d : Int
  g : Int
  dn : Bool
  ov : Bool
def encV2 (v : V2) : List Value := [.int .i64 v.x, .int .i64 v.y]
def encBx (b : Bx) : List Value := [.int .i64 b.lo.x, .int .i64 b.lo.y, .int .i64 b.hi.x, .int .i64 b.hi.y]
theorem encV2_len (v : V2) : (encV2 v).length = 2 := rfl
theorem encBx_len (v : Bx) : (encBx v).length = 4 := rfl

/-! ### square roots -/
/-- The greatest number whose square is at most n. -/
def isqN : Nat → Nat
  | 0 => 0
  | n + 1 => if (isqN n + 1) * (isqN n + 1) ≤ n + 1 then isqN n + 1 else isqN n
theorem isqN_spec : ∀ n, isqN n * isqN n ≤ n ∧ n < (isqN n + 1) * (isqN n + 1)
  | 0 => by simp [isqN]
  | n + 1 => by
    obtain ⟨h1, h2⟩ := isqN_spec n
    rw [isqN]
    split
    · rename_i h
      refine ⟨h, ?_⟩
      have e : (isqN n + 1 + 1) * (isqN n + 1 + 1) = (isqN n + 1) * (isqN n + 1) + (2 * isqN n + 3) := by
        simp only [Nat.add_mul, Nat.mul_add, Nat.one_mul, Nat.mul_one]; omega
      omega
    · rename_i h
      exact ⟨by omega, by omega⟩
def isq (n : Int) : Int := (isqN n.toNat : Nat)
theorem isq_spec {n : Int} (h : 0 ≤ n) : 0 ≤ isq n ∧ isq n * isq n ≤ n ∧ n < (isq n + 1) * (isq n + 1) := by
  obtain ⟨m, rfl⟩ := Int.eq_ofNat_of_zero_le h
  obtain ⟨h1, h2⟩ := isqN_spec m
  unfold isq
  rw [Int.toNat_natCast]
  refine ⟨by omega, ?_, ?_⟩
  · exact_mod_cast h1
  · exact_mod_cast h2
theorem sq_le {a b : Int} (ha : 0 ≤ a) (h : a ≤ b) : a * a ≤ b * b := Int.mul_le_mul h h ha (by omega)
theorem sq_lt {a b : Int} (ha : 0 ≤ a) (h : a < b) : a * a < b * b := Int.lt_of_lt_of_le (Int.mul_lt_mul_of_pos_right h (by omega) |> fun h1 => Int.lt_of_le_of_lt (Int.mul_le_mul_of_nonneg_left (by omega) ha) h1) (Int.le_refl _)
theorem lt_of_sq {a b : Int} (hb : 0 ≤ b) (h : a * a < b * b) : a < b := by
  rcases Int.lt_or_le a b with h1 | h1
  · exact h1
  · have := sq_le hb h1; omega
theorem le_of_sq {a b : Int} (hb : 0 ≤ b) (h : a * a ≤ b * b) : a ≤ b := by
  rcases Int.lt_or_le b a with h1 | h1
  · have := sq_lt hb h1; omega
  · exact h1
theorem isq_eq {n r : Int} (hr : 0 ≤ r) (h1 : r * r ≤ n) (h2 : n < (r + 1) * (r + 1)) : isq n = r := by
  have hn : 0 ≤ n := Int.le_trans (Int.mul_nonneg hr hr) h1
  obtain ⟨g0, g1, g2⟩ := isq_spec hn
  have a := lt_of_sq (b := r + 1) (by omega) (Int.lt_of_le_of_lt g1 h2)
  have b := lt_of_sq (b := isq n + 1) (by omega) (Int.lt_of_le_of_lt h1 g2)
  omega
theorem isq_mono {a b : Int} (ha : 0 ≤ a) (h : a ≤ b) : isq a ≤ isq b := by
  obtain ⟨g0, g1, g2⟩ := isq_spec ha
  obtain ⟨k0, k1, k2⟩ := isq_spec (n := b) (by omega)
  have := lt_of_sq (a := isq a) (b := isq b + 1) (by omega) (by omega)
  omega
theorem isq_le {n r : Int} (hn : 0 ≤ n) (hr : 0 ≤ r) (h : n < (r + 1) * (r + 1)) : isq n ≤ r := by
  obtain ⟨g0, g1, g2⟩ := isq_spec hn
  have := lt_of_sq (a := isq n) (b := r + 1) (by omega) (by omega)
  omega
theorem le_isq {n r : Int} (hn : 0 ≤ n) (h : r * r ≤ n) : r ≤ isq n := by
  obtain ⟨g0, g1, g2⟩ := isq_spec hn
  have := lt_of_sq (a := r) (b := isq n + 1) (by omega) (by omega)
  omega

/-! ### vectors -/
def vOk (v : V2) : Bool := inR (-1000000) 1000000 v.x && inR (-1000000) 1000000 v.y
theorem vOk_iff {v : V2} : vOk v = true ↔ -1000000 ≤ v.x ∧ v.x ≤ 1000000 ∧ -1000000 ≤ v.y ∧ v.y ≤ 1000000 := by
  simp [vOk, inR_iff, and_assoc]
def mul1 (a b : Int) : Int := (a * b).tdiv 1000
def scaleV (v : V2) (k : Int) : V2 := ⟨mul1 v.x k, mul1 v.y k⟩
def len2 (v : V2) : Int := v.x * v.x + v.y * v.y
def lenV (v : V2) : Int := isq (len2 v)
def dirT : List Int := [1000, 924, 707, 383, 0, -383, -707, -924, -1000, -924, -707, -383, 0, 383, 707, 924]
def dirV (d : Int) : V2 := ⟨dirT.getD d.toNat 0, dirT.getD ((d + 12) % 16).toNat 0⟩
def clampV (v : V2) (m : Int) : V2 := if lenV v ≤ m then v else ⟨(v.x * m).tdiv (lenV v), (v.y * m).tdiv (lenV v)⟩

/-! ### boxes and levels -/
def bxOk (b : Bx) : Bool := vOk b.lo && (vOk b.hi && (decide (b.lo.x ≤ b.hi.x) && decide (b.lo.y ≤ b.hi.y)))
def hasV (b : Bx) (v : V2) : Bool := inR b.lo.x b.hi.x v.x && inR b.lo.y b.hi.y v.y
def nearV (b : Bx) (v : V2) : V2 := ⟨max b.lo.x (min v.x b.hi.x), max b.lo.y (min v.y b.hi.y)⟩
def touchB (b : Bx) (v : V2) (r : Int) : Bool := decide ((v.x - (nearV b v).x) * (v.x - (nearV b v).x) + (v.y - (nearV b v).y) * (v.y - (nearV b v).y) ≤ r * r)
def freeB (l : Lev) (v : V2) : Bool := l.walls.all fun b => !touchB b v 500
def boxesB (l : List Bx) : Bool := l.all bxOk
def levOk (l : Lev) : Bool :=
  inR 0 99 l.id && (inR 1 60 l.ticks && (vOk l.start && (decide (l.walls.length ≤ 4) && (boxesB l.walls && (decide (l.gates.length ≤ 3) && (boxesB l.gates && (bxOk l.fin && (inR 0 3 l.bans && freeB l l.start))))))))
def banB (l : Lev) (b : Int) : Bool := l.bans / b % 2 == 1
def folB (l : Lev) (s : Int) (x : Inp) : Bool := inpOk x && (!(x.z && banB l 2) && (!(x.p == 2 && banB l 1) && inR (-1) 1 (x.s - s)))

/-- Coordinates from which no square leaves the range of int. -/
def bdV (v : V2) : Prop := -100000000 ≤ v.x ∧ v.x ≤ 100000000 ∧ -100000000 ≤ v.y ∧ v.y ≤ 100000000
def bdBx (b : Bx) : Prop := bdV b.lo ∧ bdV b.hi
theorem sq_bd {a : Int} (h : -200000000 ≤ a ∧ a ≤ 200000000) : 0 ≤ a * a ∧ a * a ≤ 40000000000000000 := by
  have h1 := Int.mul_le_mul_of_nonneg_right (a := -200000000) (b := a) (c := 200000000 + a) h.1 (by omega)
  have h2 := Int.mul_nonneg (a := 200000000 - a) (b := 200000000 + a) (by omega) (by omega)
  have e1 : (200000000 - a) * (200000000 + a) = 40000000000000000 - a * a := by
    rw [Int.sub_mul, Int.mul_add, Int.mul_add, Int.mul_comm a 200000000]; omega
  have h3 : 0 ≤ a * a := by
    rcases Int.le_total 0 a with h | h
    · exact Int.mul_nonneg h h
    · exact Int.mul_nonneg_of_nonpos_of_nonpos h h
  omega
theorem near_bd {b : Bx} {v : V2} (hb : bdBx b) (hv : bdV v) : bdV (nearV b v) := by
  obtain ⟨h1, h2⟩ := hb
  unfold bdV at *
  simp only [nearV]
  omega

/-! ### legal inputs -/
def pausesOf (ins : List Inp) : Int := ((ins.filter fun x => x.z).length : Nat)
def steerOf (ins : List Inp) : Int := (ins.getLast?.map (·.s)).getD 0
def badAt (l : Lev) (ins : List Inp) (k : Nat) : Bool :=
  match ins[k]? with
  | none => false
  | some x => decide (l.ticks ≤ k) || (decide (3 < pausesOf (ins.take (k + 1))) || !folB l (steerOf (ins.take k)) x)
def legal (l : Lev) (ins : List Inp) : Int := (((List.range ins.length).find? (badAt l ins)).map fun k => (k : Int)).getD (-1)
theorem legal_at {l : Lev} {ins : List Inp} {k : Nat} (hk : k < ins.length) (h : ∀ j, j < k → badAt l ins j = false) (hb : badAt l ins k = true) : legal l ins = k := by
  unfold legal
  have : (List.range ins.length).find? (badAt l ins) = some k := by
    rw [List.find?_range_eq_some]
    exact ⟨hb, by simpa using hk, fun j hj => by simp [h j hj]⟩
  rw [this]; rfl
theorem legal_none {l : Lev} {ins : List Inp} (h : ∀ j, j < ins.length → badAt l ins j = false) : legal l ins = -1 := by
  unfold legal
  have : (List.range ins.length).find? (badAt l ins) = none := by
    rw [List.find?_eq_none]
    intro j hj
    rw [List.mem_range] at hj
    simp [h j hj]
  rw [this]; rfl
theorem legal_cases (l : Lev) (ins : List Inp) : (legal l ins = -1 ∧ ∀ j, j < ins.length → badAt l ins j = false) ∨ ∃ k : Nat, k < ins.length ∧ legal l ins = k ∧ badAt l ins k = true ∧ ∀ j, j < k → badAt l ins j = false := by
  unfold legal
  cases e : (List.range ins.length).find? (badAt l ins) with
  | none =>
    left
    refine ⟨rfl, fun j hj => ?_⟩
    have := List.find?_eq_none.1 e j (List.mem_range.2 hj)
    simpa using this
  | some k =>
    right
    rw [List.find?_range_eq_some] at e
    obtain ⟨h1, h2, h3⟩ := e
    exact ⟨k, by simpa using h2, rfl, h1, fun j hj => by simpa using h3 j hj⟩
def runOk (l : Lev) (ins : List Inp) : Bool := levOk l && decide (legal l ins < 0)

/-! ### one tick -/
def st0 (l : Lev) : St := ⟨0, l.start, ⟨0, 0⟩, 0, 0, false, false⟩
def ownB (s : St) : Bool := inR 0 60 s.t && (vOk s.p && (vOk s.f && (decide (lenV s.f ≤ 2000) && (inR 0 15 s.d && (inR 0 3 s.g && !(s.dn && s.ov))))))
def validB (l : Lev) (s : St) : Bool := levOk l && (ownB s && (decide (s.t ≤ l.ticks) && (decide (s.g ≤ (l.gates.length : Int)) && (freeB l s.p && (!s.dn || s.g == (l.gates.length : Int))))))
def fastV (f : V2) (d pw : Int) : V2 :=
  if pw = 1 then clampV ⟨f.x + (scaleV (dirV d) 200).x, f.y + (scaleV (dirV d) 200).y⟩ 2000 else if pw = 2 then scaleV f 700 else scaleV f 950
/-- Along X, then along Y: the place and how fast the car is after a move. -/
def moveX (l : Lev) (p f : V2) : V2 × V2 := if freeB l ⟨p.x + f.x, p.y⟩ then (⟨p.x + f.x, p.y⟩, f) else (p, ⟨-(f.x.tdiv 2), f.y⟩)
def moveY (l : Lev) (p f : V2) : V2 × V2 := if freeB l ⟨p.x, p.y + f.y⟩ then (⟨p.x, p.y + f.y⟩, f) else (p, ⟨f.x, -(f.y.tdiv 2)⟩)
def moveV (l : Lev) (p f : V2) : V2 × V2 := moveY l (moveX l p f).1 (moveX l p f).2
def gateB (l : Lev) (g : Int) (p : V2) : Bool := match l.gates[g.toNat]? with
  | some b => decide (0 ≤ g) && hasV b p
  | none => false
def turnOf (d s : Int) : Int := (d + s + 16) % 16
def driveS (l : Lev) (s : St) (x : Inp) : St :=
  let d := turnOf s.d x.s
  let m := moveV l s.p (fastV s.f d x.p)
  let g := if gateB l s.g m.1 then s.g + 1 else s.g
  if vOk m.1 then ⟨s.t, m.1, m.2, d, g, g == (l.gates.length : Int) && hasV l.fin m.1, false⟩ else ⟨s.t, s.p, s.f, s.d, s.g, s.dn, true⟩
def stepS (l : Lev) (s : St) (x : Inp) : St :=
  if s.dn || s.ov then s else if x.z then ⟨s.t + 1, s.p, s.f, s.d, s.g, s.dn, s.ov⟩ else driveS l ⟨s.t + 1, s.p, s.f, s.d, s.g, s.dn, s.ov⟩ x
def runTo (l : Lev) (ins : List Inp) (n : Nat) : St := (ins.take n).foldl (stepS l) (st0 l)
theorem runTo_zero (l : Lev) (ins : List Inp) : runTo l ins 0 = st0 l := rfl
theorem runTo_succ {l : Lev} {ins : List Inp} {k : Nat} {x : Inp} (hx : ins[k]? = some x) : runTo l ins (k + 1) = stepS l (runTo l ins k) x := by
  unfold runTo
  rw [List.take_add_one, hx, List.foldl_append]; rfl
theorem runTo_take {l : Lev} {ins : List Inp} {n k : Nat} (h : k ≤ n) : runTo l (ins.take n) k = runTo l ins k := by
  unfold runTo
  rw [List.take_take, Nat.min_eq_left h]

/-! ### hashes -/
def hstep (h n : Int) : Int := (8191 * h + n % 1000003 + 1) % 1000003
def hashL (h : Int) (l : List Int) : Int := l.foldl hstep h
def flagOf (s : St) : Int := (if s.dn then 1 else 0) + (if s.ov then 2 else 0)
def hashS (s : St) : Int := hashL 17 [s.t, s.p.x, s.p.y, s.f.x, s.f.y, s.d, s.g, flagOf s]
theorem hstep_bd (h n : Int) : 0 ≤ hstep h n ∧ hstep h n ≤ 1000002 := by unfold hstep; omega
theorem hashL_take {h : Int} {l : List Int} {k : Nat} {x : Int} (hx : l[k]? = some x) : hashL h (l.take (k + 1)) = hstep (hashL h (l.take k)) x := by
  unfold hashL
  rw [List.take_add_one, hx, List.foldl_append]; rfl
theorem hashL_bd {h : Int} (h0 : 0 ≤ h ∧ h ≤ 1000002) : ∀ (l : List Int), 0 ≤ hashL h l ∧ hashL h l ≤ 1000002
  | [] => h0
  | x :: l => hashL_bd (hstep_bd h x) l
def hashesTo (l : Lev) (ins : List Inp) (k : Nat) : List Int := (List.range k).map fun i => hashS (runTo l ins (5 * (i + 1)))
def hashesR (l : Lev) (ins : List Inp) : List Int := if runOk l ins then hashesTo l ins (ins.length / 5) else []
theorem hashesTo_succ (l : Lev) (ins : List Inp) (k : Nat) : hashesTo l ins (k + 1) = hashesTo l ins k ++ [hashS (runTo l ins (5 * (k + 1)))] := by
  unfold hashesTo; rw [List.range_succ, List.map_append]; rfl
theorem hashesTo_len (l : Lev) (ins : List Inp) (k : Nat) : (hashesTo l ins k).length = k := by simp [hashesTo]
def fixB (n : Int) : Bool := inR (-2000000000) 2000000000 n
def tagL (key : Int) (l : List Int) : Int := hstep (hashL (hstep 17 key) l) key
def listB (l : List Int) : Bool := l.all fixB && decide (l.length ≤ 200)
def tagOf (key : Int) (l : List Int) : Int := if inR 1 9999 key && listB l then tagL key l else -1
def scoreR (l : Lev) (ins : List Inp) : Int := if runOk l ins then (if (runTo l ins ins.length).dn then (runTo l ins ins.length).t else -1) else -1
end Go.Proofs.Ytmfhfebakdkkdaa
