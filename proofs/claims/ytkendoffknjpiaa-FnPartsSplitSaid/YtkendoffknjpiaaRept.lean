/- slices.Repeat of one input; math/bits.Mul. -/
import Derived.Test.YtkendoffknjpiaaRInp
import Derived.Shelf.Bits.Mul64
import Derived.Laws.CopyOwn
import Derived.Deep.RegionLaw
namespace Go.Proofs.Ytkendoffknjpiaa
open Go.ChangeShapes Go.WideShapes Go.ChangeAt Go.RowKit
set_option maxHeartbeats 1000000 in
theorem bitsMul64_any (x y : Nat) (hx : x < 18446744073709551616) (hy : y < 18446744073709551616) (w : World) :
    Calls Try.prog 100 #[.int .u64 x, .int .u64 y] w fun e w' => e = .returned (.tuple #[.int .u64 ((x * y / 18446744073709551616 : Nat) : Int), .int .u64 ((x * y % 18446744073709551616 : Nat) : Int)]) ∧ w' = w := by
  obtain ⟨bd, bt, bw, hhi⟩ := Lib.mul64_hi x y hx hy
  have ba := Lib.half_mul_le (a := x / 4294967296) (b := y / 4294967296) (by omega) (by omega)
  have bb := Lib.half_mul_le (a := x / 4294967296) (b := y % 4294967296) (by omega) (by omega)
  have bc := Lib.half_mul_le (a := x % 4294967296) (b := y / 4294967296) (by omega) (by omega)
  have ba' : x / 4294967296 * (y / 4294967296) < 18446744073709551616 := by omega
  have bb' : x / 4294967296 * (y % 4294967296) < 18446744073709551616 := by omega
  have bc' : x % 4294967296 * (y / 4294967296) < 18446744073709551616 := by omega
  have bh1 : x / 4294967296 * (y / 4294967296) + (x / 4294967296 * (y % 4294967296) + x % 4294967296 * (y % 4294967296) / 4294967296) / 4294967296 < 18446744073709551616 := by omega
  have bh : x / 4294967296 * (y / 4294967296) + (x / 4294967296 * (y % 4294967296) + x % 4294967296 * (y % 4294967296) / 4294967296) / 4294967296 + ((x / 4294967296 * (y % 4294967296) + x % 4294967296 * (y % 4294967296) / 4294967296) % 4294967296 + x % 4294967296 * (y / 4294967296)) / 4294967296 < 18446744073709551616 := by omega
  go_enter Try.func100, Try.ntmps100
  go_wp2
  simp only [Mul64.maskN x hx, Mul64.maskN y hy, Mul64.divN, Mul64.mulN, Mul64.addN, Mul64.wrapN _ bd, Mul64.wrapN _ bb', Mul64.wrapN _ bt, Mul64.maskN _ bt, Mul64.wrapN _ bc', Mul64.wrapN _ bw, Mul64.wrapN _ ba', Mul64.wrapN _ bh1, Mul64.wrapN _ bh, Mul64.wrapM (x * y)]
  rw [hhi]
  go_ret2
  exact ⟨rfl, rfl⟩
theorem bitsMul_one (y : Nat) (hy : y ≤ 1000) (w : World) :
    Calls Try.prog 86 #[.int .u64 1, .int .u64 y] w fun e w' => e = .returned (.tuple #[.int .u64 0, .int .u64 y]) ∧ w = w' := by
  have h := bitsMul64_any 1 y (by omega) (by omega) w
  rw [show 1 * y / 18446744073709551616 = 0 by omega, show 1 * y % 18446744073709551616 = y by omega] at h
  go_enter Try.func86, Try.ntmps86
  go_wp2_with (go_at_call 100; refine h.mono ?_; rintro e w' ⟨rfl, rfl⟩)
  go_ret2
  exact ⟨rfl, rfl⟩
theorem run_copyN {P : Program} (w : World) (dT sT ty elem : TypeId) (g o dLen dCap : Nat) (a : Addr) (sLen sCap : Nat) (cur : Array Value) (t : TypeId) (cs : List Value) (n sz : Nat)
    (hu : P.underlying dT = some (.slice elem)) (hs : (P.info? elem).map (·.size) = some sz)
    (hg : w.heap[g]? = some (.cells cur t (0, 0))) (hm : Nat.min sLen dLen = n) (hn : cs.length = n * sz)
    (hsrc : ∀ j v, cs[j]? = some v → w.cell? (a.add j) = some v) (hfit : o + cs.length ≤ cur.size) (h1 : ∀ v ∈ cs, v.oneCell' = true) :
    (Builtin.copy_ #[dT, sT] ty #[.slice (some ⟨g, o, none⟩) dLen dCap, .slice (some a) sLen sCap]).run P w =
      .ok (goInt n) (w.setRow g (cur.toList.take o ++ cs ++ cur.toList.drop (o + cs.length)).toArray) := by
  have hl := run_loadCells_list (P := P) w a cs hsrc
  have hst := run_storeCells_at P g o t cs 0 cur w hg (by simpa using hfit) h1
  cases hq : P.info? elem with
  | none => simp [hq] at hs
  | some i =>
    have hi : i.size = sz := by simpa [hq] using hs
    have hm' : min sLen dLen = n := hm
    rw [hn] at hl
    simp [Builtin.copy_, run_underlying hu, Builtin.lenOf, Builtin.firstCells, sizeOf, typeInfo, hq, hi, hm', hl, hst]
theorem wp_copyN {P : Program} {w : World} {o : Oper} {a : Act} {K : Act → World → Prop} {Q : Exit → Act → World → Prop} (d s : Operand) (dT sT : TypeId)
    (ho : o.op = .call { callee := .builtin .copy, args := #[d, s], argTypes := #[dT, sT] }) (elem : TypeId) (sz : Nat) (hu : P.underlying dT = some (.slice elem)) (hsz : (P.info? elem).map (·.size) = some sz)
    (g off dLen dCap : Nat) (ad : Addr) (sLen sCap : Nat) (hd : a.eval d = .slice (some ⟨g, off, none⟩) dLen dCap) (hs : a.eval s = .slice (some ad) sLen sCap)
    (cur : Array Value) (t : TypeId) (hg : w.heap[g]? = some (.cells cur t (0, 0))) (cs : List Value) (n : Nat) (hm : Nat.min sLen dLen = n) (hn : cs.length = n * sz)
    (hsrc : ∀ j v, cs[j]? = some v → w.cell? (ad.add j) = some v) (hfit : off + cs.length ≤ cur.size) (h1 : ∀ v ∈ cs, v.oneCell' = true)
    (h : ∀ w', w'.heap[g]? = some (.cells (cur.toList.take off ++ cs ++ cur.toList.drop (off + cs.length)).toArray t (0, 0)) → Below g w w' → K (a.put o.dst (goInt n)) w') : o.wp P a w K Q := by
  have hrun := run_copyN (P := P) w dT sT o.type elem g off dLen dCap ad sLen sCap cur t cs n sz hu hsz hg hm hn hsrc hfit h1
  unfold Oper.wp
  simp [execOp, ho, resolve, invoke, builtin, hd, hs, hrun, Result.andThen]
  exact h _ (by simpa using setRow_heap w g cur _ t _ hg) (below_setRow (Below.refl _ _) (Nat.le_refl _) _)
theorem wpList_copyN {P : Program} {w : World} {ops : Array Oper} {rest : List Oper} {o : Oper} {a : Act} {Q : Exit → Act → World → Prop} (hgd : o.guard = none) (d s : Operand) (dT sT : TypeId)
    (ho : o.op = .call { callee := .builtin .copy, args := #[d, s], argTypes := #[dT, sT] }) (elem : TypeId) (sz : Nat) (hu : P.underlying dT = some (.slice elem)) (hsz : (P.info? elem).map (·.size) = some sz)
    (g off dLen dCap : Nat) (ad : Addr) (sLen sCap : Nat) (hd : a.eval d = .slice (some ⟨g, off, none⟩) dLen dCap) (hs : a.eval s = .slice (some ad) sLen sCap)
    (cur : Array Value) (t : TypeId) (hg : w.heap[g]? = some (.cells cur t (0, 0))) (cs : List Value) (n : Nat) (hm : Nat.min sLen dLen = n) (hn : cs.length = n * sz)
    (hsrc : ∀ j v, cs[j]? = some v → w.cell? (ad.add j) = some v) (hfit : off + cs.length ≤ cur.size) (h1 : ∀ v ∈ cs, v.oneCell' = true)
    (h : ∀ w', w'.heap[g]? = some (.cells (cur.toList.take off ++ cs ++ cur.toList.drop (off + cs.length)).toArray t (0, 0)) → Below g w w' → wpList P ops Q rest (a.put o.dst (goInt n)) w') : wpList P ops Q (o :: rest) a w :=
  wpList_plain hgd fun _ hK => wp_copyN d s dT sT ho elem sz hu hsz g off dLen dCap ad sLen sCap hd hs cur t hg cs n hm hn hsrc hfit h1 fun w' a b => hK _ _ (h w' a b)
theorem step_copyN {P : Program} {ops : Array Oper} {w : World} {o : Oper} {a : Act} {K : Act → World → Prop} {Q : Exit → Act → World → Prop} {E : Prop} (hgd : o.guard = none) (d s : Operand) (dT sT : TypeId)
    (ho : o.op = .call { callee := .builtin .copy, args := #[d, s], argTypes := #[dT, sT] }) (elem : TypeId) (sz : Nat) (hu : P.underlying dT = some (.slice elem)) (hsz : (P.info? elem).map (·.size) = some sz)
    (g off dLen dCap : Nat) (ad : Addr) (sLen sCap : Nat) (hd : a.eval d = .slice (some ⟨g, off, none⟩) dLen dCap) (hs : a.eval s = .slice (some ad) sLen sCap)
    (cur : Array Value) (t : TypeId) (hg : w.heap[g]? = some (.cells cur t (0, 0))) (cs : List Value) (n : Nat) (hm : Nat.min sLen dLen = n) (hn : cs.length = n * sz)
    (hsrc : ∀ j v, cs[j]? = some v → w.cell? (ad.add j) = some v) (hfit : off + cs.length ≤ cur.size) (h1 : ∀ v ∈ cs, v.oneCell' = true)
    (h : ∀ w', w'.heap[g]? = some (.cells (cur.toList.take off ++ cs ++ cur.toList.drop (off + cs.length)).toArray t (0, 0)) → Below g w w' → K (a.put o.dst (goInt n)) w') :
    if Region.wanted o (yielded ops a.tmps) = true then Oper.wp P o a w K Q else E := by
  have hw : Region.wanted o (yielded ops a.tmps) = true := by simp [Region.wanted, hgd]
  rw [if_pos hw]
  exact wp_copyN d s dT sT ho elem sz hu hsz g off dLen dCap ad sLen sCap hd hs cur t hg cs n hm hn hsrc hfit h1 h
theorem block_of_add (a : Addr) (n : Nat) : (a.add n).block = a.block := by unfold Addr.add; split <;> rfl
def cellsX (x : Inp) (n : Nat) : List Value := (List.replicate n x).flatMap encInp
theorem cellsX_len (x : Inp) (n : Nat) : (cellsX x n).length = n * 3 := by unfold cellsX; rw [flatMap_len encInp_len, List.length_replicate]
theorem cellsX_add (x : Inp) (a b : Nat) : cellsX x (a + b) = cellsX x a ++ cellsX x b := by
  unfold cellsX; rw [← List.replicate_append_replicate, List.flatMap_append]
theorem cellsX_one (x : Inp) : cellsX x 1 = encInp x := by simp [cellsX]
theorem cellsX_one' (x : Inp) (n : Nat) : ∀ v ∈ cellsX x n, v.oneCell' = true := by
  intro u hu
  obtain ⟨y, _, hy⟩ := List.mem_flatMap.1 hu
  exact one_inp y u hy
theorem splice_X (x : Inp) (n k : Nat) (R : List Value) :
    (cellsX x n ++ R).take (n * 3) ++ cellsX x k ++ (cellsX x n ++ R).drop (n * 3 + (cellsX x k).length) = cellsX x (n + k) ++ R.drop (k * 3) := by
  have h1 := cellsX_len x n
  have h2 := cellsX_len x k
  rw [List.take_append_of_le_length (by omega), List.take_of_length_le (by omega), h2, ← h1, List.drop_length_add_append, cellsX_add]
theorem own_of_Bk {w : World} {B g m : Nat} {T : TypeId} {x : Inp} (h : Bk w g T (cellsX x m).toArray) (hB : B ≤ g) (hm : m ≤ maxLen) : Own w B T 3 encInp (.slice (some ⟨g, 0, none⟩) m m) (List.replicate m x) := by
  have hl := cellsX_len x m
  have e : (List.replicate m x).length = m := List.length_replicate
  refine ⟨by rw [e]; exact hl, .inr ⟨g, m, _, by rw [e], hB, h, by omega, hm, by simpa using hl, ?_⟩⟩
  rw [e, List.take_of_length_le (by rw [List.toList_toArray]; omega)]
  rfl
set_option maxRecDepth 100000 in
set_option maxHeartbeats 1000000 in
theorem repeatInp_any (A : Option Addr) (c : Nat) (x : Inp) (m : Nat) (w : World) (h : Sl w 3 encInp A 1 [x]) (hm0 : 1 ≤ m) (hm : m ≤ 60) :
    Calls Try.prog 69 #[.slice A 1 c, .int .i64 m] w (RetOwn 60 3 encInp (List.replicate m x) w) := by
  obtain ⟨i0, hi, hz0, hz1, hz2⟩ := info_parts Try.infoInp
  have hsz3 : (Try.prog.info? 60).map (·.size) = some 3 := by rw [hi]; simp [hz1]
  obtain ⟨b, off, y, rfl, hbl, hy, hc⟩ := h.at_ (k := 0) (by omega)
  have hsrc := h.cells encInp_len (by omega)
  go_enter Try.func69, Try.ntmps69
  go_wp2_with fail
  refine (bitsMul_one m (by omega) _).mono ?_
  rintro e w' ⟨rfl, rfl⟩
  go_wp2_with (at_make; refine wpList_make_full _ rfl _ _ 33 rfl w.heap.size 60 i0 (.agg #[.int .i64 0, .int .i64 0, .bool false]) 3 Try.underlying33 hi hz0 hz1 _ _ _ _ m rfl rfl rfl rfl ?c1 ?c2 ?c3 ?_)
  case c1 => rw [hz2]; omega
  case c2 => unfold maxLen; omega
  case c3 => simp
  · intro w1 ho hg
    have hb0 : Below w.heap.size w w1 := below_of_grown hg (Nat.le_refl _) (by intro k e; cases e)
    rcases ho.2 with ⟨h0, _⟩ | ⟨g, cap, cur, e0, hB0, hcur, hcap, _, hcs, _⟩
    · cases h0
    · injection e0 with e1 e2 e3
      injection e1 with e1
      injection e1 with e1
      subst e1 e3
      clear ho hg e2 hcap hB0
      go_wp2_with (refine wpList_copyN rfl (.tmp 31) (.tmp 32) _ _ rfl _ 3 Try.underlying33 hsz3 w.heap.size 0 m m ⟨b, off, none⟩ 1 c rfl rfl cur 60 hcur (encInp x) 1 (Nat.min_eq_left hm0) rfl (by intro j v hv; exact (hb0.cell (p := (⟨b, off, none⟩ : Addr).add j) (by rw [block_of_add]; exact hbl)).trans (hsrc j v (by simpa using hv))) (by rw [hcs, encInp_len]; omega) (one_inp x) ?_; intro w2 hB2 hbw2)
      have hK2 : Bk w2 w.heap.size 60 (cellsX x 1 ++ cur.toList.drop 3).toArray := by
        rw [cellsX_one]
        have : (cur.toList.take 0 ++ encInp x ++ cur.toList.drop (0 + (encInp x).length)) = encInp x ++ cur.toList.drop 3 := by rw [List.take_zero, List.nil_append, Nat.zero_add, encInp_len]
        rw [← this]; exact hB2
      have hd2 : Below w.heap.size w w2 := hb0.trans (hbw2.mono (Nat.le_refl _))
      have hRl : (cur.toList.drop 3).length = (m - 1) * 3 := by rw [List.length_drop, Array.length_toList, hcs]; omega
      generalize cur.toList.drop 3 = R0 at hK2 hRl
      clear hB2 hbw2 hcs hcur hsrc hc hy h
      go_wp2
      go_loopw [8] (fun i wr => ∃ (n : Nat) (R : List Value), i = .int .i64 n ∧ 1 ≤ n ∧ n ≤ m ∧ R.length = (m - n) * 3 ∧ Bk wr w.heap.size 60 (cellsX x n ++ R).toArray ∧ Below w.heap.size w wr) (fun i _ => m - (intOf i).toNat)
      case atStart => exact ⟨1, R0, rfl, by omega, hm0, hRl, hK2, hd2⟩
      case round =>
        obtain ⟨n, R, rfl, hn1, hnm, hR, hK, hb⟩ := hrel
        clear hK2 hRl hd2
        by_cases hlt : n < m
        · have hltI : (n : Int) < (m : Int) := by omega
          have hne : ¬ m = n := by omega
          have hne2 : ¬ n = m := by omega
          have hKl := hK.lt
          obtain ⟨kk, hkk⟩ : ∃ kk, Nat.min n (m - n) = kk := ⟨_, rfl⟩
          have hkn : kk ≤ n := hkk ▸ Nat.min_le_left _ _
          have hkm : kk ≤ m - n := hkk ▸ Nat.min_le_right _ _
          have hk1 : 1 ≤ kk := by rw [← hkk]; exact Nat.le_min.2 ⟨hn1, by omega⟩
          have hXl := cellsX_len x kk
          have hXn := cellsX_len x n
          have HKK := Lib.hid hkk
          clear hkk
          have hsrcK : Hid (∀ j v, (cellsX x kk)[j]? = some v → wr.drew.cell? ((⟨w.heap.size, 0, none⟩ : Addr).add j) = some v) := Lib.hid (by
            intro j v hv
            have hj := (List.getElem?_eq_some_iff.1 hv).1
            rw [add_plain, Nat.zero_add]
            show wr.cell? _ = _
            rw [hK.cell j]
            have e : cellsX x n = cellsX x kk ++ cellsX x (n - kk) := by rw [← cellsX_add]; congr 1; omega
            simp only [List.getElem?_toArray]
            rw [e, List.append_assoc, List.getElem?_append_left hj]
            exact hv)
          have hfitK : Hid (n * 3 + (cellsX x kk).length ≤ (cellsX x n ++ R).toArray.size) := Lib.hid (by simp only [List.size_toArray, List.length_append]; omega)
          go_wp2
          go_region_law (refine step_copyN rfl (.tmp 41) (.tmp 44) _ _ rfl _ 3 Try.underlying33 hsz3 w.heap.size (n * 3) (m - n) (m - n) ⟨w.heap.size, 0, none⟩ n m (by simp [Act.eval, Act.put]) (by simp [Act.eval, Act.put]) _ 60 hK (cellsX x kk) kk HKK.out hXl hsrcK.out hfitK.out (cellsX_one' x kk) ?_; intro w3 hB3 hbw3)
          have hK3 : Bk w3 w.heap.size 60 (cellsX x (n + kk) ++ R.drop (kk * 3)).toArray := by
            rw [← splice_X]
            unfold Bk
            simpa [hXl] using hB3
          have hd3 : Below w.heap.size w w3 := (below_drew hb).trans hbw3
          clear hB3 hbw3 hsrcK hfitK hK
          have e5 : IntKind.i64.wrap ((n : Int) + (kk : Int)) = (n : Int) + (kk : Int) := IntWalk.i64_in _ (by omega)
          simp [Act.put, e5]
          clear e5
          go_wp2
          · go_roundw
            case rel => exact ⟨n + kk, R.drop (kk * 3), by go_num, by omega, by omega, by rw [List.length_drop]; omega, hK3, hd3⟩
            case measure => simp [intOf]; omega
        · have hnm2 : n = m := by omega
          subst hnm2
          have hR0 : R = [] := List.length_eq_zero_iff.1 (by omega)
          subst hR0
          rw [List.append_nil] at hK
          have hO := own_of_Bk (B := w.heap.size) hK (Nat.le_refl _) (by unfold maxLen; omega)
          have hlr : (List.replicate n x).length = n := List.length_replicate
          go_wp2
          exact bodyPost_ret (v := .slice (some ⟨w.heap.size, 0, none⟩) (List.replicate n x).length n) (by simp [results, Try.results69, go_sem]) rfl ⟨_, n, rfl, by omega, by rw [hlr]; exact hO, hb⟩
end Go.Proofs.Ytkendoffknjpiaa
