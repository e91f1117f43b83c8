/- Texts of replays: the library's Split and Atoi as the program calls them; its readNumbers. (Seat D) -/
import Derived.Test.YtdpoicfciogfnaaDoorDecW
import Derived.Test.YtdpoicfciogfnaaDoorDecV
import Derived.Test.YtdpoicfciogfnaaDoorShelf
namespace Go.Proofs.YtdpoicfciogfnaaDoor
open Go.ChangeShapes Go.WideShapes Go.ChangeAt Go.RowKit
/-- The variables that reading leans on: the table of powers, a number, two sentinels. -/
structure Vars4 (w : World) : Prop where
  tab : Tab w
  mx : ∃ m, w.cell? ⟨0, 0, none⟩ = some (.int .i64 m)
  e1 : ∃ te pe, w.cell? ⟨1, 0, none⟩ = some (.iface te pe)
  e2 : ∃ te pe, w.cell? ⟨2, 0, none⟩ = some (.iface te pe)
theorem Vars4.below {w w' : World} (h : Vars4 w) (hb : Below w.heap.size w w') : Vars4 w' := by
  obtain ⟨m, hm⟩ := h.mx
  obtain ⟨t1, p1, h1⟩ := h.e1
  obtain ⟨t2, p2, h2⟩ := h.e2
  exact ⟨h.tab.below hb, ⟨m, (hb.cell (World.block_lt_of_cell? _ _ hm)).trans hm⟩, ⟨t1, p1, (hb.cell (World.block_lt_of_cell? _ _ h1)).trans h1⟩, ⟨t2, p2, (hb.cell (World.block_lt_of_cell? _ _ h2)).trans h2⟩⟩
theorem cutL_pos (c : UInt8) (l : List UInt8) : 0 < (cutL c l).length := by
  obtain ⟨h, t, e⟩ := cutG_cons c l []
  rw [cutL, e]; simp
theorem splitB_cut (c : UInt8) (E : List UInt8) : Lib.splitB ⟨#[c]⟩ 0 (Lib.countB (st E) ⟨#[c]⟩) (st E) = (cutL c E).map st := by
  have h1 := Lib.splitB_data ⟨#[c]⟩ 0 (Lib.countB (st E) ⟨#[c]⟩) (st E)
  have h2 : Lib.countB (st E) ⟨#[c]⟩ = E.count c := by
    have := Lib.count_one c E
    simpa [Lib.countB, st] using this
  rw [h2] at h1 ⊢
  have h3 : Lib.splitK [c] 0 (E.count c) E = cutL c E := splitK_cutL c E
  have h4 : (Lib.splitB ⟨#[c]⟩ 0 (E.count c) (st E)).map (·.data.toList) = cutL c E := by rw [h1]; simpa [st] using h3
  rw [← h4, List.map_map]
  have : (st ∘ fun x : ByteArray => x.data.toList) = id := by funext x; simp [st]
  rw [this, List.map_id]
theorem sl_all_strs (w : World) (T : TypeId) (l : List (List UInt8)) (g : Nat) (hg : w.heap.size = g) : Sl (w.alloc (.cells (l.map fun x => Value.string (st x)).toArray T)) 1 encStr (some ⟨g, 0, none⟩) l.length l := by
  subst hg
  refine ⟨rfl, fun _ => ⟨_, 0, rfl, by simp, fun k x hk j v hv => ?_⟩⟩
  have hj : j = 0 := by
    have := (List.getElem?_eq_some_iff.1 hv).1
    simp [encStr] at this; omega
  subst hj
  have hv2 : v = .string (st x) := by simpa [encStr] using hv.symm
  subst hv2
  rw [World.cell?_alloc_at _ _ _ _ rfl]
  simp [hk]
theorem split_any (E : List UInt8) (c : UInt8) (w : World) (hE : E.length ≤ 1048576) (hV : Vars4 w) :
    Calls Tryd.prog 30 #[.string (st E), .string ⟨#[c]⟩] w fun e w' => e = .returned (.slice (some ⟨w.heap.size, 0, none⟩) (cutL c E).length (cutL c E).length) ∧ w' = w.alloc (.cells ((cutL c E).map fun x => Value.string (st x)).toArray 9) := by
  obtain ⟨m, hm⟩ := hV.mx
  have h1 : Lib.countB (st E) ⟨#[c]⟩ + 1 = (cutL c E).length := by
    have := Lib.splitB_all ⟨#[c]⟩ (Nat.le_refl 1) 0 _ (st E) rfl
    rw [splitB_cut, List.length_map] at this
    exact this.symm
  refine (Tryd.strings_Split (st E) ⟨#[c]⟩ m w (by rw [st_size]; omega) hm (Nat.le_refl 1)).mono ?_
  rw [h1, splitB_cut, List.map_map]
  exact fun e w' h => h
/-- What Atoi hands back: the number and no error, or an error. -/
theorem atoi_any (W : List UInt8) (w : World) (hW : W.length ≤ 1048576) (hV : Vars4 w) :
    Calls Tryd.prog 58 #[.string (st W)] w fun e w' => (match Lib.atoiAll W with | .ok n => e = .returned (.tuple #[.int .i64 n, .nilIface]) | _ => ∃ n T p, e = .returned (.tuple #[.int .i64 n, .iface T p])) ∧ Below w.heap.size w w' := by
  have hd : (st W).data.toList = W := by simp [st]
  have hsz : (st W).size ≤ 1048576 := by rw [st_size]; exact hW
  rcases h : Lib.atoiAll W with n | _ | _
  · refine (Tryd.strconv_Atoi_ok (st W) (by omega) n (by rw [hd]; exact h) w).mono ?_
    rintro e w' ⟨he, rfl | ⟨t, rfl⟩⟩
    · exact ⟨he, Below.refl _ _⟩
    · exact ⟨he, Lib.bytesWorld_below w _ _⟩
  · obtain ⟨te, pe, h1⟩ := hV.e1
    refine (Tryd.strconv_Atoi_syntax (st W) (by omega) (by rw [hd]; exact h) _ w h1 (.inr ⟨_, _, rfl⟩)).mono ?_
    rintro e w' ⟨N, he, _, _, hb⟩
    exact ⟨⟨_, _, _, he⟩, hb⟩
  · obtain ⟨te, pe, h1⟩ := hV.e2
    refine (Tryd.strconv_Atoi_range (st W) (by omega) (by rw [hd]; exact h) _ w h1 (.inr ⟨_, _, rfl⟩)).mono ?_
    rintro e w' ⟨N, he, _, _, hb⟩
    exact ⟨⟨_, _, _, he⟩, hb⟩
/-- Numbers handed back, or none. -/
def RetNums (o : Option (List Int)) (w : World) (e : Ending) (w' : World) : Prop :=
  ∃ A cp, e = .returned (.tuple #[.slice A (o.getD []).length cp, .bool o.isSome]) ∧ Own w' w.heap.size 3 1 encInt (.slice A (o.getD []).length cp) (o.getD []) ∧ Below w.heap.size w w'
theorem numZ_step {ws : List (List UInt8)} {k : Nat} {y : List UInt8} (h : ws[k]? = some y) : numZ (ws.drop k) = numZ (y :: ws.drop (k + 1)) := by
  obtain ⟨hk, rfl⟩ := List.getElem?_eq_some_iff.1 h
  rw [List.drop_eq_getElem_cons hk]
theorem numZ_ok {y : List UInt8} {n : Int} (h : Lib.atoiAll y = .ok n) (ws : List (List UInt8)) : numZ (y :: ws) = (numZ ws).map (n :: ·) := by rw [numZ, h]
theorem numZ_len : ∀ {ws : List (List UInt8)} {l : List Int}, numZ ws = some l → l.length = ws.length
  | [], l, h => by cases h; rfl
  | w :: ws, l, h => by
    rw [numZ] at h
    split at h
    · obtain ⟨l2, h2, rfl⟩ := Option.map_eq_some_iff.1 h
      simp [numZ_len h2]
    · cases h
theorem readN_len {L : List UInt8} {l : List Int} (h : readN L = some l) : l.length ≤ L.length := by
  have h1 := numZ_len h
  have h2 := cutL_len 32 L
  rw [List.length_tail] at h1
  omega
set_option maxRecDepth 100000 in
set_option maxHeartbeats 2000000 in
theorem readNumbers_any (L : List UInt8) (w : World) (hL : L.length ≤ 1048576) (hV : Vars4 w) : Calls Tryd.prog 31 #[.string (st L)] w (RetNums (readN L) w) := by
  obtain ⟨i0, hi, hz0, hz1, hz2⟩ := info_parts Tryd.infoI2
  have hcl := cutL_le (c := 32) hL
  have hcm := fun p => cutL_mem (p := p) (c := 32) hL
  obtain ⟨w0, wt, hws⟩ := cutG_cons 32 L []
  have hws2 : cutL 32 L = w0 :: wt := hws
  obtain ⟨o, ho⟩ : ∃ o, readN L = o := ⟨_, rfl⟩
  have ho2 : numZ wt = o := by rw [← ho]; unfold readN; rw [hws2]; rfl
  rw [ho]
  rw [hws2] at hcl hcm
  have HO := Lib.hid ho2
  have HW := Lib.hid hws2
  have HM := Lib.hid hcm
  have HV := Lib.hid hV
  clear ho ho2 hws hws2 hcm hV
  have hwl : wt.length + 1 ≤ 1048577 := hcl
  clear hcl
  go_enter Tryd.func31, Tryd.ntmps31
  go_wp2_with fail
  refine (split_any L 32 _ hL HV.out).mono ?_
  rw [HW.out]
  rintro e w1 ⟨rfl, hw1⟩
  have S1 : Sl w1 1 encStr (some ⟨w.heap.size, 0, none⟩) (wt.length + 1) (w0 :: wt) := by rw [hw1]; exact sl_all_strs w _ (w0 :: wt) _ rfl
  have B1 : Below w.heap.size w w1 := by rw [hw1]; (with_reducible repeat first | assumption | exact bl0 _ _ | refine blA ?_ _ | (refine blS ?_ ?_ _; (simp <;> omega)) | refine blD ?_ | refine blN ?_ _ | refine blF ?_ ‹_›)
  have z1 : w.heap.size < w1.heap.size := by rw [hw1]; simp
  obtain ⟨G, hG⟩ : ∃ G, w.heap.size = G := ⟨_, rfl⟩
  rw [hG] at S1 z1
  have HG := Lib.hid hG
  clear hw1
  rw [hG]
  clear hG
  by_cases hnil : wt = []
  · subst hnil
    have ho : o = some [] := HO.out.symm
    subst ho
    go_wp2
    go_loopw [4, 13] (fun v i wr => v = .slice none 0 0 ∧ i = .int .i64 0 ∧ wr = w1) (fun _ _ _ => 0)
    case atStart => exact ⟨rfl, rfl, rfl⟩
    case round =>
      obtain ⟨rfl, rfl, rfl⟩ := hrel
      go_wp2
      exact bodyPost_ret (v := .tuple #[.slice none 0 0, .bool true]) (by simp [results, Tryd.results31, go_sem]) rfl ⟨none, 0, rfl, Own.none_, B1⟩
  · have S2 : ∀ (k : Nat) (y : List UInt8), wt[k]? = some y → w1.cell? ⟨G, 1 + k, none⟩ = some (.string (st y)) := fun k y hy => by
      obtain ⟨b, off, x, e, _, hx, hc⟩ := S1.at_ (k := k + 1) (by have := (List.getElem?_eq_some_iff.1 hy).1; omega)
      cases e
      obtain rfl : y = x := by rw [List.getElem?_cons_succ, hy] at hx; exact Option.some.inj hx
      have := hc 0 _ rfl
      rw [show 0 + (k + 1) * 1 + 0 = 1 + k by omega] at this
      exact this
    have H2 := Lib.hid S2
    clear S1 S2
    go_wp2
    go_loopw [4, 13] (fun v i wr => ∃ (k : Nat) (out : List Int), k ≤ wt.length ∧ out.length = k ∧ i = .int .i64 k ∧ (numZ (wt.drop k)).map (out ++ ·) = o ∧ Own wr w1.heap.size 3 1 encInt v out ∧ Below w1.heap.size w1 wr) (fun _ i _ => wt.length - (intOf i).toNat)
    case atStart => exact ⟨0, [], Nat.zero_le _, rfl, rfl, by rw [← HO.out, List.drop_zero]; cases numZ wt <;> simp, Own.none_, Below.refl _ _⟩
    case round =>
      obtain ⟨k, out, hk, hol, rfl, h1, ho, hb⟩ := hrel
      have yb := hb.size
      have HX := Lib.hid ho.lt
      have H1 := Lib.hid h1
      have HL := Lib.hid hol
      clear h1 hol
      by_cases hlt : k < wt.length
      · obtain ⟨y, hy⟩ : ∃ y, wt[k]? = some y := ⟨_, List.getElem?_eq_getElem hlt⟩
        have q0 : wr.cell? ⟨G, 1 + k, none⟩ = some (.string (st y)) := (hb.cell (p := ⟨G, 1 + k, none⟩) z1).trans (H2.out k y hy)
        have hyl := HM.out y (by simp [List.mem_of_getElem? hy])
        have hd := numZ_step hy
        have HD := Lib.hid hd
        have hVr := HV.out.below (below_after B1 hb)
        have HVr := Lib.hid hVr
        clear hy hd hVr
        rcases hz : Lib.atoiAll y with n | _ | _
        · have HN := Lib.hid (numZ_ok hz (wt.drop (k + 1)))
          have HC := atoi_any y wr hyl HVr.out
          rw [hz] at HC
          go_wp2_with (first
            | (go_at_call 58; refine HC.mono ?_; rintro e w2 ⟨rfl, hb2⟩)
            | (at_builtin; refine wp_appS rfl _ _ 23 rfl w1.heap.size 3 i0 (.int .i64 0) 1 8 Tryd.underlying23 hi hz0 hz1 hz2 rfl (by decide) encInt_len one_int _ out [n] rfl ((ho.later hb2).alloc _) _ 1 1 rfl (sl_one1 _ _ _ _ rfl) (by intro e; cases e) (by rw [HL.out]; unfold maxLen; omega) (by rw [HL.out]; omega) (by have := hb2.size; simp; omega) ?_; intro v3 w3 ho3 hg3; have hB3 : Below w1.heap.size w1 w3 := Below.grown (below_alloc (below_after hb hb2) _) hg3 (by have := hb2.size; simp; omega) (fun g e => (HX.out g e).1)))
          go_roundw
          case rel => exact ⟨k + 1, out ++ [n], by omega, by simp [HL.out], by go_num, by rw [← H1.out, HD.out, HN.out]; cases numZ (wt.drop (k + 1)) <;> simp, ho3, hB3⟩
          case measure => simp [intOf]; omega
        · have HC := atoi_any y wr hyl HVr.out
          rw [hz] at HC
          have hno : o = none := by rw [← H1.out, HD.out, numZ, hz]; rfl
          subst hno
          go_wp2_with (go_at_call 58; refine HC.mono ?_; rintro e w2 ⟨⟨n, T, p, rfl⟩, hb2⟩)
          exact bodyPost_ret (v := .tuple #[.slice none 0 0, .bool false]) (by simp [results, Tryd.results31, go_sem]) rfl ⟨none, 0, rfl, Own.none_, by (with_reducible repeat first | assumption | exact bl0 _ _ | refine blA ?_ _ | (refine blS ?_ ?_ _; (simp <;> omega)) | refine blD ?_ | refine blN ?_ _ | refine blF ?_ ‹_›)⟩
        · have HC := atoi_any y wr hyl HVr.out
          rw [hz] at HC
          have hno : o = none := by rw [← H1.out, HD.out, numZ, hz]; rfl
          subst hno
          go_wp2_with (go_at_call 58; refine HC.mono ?_; rintro e w2 ⟨⟨n, T, p, rfl⟩, hb2⟩)
          exact bodyPost_ret (v := .tuple #[.slice none 0 0, .bool false]) (by simp [results, Tryd.results31, go_sem]) rfl ⟨none, 0, rfl, Own.none_, by (with_reducible repeat first | assumption | exact bl0 _ _ | refine blA ?_ _ | (refine blS ?_ ?_ _; (simp <;> omega)) | refine blD ?_ | refine blN ?_ _ | refine blF ?_ ‹_›)⟩
      · obtain rfl : k = wt.length := by omega
        have e1 := H1.out
        rw [List.drop_length] at e1
        have hp : o = some out := by rw [← e1]; simp [numZ]
        subst hp
        obtain ⟨A3, c3, rfl, hc3, _⟩ := ho.form
        have hnl : ¬ ((wt.length : Int) < (wt.length : Int)) := by omega
        go_wp2
        exact bodyPost_ret (v := .tuple #[.slice A3 out.length c3, .bool true]) (by simp [results, Tryd.results31, go_sem]) rfl ⟨A3, c3, rfl, ho.mono B1.size, below_after B1 hb⟩
end Go.Proofs.YtdpoicfciogfnaaDoor
