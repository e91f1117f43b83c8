/- The program's EngineValid, EngineStep, EngineSpeed, LevelFree, BoxHas. (Round B) -/
import Derived.Test.YtmfhfebakdkkdaaZImpB
import Derived.Test.YtmfhfebakdkkdaaZRun
namespace Go.Proofs.Ytmfhfebakdkkdaa
open Go.ChangeShapes Go.WideShapes Go.ChangeAt Go.RowKit
theorem implVecLength_no (v : V2) (w : World) (hv : vOk v = false) : Calls Try.prog 80 #[.agg #[.int .i64 v.x, .int .i64 v.y]] w fun e w' => e = .returned (.tuple #[.int .i64 0, .bool false]) ∧ Below w.heap.size w w' := by
  go_enter Try.func80, Try.ntmps80
  go_wp2_with fail
  refine (implVecOk_any v _).mono ?_
  rw [hv]
  rintro e w1 ⟨rfl, hb1⟩
  obtain ⟨hc1, hf1⟩ := bcell hb1; have hy1 : w.heap.size < w1.heap.size := (by have := hb1.size; first | omega | (simp at this; omega))
  go_wp2
  refine bodyPost_ret (v := .tuple #[.int .i64 0, .bool false]) (by simp [results, Try.results80, go_sem]) rfl ⟨rfl, ?_⟩
  (repeat (first | (with_reducible exact Below.refl _ _) | (with_reducible refine below_alloc ?_ _) | (with_reducible refine below_setCell ?_ ?_ _; (simp <;> omega)) | (with_reducible refine below_drew ?_) | (with_reducible refine below_drewN ?_ _) | (with_reducible refine below_after ?_ (by assumption))))
theorem ownB_p {s : St} (h : ownB s = true) : vOk s.p = true := (ownB_iff.1 h).2.1
set_option maxRecDepth 100000 in
set_option maxHeartbeats 1000000 in
theorem implStateOk_any (s : St) (w : World) : Calls Try.prog 79 #[.agg #[.int .i64 s.t, .int .i64 s.p.x, .int .i64 s.p.y, .int .i64 s.f.x, .int .i64 s.f.y, .int .i64 s.d, .int .i64 s.g, .bool s.dn, .bool s.ov]] w fun e w' => e = .returned (.bool (ownB s)) ∧ Below w.heap.size w w' := by
  cases hf : vOk ⟨s.f.x, s.f.y⟩
  · have HN : Hid (false = ownB s) := Lib.hid (by have : vOk s.f = false := hf; simp [ownB, this])
    cases h1 : inR 0 60 s.t
    · go_enter Try.func79, Try.ntmps79
      go_wp2_with (first | (go_at_call 80; refine (implVecLength_no ⟨_, _⟩ _ hf).mono ?_; rintro e w1 ⟨rfl, hb1⟩; obtain ⟨hc1, hf1⟩ := bcell hb1; have hy1 : w.heap.size < w1.heap.size := (by have := hb1.size; first | omega | (simp at this; omega))) | (go_at_call 94; refine (inRange_r _ _ _ _).mono ?_; rintro e w0 ⟨rfl, rfl⟩) | (go_at_call 75; refine (implVecOk_xy _ _ _).mono ?_; rintro e w2 ⟨rfl, hb2⟩; obtain ⟨hc2, hf2⟩ := bcell hb2; have hy2 : w.heap.size < w2.heap.size := (by have := hb2.size; first | omega | (simp at this; omega))))
      go_ret
      exact ⟨ret_bool HN.out, by (repeat (first | (with_reducible assumption) | (with_reducible exact Below.refl _ _) | (with_reducible refine below_alloc ?_ _) | (with_reducible refine below_setCell ?_ ?_ _; (simp <;> omega)) | (with_reducible refine below_drew ?_) | (with_reducible refine below_drewN ?_ _) | (with_reducible refine below_after ?_ (by assumption))))⟩
    cases h2 : vOk ⟨s.p.x, s.p.y⟩
    · go_enter Try.func79, Try.ntmps79
      go_wp2_with (first | (go_at_call 80; refine (implVecLength_no ⟨_, _⟩ _ hf).mono ?_; rintro e w1 ⟨rfl, hb1⟩; obtain ⟨hc1, hf1⟩ := bcell hb1; have hy1 : w.heap.size < w1.heap.size := (by have := hb1.size; first | omega | (simp at this; omega))) | (go_at_call 94; refine (inRange_r _ _ _ _).mono ?_; rintro e w0 ⟨rfl, rfl⟩) | (go_at_call 75; refine (implVecOk_xy _ _ _).mono ?_; rintro e w2 ⟨rfl, hb2⟩; obtain ⟨hc2, hf2⟩ := bcell hb2; have hy2 : w.heap.size < w2.heap.size := (by have := hb2.size; first | omega | (simp at this; omega))))
      go_ret
      exact ⟨ret_bool HN.out, by (repeat (first | (with_reducible assumption) | (with_reducible exact Below.refl _ _) | (with_reducible refine below_alloc ?_ _) | (with_reducible refine below_setCell ?_ ?_ _; (simp <;> omega)) | (with_reducible refine below_drew ?_) | (with_reducible refine below_drewN ?_ _) | (with_reducible refine below_after ?_ (by assumption))))⟩
    · go_enter Try.func79, Try.ntmps79
      go_wp2_with (first | (go_at_call 80; refine (implVecLength_no ⟨_, _⟩ _ hf).mono ?_; rintro e w1 ⟨rfl, hb1⟩; obtain ⟨hc1, hf1⟩ := bcell hb1; have hy1 : w.heap.size < w1.heap.size := (by have := hb1.size; first | omega | (simp at this; omega))) | (go_at_call 94; refine (inRange_r _ _ _ _).mono ?_; rintro e w0 ⟨rfl, rfl⟩) | (go_at_call 75; refine (implVecOk_xy _ _ _).mono ?_; rintro e w2 ⟨rfl, hb2⟩; obtain ⟨hc2, hf2⟩ := bcell hb2; have hy2 : w.heap.size < w2.heap.size := (by have := hb2.size; first | omega | (simp at this; omega))))
      go_ret
      exact ⟨ret_bool HN.out, by (repeat (first | (with_reducible assumption) | (with_reducible exact Below.refl _ _) | (with_reducible refine below_alloc ?_ _) | (with_reducible refine below_setCell ?_ ?_ _; (simp <;> omega)) | (with_reducible refine below_drew ?_) | (with_reducible refine below_drewN ?_ _) | (with_reducible refine below_after ?_ (by assumption))))⟩
  · have HP : Hid (ownB s = (inR 0 60 s.t && (vOk s.p && (decide (lenV s.f ≤ 2000) && (inR 0 15 s.d && (inR 0 3 s.g && !(s.dn && s.ov))))))) := Lib.hid (by have : vOk s.f = true := hf; simp [ownB, this])
    cases h1 : inR 0 60 s.t
    · have HN : Hid (false = ownB s) := Lib.hid (by rw [HP.out, h1]; rfl)
      go_enter Try.func79, Try.ntmps79
      go_wp2_with (first | (go_at_call 80; refine (implVecLength_yes ⟨_, _⟩ _ hf).mono ?_; rintro e w1 ⟨rfl, hb1⟩; obtain ⟨hc1, hf1⟩ := bcell hb1; have hy1 : w.heap.size < w1.heap.size := (by have := hb1.size; first | omega | (simp at this; omega))) | (go_at_call 94; refine (inRange_r _ _ _ _).mono ?_; rintro e w0 ⟨rfl, rfl⟩) | (go_at_call 75; refine (implVecOk_xy _ _ _).mono ?_; rintro e w2 ⟨rfl, hb2⟩; obtain ⟨hc2, hf2⟩ := bcell hb2; have hy2 : w.heap.size < w2.heap.size := (by have := hb2.size; first | omega | (simp at this; omega))))
      go_ret
      exact ⟨ret_bool HN.out, by (repeat (first | (with_reducible assumption) | (with_reducible exact Below.refl _ _) | (with_reducible refine below_alloc ?_ _) | (with_reducible refine below_setCell ?_ ?_ _; (simp <;> omega)) | (with_reducible refine below_drew ?_) | (with_reducible refine below_drewN ?_ _) | (with_reducible refine below_after ?_ (by assumption))))⟩
    cases h2 : vOk ⟨s.p.x, s.p.y⟩
    · have HN : Hid (false = ownB s) := Lib.hid (by rw [HP.out, h1, show vOk s.p = false from h2]; rfl)
      go_enter Try.func79, Try.ntmps79
      go_wp2_with (first | (go_at_call 80; refine (implVecLength_yes ⟨_, _⟩ _ hf).mono ?_; rintro e w1 ⟨rfl, hb1⟩; obtain ⟨hc1, hf1⟩ := bcell hb1; have hy1 : w.heap.size < w1.heap.size := (by have := hb1.size; first | omega | (simp at this; omega))) | (go_at_call 94; refine (inRange_r _ _ _ _).mono ?_; rintro e w0 ⟨rfl, rfl⟩) | (go_at_call 75; refine (implVecOk_xy _ _ _).mono ?_; rintro e w2 ⟨rfl, hb2⟩; obtain ⟨hc2, hf2⟩ := bcell hb2; have hy2 : w.heap.size < w2.heap.size := (by have := hb2.size; first | omega | (simp at this; omega))))
      go_ret
      exact ⟨ret_bool HN.out, by (repeat (first | (with_reducible assumption) | (with_reducible exact Below.refl _ _) | (with_reducible refine below_alloc ?_ _) | (with_reducible refine below_setCell ?_ ?_ _; (simp <;> omega)) | (with_reducible refine below_drew ?_) | (with_reducible refine below_drewN ?_ _) | (with_reducible refine below_after ?_ (by assumption))))⟩
    by_cases h3 : lenV ⟨s.f.x, s.f.y⟩ ≤ 2000
    · have h3' : lenV s.f ≤ 2000 := h3
      cases h4 : inR 0 15 s.d
      · have HN : Hid (false = ownB s) := Lib.hid (by rw [HP.out, h4]; simp)
        clear h3'
        go_enter Try.func79, Try.ntmps79
        go_wp2_with (first | (go_at_call 80; refine (implVecLength_yes ⟨_, _⟩ _ hf).mono ?_; rintro e w1 ⟨rfl, hb1⟩; obtain ⟨hc1, hf1⟩ := bcell hb1; have hy1 : w.heap.size < w1.heap.size := (by have := hb1.size; first | omega | (simp at this; omega))) | (go_at_call 94; refine (inRange_r _ _ _ _).mono ?_; rintro e w0 ⟨rfl, rfl⟩) | (go_at_call 75; refine (implVecOk_xy _ _ _).mono ?_; rintro e w2 ⟨rfl, hb2⟩; obtain ⟨hc2, hf2⟩ := bcell hb2; have hy2 : w.heap.size < w2.heap.size := (by have := hb2.size; first | omega | (simp at this; omega))))
        go_ret
        exact ⟨ret_bool HN.out, by (repeat (first | (with_reducible assumption) | (with_reducible exact Below.refl _ _) | (with_reducible refine below_alloc ?_ _) | (with_reducible refine below_setCell ?_ ?_ _; (simp <;> omega)) | (with_reducible refine below_drew ?_) | (with_reducible refine below_drewN ?_ _) | (with_reducible refine below_after ?_ (by assumption))))⟩
      cases h5 : inR 0 3 s.g
      · have HN : Hid (false = ownB s) := Lib.hid (by rw [HP.out, h5]; simp)
        clear h3'
        go_enter Try.func79, Try.ntmps79
        go_wp2_with (first | (go_at_call 80; refine (implVecLength_yes ⟨_, _⟩ _ hf).mono ?_; rintro e w1 ⟨rfl, hb1⟩; obtain ⟨hc1, hf1⟩ := bcell hb1; have hy1 : w.heap.size < w1.heap.size := (by have := hb1.size; first | omega | (simp at this; omega))) | (go_at_call 94; refine (inRange_r _ _ _ _).mono ?_; rintro e w0 ⟨rfl, rfl⟩) | (go_at_call 75; refine (implVecOk_xy _ _ _).mono ?_; rintro e w2 ⟨rfl, hb2⟩; obtain ⟨hc2, hf2⟩ := bcell hb2; have hy2 : w.heap.size < w2.heap.size := (by have := hb2.size; first | omega | (simp at this; omega))))
        go_ret
        exact ⟨ret_bool HN.out, by (repeat (first | (with_reducible assumption) | (with_reducible exact Below.refl _ _) | (with_reducible refine below_alloc ?_ _) | (with_reducible refine below_setCell ?_ ?_ _; (simp <;> omega)) | (with_reducible refine below_drew ?_) | (with_reducible refine below_drewN ?_ _) | (with_reducible refine below_after ?_ (by assumption))))⟩
      have HN : Hid (ownB s = !(s.dn && s.ov)) := Lib.hid (by rw [HP.out, h1, show vOk s.p = true from h2, h4, h5]; simp [h3'])
      clear h3'
      obtain ⟨t, p, f, d, g, dn, ov⟩ := s
      simp only at *
      cases dn
      · go_enter Try.func79, Try.ntmps79
        go_wp2_with (first | (go_at_call 80; refine (implVecLength_yes ⟨_, _⟩ _ hf).mono ?_; rintro e w1 ⟨rfl, hb1⟩; obtain ⟨hc1, hf1⟩ := bcell hb1; have hy1 : w.heap.size < w1.heap.size := (by have := hb1.size; first | omega | (simp at this; omega))) | (go_at_call 94; refine (inRange_r _ _ _ _).mono ?_; rintro e w0 ⟨rfl, rfl⟩) | (go_at_call 75; refine (implVecOk_xy _ _ _).mono ?_; rintro e w2 ⟨rfl, hb2⟩; obtain ⟨hc2, hf2⟩ := bcell hb2; have hy2 : w.heap.size < w2.heap.size := (by have := hb2.size; first | omega | (simp at this; omega))))
        go_ret
        exact ⟨ret_bool HN.out.symm, by (repeat (first | (with_reducible assumption) | (with_reducible exact Below.refl _ _) | (with_reducible refine below_alloc ?_ _) | (with_reducible refine below_setCell ?_ ?_ _; (simp <;> omega)) | (with_reducible refine below_drew ?_) | (with_reducible refine below_drewN ?_ _) | (with_reducible refine below_after ?_ (by assumption))))⟩
      cases ov
      · go_enter Try.func79, Try.ntmps79
        go_wp2_with (first | (go_at_call 80; refine (implVecLength_yes ⟨_, _⟩ _ hf).mono ?_; rintro e w1 ⟨rfl, hb1⟩; obtain ⟨hc1, hf1⟩ := bcell hb1; have hy1 : w.heap.size < w1.heap.size := (by have := hb1.size; first | omega | (simp at this; omega))) | (go_at_call 94; refine (inRange_r _ _ _ _).mono ?_; rintro e w0 ⟨rfl, rfl⟩) | (go_at_call 75; refine (implVecOk_xy _ _ _).mono ?_; rintro e w2 ⟨rfl, hb2⟩; obtain ⟨hc2, hf2⟩ := bcell hb2; have hy2 : w.heap.size < w2.heap.size := (by have := hb2.size; first | omega | (simp at this; omega))))
        go_ret
        exact ⟨ret_bool HN.out.symm, by (repeat (first | (with_reducible assumption) | (with_reducible exact Below.refl _ _) | (with_reducible refine below_alloc ?_ _) | (with_reducible refine below_setCell ?_ ?_ _; (simp <;> omega)) | (with_reducible refine below_drew ?_) | (with_reducible refine below_drewN ?_ _) | (with_reducible refine below_after ?_ (by assumption))))⟩
      · go_enter Try.func79, Try.ntmps79
        go_wp2_with (first | (go_at_call 80; refine (implVecLength_yes ⟨_, _⟩ _ hf).mono ?_; rintro e w1 ⟨rfl, hb1⟩; obtain ⟨hc1, hf1⟩ := bcell hb1; have hy1 : w.heap.size < w1.heap.size := (by have := hb1.size; first | omega | (simp at this; omega))) | (go_at_call 94; refine (inRange_r _ _ _ _).mono ?_; rintro e w0 ⟨rfl, rfl⟩) | (go_at_call 75; refine (implVecOk_xy _ _ _).mono ?_; rintro e w2 ⟨rfl, hb2⟩; obtain ⟨hc2, hf2⟩ := bcell hb2; have hy2 : w.heap.size < w2.heap.size := (by have := hb2.size; first | omega | (simp at this; omega))))
        go_ret
        exact ⟨ret_bool HN.out.symm, by (repeat (first | (with_reducible assumption) | (with_reducible exact Below.refl _ _) | (with_reducible refine below_alloc ?_ _) | (with_reducible refine below_setCell ?_ ?_ _; (simp <;> omega)) | (with_reducible refine below_drew ?_) | (with_reducible refine below_drewN ?_ _) | (with_reducible refine below_after ?_ (by assumption))))⟩
    · have HN : Hid (false = ownB s) := Lib.hid (by have : ¬ lenV s.f ≤ 2000 := h3; rw [HP.out]; simp [this])
      go_enter Try.func79, Try.ntmps79
      go_wp2_with (first | (go_at_call 80; refine (implVecLength_yes ⟨_, _⟩ _ hf).mono ?_; rintro e w1 ⟨rfl, hb1⟩; obtain ⟨hc1, hf1⟩ := bcell hb1; have hy1 : w.heap.size < w1.heap.size := (by have := hb1.size; first | omega | (simp at this; omega))) | (go_at_call 94; refine (inRange_r _ _ _ _).mono ?_; rintro e w0 ⟨rfl, rfl⟩) | (go_at_call 75; refine (implVecOk_xy _ _ _).mono ?_; rintro e w2 ⟨rfl, hb2⟩; obtain ⟨hc2, hf2⟩ := bcell hb2; have hy2 : w.heap.size < w2.heap.size := (by have := hb2.size; first | omega | (simp at this; omega))))
      go_ret
      exact ⟨ret_bool HN.out, by (repeat (first | (with_reducible assumption) | (with_reducible exact Below.refl _ _) | (with_reducible refine below_alloc ?_ _) | (with_reducible refine below_setCell ?_ ?_ _; (simp <;> omega)) | (with_reducible refine below_drew ?_) | (with_reducible refine below_drewN ?_ _) | (with_reducible refine below_after ?_ (by assumption))))⟩
end Go.Proofs.Ytmfhfebakdkkdaa
