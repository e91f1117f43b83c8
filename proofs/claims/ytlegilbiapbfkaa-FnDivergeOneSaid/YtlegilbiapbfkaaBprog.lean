/- The stand-in program of this seat: the given one, its one function that starts goroutines replaced. Printed by gen_bprog.py. (Round C) -/
import Derived.Test.YtlegilbiapbfkaaChecked
import Derived.Test.YtlegilbiapbfkaaZSimC
namespace Go.Proofs.Ytlegilbiapbfkaa
noncomputable def Sq.stub : Code := stubBody 22 33 48 3 4
@[irreducible] noncomputable def Sq.G : Array Func := Try.prog.funcs.mapIdx (standIn Try.prog.toTables 20 Sq.stub)
noncomputable def Sq.prog : Program := ⟨Try.prog.toTables, Sq.G⟩
@[simp] theorem Sq.tables : Sq.prog.toTables = Try.prog.toTables := rfl
theorem Sq.und {t : TypeId} {x : Option TypeDesc} (h : Try.prog.underlying t = x) : Sq.prog.underlying t = x := h
@[simp] theorem Sq.und_ (t : TypeId) : Sq.prog.underlying t = Try.prog.underlying t := und_eq Sq.tables t
@[simp] theorem Sq.runTypeInfo (t : TypeId) (w : World) : (typeInfo t).run Sq.prog w = (typeInfo t).run Try.prog w := run_typeInfo_eq Sq.tables t w
@[simp] theorem Sq.runSizeOf (t : TypeId) (w : World) : (sizeOf t).run Sq.prog w = (sizeOf t).run Try.prog w := run_sizeOf_eq Sq.tables t w
@[simp] theorem Sq.runUnderlying (t : TypeId) (w : World) : (underlying t).run Sq.prog w = (underlying t).run Try.prog w := run_underlying_eq Sq.tables t w
@[simp] theorem Sq.runIsAgg (t : TypeId) (w : World) : (isAgg t).run Sq.prog w = (isAgg t).run Try.prog w := run_isAgg_eq Sq.tables t w
@[simp] theorem Sq.runZeroValue (t : TypeId) (w : World) : (zeroValue t).run Sq.prog w = (zeroValue t).run Try.prog w := run_zeroValue_eq Sq.tables t w
@[simp] theorem Sq.eqGuardType_ (t : TypeId) : Sq.prog.eqGuardType Sq.prog.depth t = Try.prog.eqGuardType Try.prog.depth t := eqGuard_eq Sq.tables t
@[simp] theorem Sq.stoodInHeld_ (t : TypeId) : Sq.prog.stoodInHeld t = Try.prog.stoodInHeld t := stood_eq Sq.tables t
theorem Sq.G_eq : Sq.G = Try.prog.funcs.mapIdx (standIn Try.prog.toTables 20 Sq.stub) := by unfold Sq.G; rfl
theorem Sq.at_ {i : FuncId} {fn : Func} (h : Try.prog.funcs[i]? = some fn) (hi : i ≠ 20) (hk : okFn Try.prog.toTables fn = true) : Sq.prog.funcs[i]? = some fn := by
  show Sq.G[i]? = _
  rw [Sq.G_eq]
  exact standIn_at h hi hk
noncomputable abbrev Sq.f20 : Func := { Try.f20 with body := some Sq.stub, results := #[.tmp 4], ntmps := 25 }
@[simp] theorem Sq.func20 : Sq.prog.funcs[20]? = some Sq.f20 := by
  show Sq.G[20]? = _
  rw [Sq.G_eq]
  exact standIn_d Try.func20
@[simp] theorem Sq.ntmps20 : Sq.f20.ntmps = 25 := rfl
@[simp] theorem Sq.results20 : Sq.f20.results = #[.tmp 4] := rfl
@[simp] theorem Sq.call20 (args : Array Value) (w : World) : (callFunc 20 args).run Sq.prog w = .ok (.enter 20 args) w := call_known Sq.func20 rfl (by show (Try.f20.name == "runtime.NumGoroutine") = false; kernel_rfl) args w
theorem Sq.ok2 : okFn Try.prog.toTables Try.f2 = true := by kernel_rfl
@[simp] theorem Sq.func2 : Sq.prog.funcs[2]? = some Try.f2 := Sq.at_ Try.func2 (by decide) Sq.ok2
abbrev Sq.ntmps2 := @Try.ntmps2
@[simp] theorem Sq.call2 (args : Array Value) (w : World) : (callFunc 2 args).run Sq.prog w = .ok (.enter 2 args) w := call_known Sq.func2 rfl (by kernel_rfl) args w
theorem Sq.ok3 : okFn Try.prog.toTables Try.f3 = true := by kernel_rfl
@[simp] theorem Sq.func3 : Sq.prog.funcs[3]? = some Try.f3 := Sq.at_ Try.func3 (by decide) Sq.ok3
abbrev Sq.ntmps3 := @Try.ntmps3
@[simp] theorem Sq.call3 (args : Array Value) (w : World) : (callFunc 3 args).run Sq.prog w = .ok (.enter 3 args) w := call_known Sq.func3 rfl (by kernel_rfl) args w
theorem Sq.ok4 : okFn Try.prog.toTables Try.f4 = true := by kernel_rfl
@[simp] theorem Sq.func4 : Sq.prog.funcs[4]? = some Try.f4 := Sq.at_ Try.func4 (by decide) Sq.ok4
abbrev Sq.ntmps4 := @Try.ntmps4
@[simp] theorem Sq.call4 (args : Array Value) (w : World) : (callFunc 4 args).run Sq.prog w = .ok (.enter 4 args) w := call_known Sq.func4 rfl (by kernel_rfl) args w
theorem Sq.ok5 : okFn Try.prog.toTables Try.f5 = true := by kernel_rfl
@[simp] theorem Sq.func5 : Sq.prog.funcs[5]? = some Try.f5 := Sq.at_ Try.func5 (by decide) Sq.ok5
abbrev Sq.ntmps5 := @Try.ntmps5
@[simp] theorem Sq.call5 (args : Array Value) (w : World) : (callFunc 5 args).run Sq.prog w = .ok (.enter 5 args) w := call_known Sq.func5 rfl (by kernel_rfl) args w
theorem Sq.ok6 : okFn Try.prog.toTables Try.f6 = true := by kernel_rfl
@[simp] theorem Sq.func6 : Sq.prog.funcs[6]? = some Try.f6 := Sq.at_ Try.func6 (by decide) Sq.ok6
abbrev Sq.ntmps6 := @Try.ntmps6
@[simp] theorem Sq.call6 (args : Array Value) (w : World) : (callFunc 6 args).run Sq.prog w = .ok (.enter 6 args) w := call_known Sq.func6 rfl (by kernel_rfl) args w
theorem Sq.ok7 : okFn Try.prog.toTables Try.f7 = true := by kernel_rfl
@[simp] theorem Sq.func7 : Sq.prog.funcs[7]? = some Try.f7 := Sq.at_ Try.func7 (by decide) Sq.ok7
abbrev Sq.ntmps7 := @Try.ntmps7
@[simp] theorem Sq.call7 (args : Array Value) (w : World) : (callFunc 7 args).run Sq.prog w = .ok (.enter 7 args) w := call_known Sq.func7 rfl (by kernel_rfl) args w
theorem Sq.ok8 : okFn Try.prog.toTables Try.f8 = true := by kernel_rfl
@[simp] theorem Sq.func8 : Sq.prog.funcs[8]? = some Try.f8 := Sq.at_ Try.func8 (by decide) Sq.ok8
abbrev Sq.ntmps8 := @Try.ntmps8
@[simp] theorem Sq.call8 (args : Array Value) (w : World) : (callFunc 8 args).run Sq.prog w = .ok (.enter 8 args) w := call_known Sq.func8 rfl (by kernel_rfl) args w
theorem Sq.ok9 : okFn Try.prog.toTables Try.f9 = true := by kernel_rfl
@[simp] theorem Sq.func9 : Sq.prog.funcs[9]? = some Try.f9 := Sq.at_ Try.func9 (by decide) Sq.ok9
abbrev Sq.ntmps9 := @Try.ntmps9
@[simp] theorem Sq.call9 (args : Array Value) (w : World) : (callFunc 9 args).run Sq.prog w = .ok (.enter 9 args) w := call_known Sq.func9 rfl (by kernel_rfl) args w
theorem Sq.ok10 : okFn Try.prog.toTables Try.f10 = true := by kernel_rfl
@[simp] theorem Sq.func10 : Sq.prog.funcs[10]? = some Try.f10 := Sq.at_ Try.func10 (by decide) Sq.ok10
abbrev Sq.ntmps10 := @Try.ntmps10
@[simp] theorem Sq.call10 (args : Array Value) (w : World) : (callFunc 10 args).run Sq.prog w = .ok (.enter 10 args) w := call_known Sq.func10 rfl (by kernel_rfl) args w
theorem Sq.ok11 : okFn Try.prog.toTables Try.f11 = true := by kernel_rfl
@[simp] theorem Sq.func11 : Sq.prog.funcs[11]? = some Try.f11 := Sq.at_ Try.func11 (by decide) Sq.ok11
abbrev Sq.ntmps11 := @Try.ntmps11
@[simp] theorem Sq.call11 (args : Array Value) (w : World) : (callFunc 11 args).run Sq.prog w = .ok (.enter 11 args) w := call_known Sq.func11 rfl (by kernel_rfl) args w
theorem Sq.ok12 : okFn Try.prog.toTables Try.f12 = true := by kernel_rfl
@[simp] theorem Sq.func12 : Sq.prog.funcs[12]? = some Try.f12 := Sq.at_ Try.func12 (by decide) Sq.ok12
abbrev Sq.ntmps12 := @Try.ntmps12
@[simp] theorem Sq.call12 (args : Array Value) (w : World) : (callFunc 12 args).run Sq.prog w = .ok (.enter 12 args) w := call_known Sq.func12 rfl (by kernel_rfl) args w
theorem Sq.ok13 : okFn Try.prog.toTables Try.f13 = true := by kernel_rfl
@[simp] theorem Sq.func13 : Sq.prog.funcs[13]? = some Try.f13 := Sq.at_ Try.func13 (by decide) Sq.ok13
abbrev Sq.ntmps13 := @Try.ntmps13
@[simp] theorem Sq.call13 (args : Array Value) (w : World) : (callFunc 13 args).run Sq.prog w = .ok (.enter 13 args) w := call_known Sq.func13 rfl (by kernel_rfl) args w
theorem Sq.ok14 : okFn Try.prog.toTables Try.f14 = true := by kernel_rfl
@[simp] theorem Sq.func14 : Sq.prog.funcs[14]? = some Try.f14 := Sq.at_ Try.func14 (by decide) Sq.ok14
abbrev Sq.ntmps14 := @Try.ntmps14
@[simp] theorem Sq.call14 (args : Array Value) (w : World) : (callFunc 14 args).run Sq.prog w = .ok (.enter 14 args) w := call_known Sq.func14 rfl (by kernel_rfl) args w
theorem Sq.ok15 : okFn Try.prog.toTables Try.f15 = true := by kernel_rfl
@[simp] theorem Sq.func15 : Sq.prog.funcs[15]? = some Try.f15 := Sq.at_ Try.func15 (by decide) Sq.ok15
abbrev Sq.ntmps15 := @Try.ntmps15
@[simp] theorem Sq.call15 (args : Array Value) (w : World) : (callFunc 15 args).run Sq.prog w = .ok (.enter 15 args) w := call_known Sq.func15 rfl (by kernel_rfl) args w
theorem Sq.ok16 : okFn Try.prog.toTables Try.f16 = true := by kernel_rfl
@[simp] theorem Sq.func16 : Sq.prog.funcs[16]? = some Try.f16 := Sq.at_ Try.func16 (by decide) Sq.ok16
abbrev Sq.ntmps16 := @Try.ntmps16
@[simp] theorem Sq.call16 (args : Array Value) (w : World) : (callFunc 16 args).run Sq.prog w = .ok (.enter 16 args) w := call_known Sq.func16 rfl (by kernel_rfl) args w
theorem Sq.ok17 : okFn Try.prog.toTables Try.f17 = true := by kernel_rfl
@[simp] theorem Sq.func17 : Sq.prog.funcs[17]? = some Try.f17 := Sq.at_ Try.func17 (by decide) Sq.ok17
abbrev Sq.ntmps17 := @Try.ntmps17
@[simp] theorem Sq.call17 (args : Array Value) (w : World) : (callFunc 17 args).run Sq.prog w = .ok (.enter 17 args) w := call_known Sq.func17 rfl (by kernel_rfl) args w
theorem Sq.ok18 : okFn Try.prog.toTables Try.f18 = true := by kernel_rfl
@[simp] theorem Sq.func18 : Sq.prog.funcs[18]? = some Try.f18 := Sq.at_ Try.func18 (by decide) Sq.ok18
abbrev Sq.ntmps18 := @Try.ntmps18
@[simp] theorem Sq.call18 (args : Array Value) (w : World) : (callFunc 18 args).run Sq.prog w = .ok (.enter 18 args) w := call_known Sq.func18 rfl (by kernel_rfl) args w
theorem Sq.ok19 : okFn Try.prog.toTables Try.f19 = true := by kernel_rfl
@[simp] theorem Sq.func19 : Sq.prog.funcs[19]? = some Try.f19 := Sq.at_ Try.func19 (by decide) Sq.ok19
abbrev Sq.ntmps19 := @Try.ntmps19
@[simp] theorem Sq.call19 (args : Array Value) (w : World) : (callFunc 19 args).run Sq.prog w = .ok (.enter 19 args) w := call_known Sq.func19 rfl (by kernel_rfl) args w
theorem Sq.ok21 : okFn Try.prog.toTables Try.f21 = true := by kernel_rfl
@[simp] theorem Sq.func21 : Sq.prog.funcs[21]? = some Try.f21 := Sq.at_ Try.func21 (by decide) Sq.ok21
abbrev Sq.ntmps21 := @Try.ntmps21
@[simp] theorem Sq.call21 (args : Array Value) (w : World) : (callFunc 21 args).run Sq.prog w = .ok (.enter 21 args) w := call_known Sq.func21 rfl (by kernel_rfl) args w
theorem Sq.ok22 : okFn Try.prog.toTables Try.f22 = true := by kernel_rfl
@[simp] theorem Sq.func22 : Sq.prog.funcs[22]? = some Try.f22 := Sq.at_ Try.func22 (by decide) Sq.ok22
abbrev Sq.ntmps22 := @Try.ntmps22
@[simp] theorem Sq.call22 (args : Array Value) (w : World) : (callFunc 22 args).run Sq.prog w = .ok (.enter 22 args) w := call_known Sq.func22 rfl (by kernel_rfl) args w
theorem Sq.ok23 : okFn Try.prog.toTables Try.f23 = true := by kernel_rfl
@[simp] theorem Sq.func23 : Sq.prog.funcs[23]? = some Try.f23 := Sq.at_ Try.func23 (by decide) Sq.ok23
abbrev Sq.ntmps23 := @Try.ntmps23
@[simp] theorem Sq.call23 (args : Array Value) (w : World) : (callFunc 23 args).run Sq.prog w = .ok (.enter 23 args) w := call_known Sq.func23 rfl (by kernel_rfl) args w
theorem Sq.ok26 : okFn Try.prog.toTables Try.f26 = true := by kernel_rfl
@[simp] theorem Sq.func26 : Sq.prog.funcs[26]? = some Try.f26 := Sq.at_ Try.func26 (by decide) Sq.ok26
abbrev Sq.ntmps26 := @Try.ntmps26
@[simp] theorem Sq.call26 (args : Array Value) (w : World) : (callFunc 26 args).run Sq.prog w = .ok (.enter 26 args) w := call_known Sq.func26 rfl (by kernel_rfl) args w
theorem Sq.ok34 : okFn Try.prog.toTables Try.f34 = true := by kernel_rfl
@[simp] theorem Sq.func34 : Sq.prog.funcs[34]? = some Try.f34 := Sq.at_ Try.func34 (by decide) Sq.ok34
abbrev Sq.ntmps34 := @Try.ntmps34
@[simp] theorem Sq.call34 (args : Array Value) (w : World) : (callFunc 34 args).run Sq.prog w = .ok (.enter 34 args) w := call_known Sq.func34 rfl (by kernel_rfl) args w
theorem Sq.ok35 : okFn Try.prog.toTables Try.f35 = true := by kernel_rfl
@[simp] theorem Sq.func35 : Sq.prog.funcs[35]? = some Try.f35 := Sq.at_ Try.func35 (by decide) Sq.ok35
abbrev Sq.ntmps35 := @Try.ntmps35
@[simp] theorem Sq.call35 (args : Array Value) (w : World) : (callFunc 35 args).run Sq.prog w = .ok (.enter 35 args) w := call_known Sq.func35 rfl (by kernel_rfl) args w
theorem Sq.ok37 : okFn Try.prog.toTables Try.f37 = true := by kernel_rfl
@[simp] theorem Sq.func37 : Sq.prog.funcs[37]? = some Try.f37 := Sq.at_ Try.func37 (by decide) Sq.ok37
abbrev Sq.ntmps37 := @Try.ntmps37
@[simp] theorem Sq.call37 (args : Array Value) (w : World) : (callFunc 37 args).run Sq.prog w = .ok (.enter 37 args) w := call_known Sq.func37 rfl (by kernel_rfl) args w
theorem Sq.ok38 : okFn Try.prog.toTables Try.f38 = true := by kernel_rfl
@[simp] theorem Sq.func38 : Sq.prog.funcs[38]? = some Try.f38 := Sq.at_ Try.func38 (by decide) Sq.ok38
abbrev Sq.ntmps38 := @Try.ntmps38
@[simp] theorem Sq.call38 (args : Array Value) (w : World) : (callFunc 38 args).run Sq.prog w = .ok (.enter 38 args) w := call_known Sq.func38 rfl (by kernel_rfl) args w
theorem Sq.ok43 : okFn Try.prog.toTables Try.f43 = true := by kernel_rfl
@[simp] theorem Sq.func43 : Sq.prog.funcs[43]? = some Try.f43 := Sq.at_ Try.func43 (by decide) Sq.ok43
abbrev Sq.ntmps43 := @Try.ntmps43
@[simp] theorem Sq.call43 (args : Array Value) (w : World) : (callFunc 43 args).run Sq.prog w = .ok (.enter 43 args) w := call_known Sq.func43 rfl (by kernel_rfl) args w
theorem Sq.bodies : BodiesOK Try.prog.toTables Sq.G Sq.G.size := by rw [Sq.G_eq]; exact bodies_stand (by kernel_rfl) _
theorem Sq.bodies_d : BodiesOK Try.prog.toTables Sq.G 20 := by rw [Sq.G_eq]; exact bodies_stand (by kernel_rfl) _
theorem Sq.twin : Twin Try.prog.funcs Sq.G 20 := by rw [Sq.G_eq]; exact twin_stand Try.func20 (by kernel_rfl) (by kernel_rfl)
theorem Sq.self : Twin Sq.G Sq.G Sq.G.size := twin_self Sq.twin.bodies
theorem Sq.none_ : Sq.G[Sq.G.size]? = none := Array.getElem?_eq_none (Nat.le_refl _)
end Go.Proofs.Ytlegilbiapbfkaa
