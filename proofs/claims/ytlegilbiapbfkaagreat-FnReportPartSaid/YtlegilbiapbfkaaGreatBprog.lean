/- The stand-in program of this seat: the given one, its one function that starts goroutines replaced. Printed by gen_bprog.py. (Round C) -/
import Derived.Test.YtlegilbiapbfkaaGreatChecked
import Derived.Test.YtlegilbiapbfkaaGreatZSimC
namespace Go.Proofs.YtlegilbiapbfkaaGreat
noncomputable def Sq.stub : Code := stubBody 31 80 130 3 4
@[irreducible] noncomputable def Sq.G : Array Func := Tryz.prog.funcs.mapIdx (standIn Tryz.prog.toTables 45 Sq.stub)
noncomputable def Sq.prog : Program := ⟨Tryz.prog.toTables, Sq.G⟩
@[simp] theorem Sq.tables : Sq.prog.toTables = Tryz.prog.toTables := rfl
theorem Sq.und {t : TypeId} {x : Option TypeDesc} (h : Tryz.prog.underlying t = x) : Sq.prog.underlying t = x := (und_eq Sq.tables t).trans h
@[simp] theorem Sq.und_ (t : TypeId) : Sq.prog.underlying t = Tryz.prog.underlying t := und_eq Sq.tables t
@[simp] theorem Sq.runTypeInfo (t : TypeId) (w : World) : (typeInfo t).run Sq.prog w = (typeInfo t).run Tryz.prog w := run_typeInfo_eq Sq.tables t w
@[simp] theorem Sq.runSizeOf (t : TypeId) (w : World) : (sizeOf t).run Sq.prog w = (sizeOf t).run Tryz.prog w := run_sizeOf_eq Sq.tables t w
@[simp] theorem Sq.runUnderlying (t : TypeId) (w : World) : (underlying t).run Sq.prog w = (underlying t).run Tryz.prog w := run_underlying_eq Sq.tables t w
@[simp] theorem Sq.runIsAgg (t : TypeId) (w : World) : (isAgg t).run Sq.prog w = (isAgg t).run Tryz.prog w := run_isAgg_eq Sq.tables t w
@[simp] theorem Sq.runZeroValue (t : TypeId) (w : World) : (zeroValue t).run Sq.prog w = (zeroValue t).run Tryz.prog w := run_zeroValue_eq Sq.tables t w
@[simp] theorem Sq.eqGuardType_ (t : TypeId) : Sq.prog.eqGuardType Sq.prog.depth t = Tryz.prog.eqGuardType Tryz.prog.depth t := eqGuard_eq Sq.tables t
@[simp] theorem Sq.stoodInHeld_ (t : TypeId) : Sq.prog.stoodInHeld t = Tryz.prog.stoodInHeld t := stood_eq Sq.tables t
theorem Sq.G_eq : Sq.G = Tryz.prog.funcs.mapIdx (standIn Tryz.prog.toTables 45 Sq.stub) := by unfold Sq.G; rfl
theorem Sq.at_ {i : FuncId} {fn : Func} (h : Tryz.prog.funcs[i]? = some fn) (hi : i ≠ 45) (hk : okFn Tryz.prog.toTables fn = true) : Sq.prog.funcs[i]? = some fn := by
  show Sq.G[i]? = _
  rw [Sq.G_eq]
  exact standIn_at h hi hk
noncomputable abbrev Sq.f45 : Func := { Tryz.f45 with body := some Sq.stub, results := #[.tmp 4], ntmps := 25 }
@[simp] theorem Sq.func45 : Sq.prog.funcs[45]? = some Sq.f45 := by
  show Sq.G[45]? = _
  rw [Sq.G_eq]
  exact standIn_d Tryz.func45
@[simp] theorem Sq.ntmps45 : Sq.f45.ntmps = 25 := rfl
@[simp] theorem Sq.results45 : Sq.f45.results = #[.tmp 4] := rfl
@[simp] theorem Sq.call45 (args : Array Value) (w : World) : (callFunc 45 args).run Sq.prog w = .ok (.enter 45 args) w := call_known Sq.func45 rfl (by show (Tryz.f45.name == "runtime.NumGoroutine") = false; kernel_rfl) args w
theorem Sq.atE {i : FuncId} {fn : Func} (h : Tryz.prog.funcs[i]? = some fn) (hi : i ≠ 45) (hk : entFn fn = true) : Sq.prog.funcs[i]? = some fn := by
  show Sq.G[i]? = _
  rw [Sq.G_eq]
  exact standIn_ent h hi hk
theorem Sq.ok2 : okFn Tryz.prog.toTables Tryz.f2 = true := by kernel_rfl
@[simp] theorem Sq.func2 : Sq.prog.funcs[2]? = some Tryz.f2 := Sq.at_ Tryz.func2 (by decide) Sq.ok2
abbrev Sq.ntmps2 := @Tryz.ntmps2
@[simp] theorem Sq.call2 (a : Array Value) (w : World) : (callFunc 2 a).run Sq.prog w = .ok (.enter 2 a) w := call_known Sq.func2 rfl (by kernel_rfl) a w
theorem Sq.ok3 : okFn Tryz.prog.toTables Tryz.f3 = true := by kernel_rfl
@[simp] theorem Sq.func3 : Sq.prog.funcs[3]? = some Tryz.f3 := Sq.at_ Tryz.func3 (by decide) Sq.ok3
abbrev Sq.ntmps3 := @Tryz.ntmps3
@[simp] theorem Sq.call3 (a : Array Value) (w : World) : (callFunc 3 a).run Sq.prog w = .ok (.enter 3 a) w := call_known Sq.func3 rfl (by kernel_rfl) a w
theorem Sq.ok4 : okFn Tryz.prog.toTables Tryz.f4 = true := by kernel_rfl
@[simp] theorem Sq.func4 : Sq.prog.funcs[4]? = some Tryz.f4 := Sq.at_ Tryz.func4 (by decide) Sq.ok4
abbrev Sq.ntmps4 := @Tryz.ntmps4
@[simp] theorem Sq.call4 (a : Array Value) (w : World) : (callFunc 4 a).run Sq.prog w = .ok (.enter 4 a) w := call_known Sq.func4 rfl (by kernel_rfl) a w
theorem Sq.ok5 : okFn Tryz.prog.toTables Tryz.f5 = true := by kernel_rfl
@[simp] theorem Sq.func5 : Sq.prog.funcs[5]? = some Tryz.f5 := Sq.at_ Tryz.func5 (by decide) Sq.ok5
abbrev Sq.ntmps5 := @Tryz.ntmps5
@[simp] theorem Sq.call5 (a : Array Value) (w : World) : (callFunc 5 a).run Sq.prog w = .ok (.enter 5 a) w := call_known Sq.func5 rfl (by kernel_rfl) a w
theorem Sq.ok6 : okFn Tryz.prog.toTables Tryz.f6 = true := by kernel_rfl
@[simp] theorem Sq.func6 : Sq.prog.funcs[6]? = some Tryz.f6 := Sq.at_ Tryz.func6 (by decide) Sq.ok6
abbrev Sq.ntmps6 := @Tryz.ntmps6
@[simp] theorem Sq.call6 (a : Array Value) (w : World) : (callFunc 6 a).run Sq.prog w = .ok (.enter 6 a) w := call_known Sq.func6 rfl (by kernel_rfl) a w
theorem Sq.ok7 : okFn Tryz.prog.toTables Tryz.f7 = true := by kernel_rfl
@[simp] theorem Sq.func7 : Sq.prog.funcs[7]? = some Tryz.f7 := Sq.at_ Tryz.func7 (by decide) Sq.ok7
abbrev Sq.ntmps7 := @Tryz.ntmps7
@[simp] theorem Sq.call7 (a : Array Value) (w : World) : (callFunc 7 a).run Sq.prog w = .ok (.enter 7 a) w := call_known Sq.func7 rfl (by kernel_rfl) a w
theorem Sq.ok8 : okFn Tryz.prog.toTables Tryz.f8 = true := by kernel_rfl
@[simp] theorem Sq.func8 : Sq.prog.funcs[8]? = some Tryz.f8 := Sq.at_ Tryz.func8 (by decide) Sq.ok8
abbrev Sq.ntmps8 := @Tryz.ntmps8
@[simp] theorem Sq.call8 (a : Array Value) (w : World) : (callFunc 8 a).run Sq.prog w = .ok (.enter 8 a) w := call_known Sq.func8 rfl (by kernel_rfl) a w
theorem Sq.ok9 : okFn Tryz.prog.toTables Tryz.f9 = true := by kernel_rfl
@[simp] theorem Sq.func9 : Sq.prog.funcs[9]? = some Tryz.f9 := Sq.at_ Tryz.func9 (by decide) Sq.ok9
abbrev Sq.ntmps9 := @Tryz.ntmps9
@[simp] theorem Sq.call9 (a : Array Value) (w : World) : (callFunc 9 a).run Sq.prog w = .ok (.enter 9 a) w := call_known Sq.func9 rfl (by kernel_rfl) a w
theorem Sq.ok10 : okFn Tryz.prog.toTables Tryz.f10 = true := by kernel_rfl
@[simp] theorem Sq.func10 : Sq.prog.funcs[10]? = some Tryz.f10 := Sq.at_ Tryz.func10 (by decide) Sq.ok10
abbrev Sq.ntmps10 := @Tryz.ntmps10
@[simp] theorem Sq.call10 (a : Array Value) (w : World) : (callFunc 10 a).run Sq.prog w = .ok (.enter 10 a) w := call_known Sq.func10 rfl (by kernel_rfl) a w
theorem Sq.ok11 : okFn Tryz.prog.toTables Tryz.f11 = true := by kernel_rfl
@[simp] theorem Sq.func11 : Sq.prog.funcs[11]? = some Tryz.f11 := Sq.at_ Tryz.func11 (by decide) Sq.ok11
abbrev Sq.ntmps11 := @Tryz.ntmps11
@[simp] theorem Sq.call11 (a : Array Value) (w : World) : (callFunc 11 a).run Sq.prog w = .ok (.enter 11 a) w := call_known Sq.func11 rfl (by kernel_rfl) a w
theorem Sq.ok12 : okFn Tryz.prog.toTables Tryz.f12 = true := by kernel_rfl
@[simp] theorem Sq.func12 : Sq.prog.funcs[12]? = some Tryz.f12 := Sq.at_ Tryz.func12 (by decide) Sq.ok12
abbrev Sq.ntmps12 := @Tryz.ntmps12
@[simp] theorem Sq.call12 (a : Array Value) (w : World) : (callFunc 12 a).run Sq.prog w = .ok (.enter 12 a) w := call_known Sq.func12 rfl (by kernel_rfl) a w
theorem Sq.ok13 : okFn Tryz.prog.toTables Tryz.f13 = true := by kernel_rfl
@[simp] theorem Sq.func13 : Sq.prog.funcs[13]? = some Tryz.f13 := Sq.at_ Tryz.func13 (by decide) Sq.ok13
abbrev Sq.ntmps13 := @Tryz.ntmps13
@[simp] theorem Sq.call13 (a : Array Value) (w : World) : (callFunc 13 a).run Sq.prog w = .ok (.enter 13 a) w := call_known Sq.func13 rfl (by kernel_rfl) a w
theorem Sq.ok14 : okFn Tryz.prog.toTables Tryz.f14 = true := by kernel_rfl
@[simp] theorem Sq.func14 : Sq.prog.funcs[14]? = some Tryz.f14 := Sq.at_ Tryz.func14 (by decide) Sq.ok14
abbrev Sq.ntmps14 := @Tryz.ntmps14
@[simp] theorem Sq.call14 (a : Array Value) (w : World) : (callFunc 14 a).run Sq.prog w = .ok (.enter 14 a) w := call_known Sq.func14 rfl (by kernel_rfl) a w
theorem Sq.ok15 : okFn Tryz.prog.toTables Tryz.f15 = true := by kernel_rfl
@[simp] theorem Sq.func15 : Sq.prog.funcs[15]? = some Tryz.f15 := Sq.at_ Tryz.func15 (by decide) Sq.ok15
abbrev Sq.ntmps15 := @Tryz.ntmps15
@[simp] theorem Sq.call15 (a : Array Value) (w : World) : (callFunc 15 a).run Sq.prog w = .ok (.enter 15 a) w := call_known Sq.func15 rfl (by kernel_rfl) a w
theorem Sq.ok16 : okFn Tryz.prog.toTables Tryz.f16 = true := by kernel_rfl
@[simp] theorem Sq.func16 : Sq.prog.funcs[16]? = some Tryz.f16 := Sq.at_ Tryz.func16 (by decide) Sq.ok16
abbrev Sq.ntmps16 := @Tryz.ntmps16
@[simp] theorem Sq.call16 (a : Array Value) (w : World) : (callFunc 16 a).run Sq.prog w = .ok (.enter 16 a) w := call_known Sq.func16 rfl (by kernel_rfl) a w
theorem Sq.ok17 : okFn Tryz.prog.toTables Tryz.f17 = true := by kernel_rfl
@[simp] theorem Sq.func17 : Sq.prog.funcs[17]? = some Tryz.f17 := Sq.at_ Tryz.func17 (by decide) Sq.ok17
abbrev Sq.ntmps17 := @Tryz.ntmps17
@[simp] theorem Sq.call17 (a : Array Value) (w : World) : (callFunc 17 a).run Sq.prog w = .ok (.enter 17 a) w := call_known Sq.func17 rfl (by kernel_rfl) a w
theorem Sq.ok18 : okFn Tryz.prog.toTables Tryz.f18 = true := by kernel_rfl
@[simp] theorem Sq.func18 : Sq.prog.funcs[18]? = some Tryz.f18 := Sq.at_ Tryz.func18 (by decide) Sq.ok18
abbrev Sq.ntmps18 := @Tryz.ntmps18
@[simp] theorem Sq.call18 (a : Array Value) (w : World) : (callFunc 18 a).run Sq.prog w = .ok (.enter 18 a) w := call_known Sq.func18 rfl (by kernel_rfl) a w
theorem Sq.ok19 : okFn Tryz.prog.toTables Tryz.f19 = true := by kernel_rfl
@[simp] theorem Sq.func19 : Sq.prog.funcs[19]? = some Tryz.f19 := Sq.at_ Tryz.func19 (by decide) Sq.ok19
abbrev Sq.ntmps19 := @Tryz.ntmps19
@[simp] theorem Sq.call19 (a : Array Value) (w : World) : (callFunc 19 a).run Sq.prog w = .ok (.enter 19 a) w := call_known Sq.func19 rfl (by kernel_rfl) a w
theorem Sq.ok20 : okFn Tryz.prog.toTables Tryz.f20 = true := by kernel_rfl
@[simp] theorem Sq.func20 : Sq.prog.funcs[20]? = some Tryz.f20 := Sq.at_ Tryz.func20 (by decide) Sq.ok20
abbrev Sq.ntmps20 := @Tryz.ntmps20
@[simp] theorem Sq.call20 (a : Array Value) (w : World) : (callFunc 20 a).run Sq.prog w = .ok (.enter 20 a) w := call_known Sq.func20 rfl (by kernel_rfl) a w
theorem Sq.ok21 : okFn Tryz.prog.toTables Tryz.f21 = true := by kernel_rfl
@[simp] theorem Sq.func21 : Sq.prog.funcs[21]? = some Tryz.f21 := Sq.at_ Tryz.func21 (by decide) Sq.ok21
abbrev Sq.ntmps21 := @Tryz.ntmps21
@[simp] theorem Sq.call21 (a : Array Value) (w : World) : (callFunc 21 a).run Sq.prog w = .ok (.enter 21 a) w := call_known Sq.func21 rfl (by kernel_rfl) a w
theorem Sq.ok22 : okFn Tryz.prog.toTables Tryz.f22 = true := by kernel_rfl
@[simp] theorem Sq.func22 : Sq.prog.funcs[22]? = some Tryz.f22 := Sq.at_ Tryz.func22 (by decide) Sq.ok22
abbrev Sq.ntmps22 := @Tryz.ntmps22
@[simp] theorem Sq.call22 (a : Array Value) (w : World) : (callFunc 22 a).run Sq.prog w = .ok (.enter 22 a) w := call_known Sq.func22 rfl (by kernel_rfl) a w
theorem Sq.ok23 : okFn Tryz.prog.toTables Tryz.f23 = true := by kernel_rfl
@[simp] theorem Sq.func23 : Sq.prog.funcs[23]? = some Tryz.f23 := Sq.at_ Tryz.func23 (by decide) Sq.ok23
abbrev Sq.ntmps23 := @Tryz.ntmps23
@[simp] theorem Sq.call23 (a : Array Value) (w : World) : (callFunc 23 a).run Sq.prog w = .ok (.enter 23 a) w := call_known Sq.func23 rfl (by kernel_rfl) a w
theorem Sq.ok24 : okFn Tryz.prog.toTables Tryz.f24 = true := by kernel_rfl
@[simp] theorem Sq.func24 : Sq.prog.funcs[24]? = some Tryz.f24 := Sq.at_ Tryz.func24 (by decide) Sq.ok24
abbrev Sq.ntmps24 := @Tryz.ntmps24
@[simp] theorem Sq.call24 (a : Array Value) (w : World) : (callFunc 24 a).run Sq.prog w = .ok (.enter 24 a) w := call_known Sq.func24 rfl (by kernel_rfl) a w
theorem Sq.ok25 : okFn Tryz.prog.toTables Tryz.f25 = true := by kernel_rfl
@[simp] theorem Sq.func25 : Sq.prog.funcs[25]? = some Tryz.f25 := Sq.at_ Tryz.func25 (by decide) Sq.ok25
abbrev Sq.ntmps25 := @Tryz.ntmps25
@[simp] theorem Sq.call25 (a : Array Value) (w : World) : (callFunc 25 a).run Sq.prog w = .ok (.enter 25 a) w := call_known Sq.func25 rfl (by kernel_rfl) a w
theorem Sq.ok26 : okFn Tryz.prog.toTables Tryz.f26 = true := by kernel_rfl
@[simp] theorem Sq.func26 : Sq.prog.funcs[26]? = some Tryz.f26 := Sq.at_ Tryz.func26 (by decide) Sq.ok26
abbrev Sq.ntmps26 := @Tryz.ntmps26
@[simp] theorem Sq.call26 (a : Array Value) (w : World) : (callFunc 26 a).run Sq.prog w = .ok (.enter 26 a) w := call_known Sq.func26 rfl (by kernel_rfl) a w
theorem Sq.ok27 : okFn Tryz.prog.toTables Tryz.f27 = true := by kernel_rfl
@[simp] theorem Sq.func27 : Sq.prog.funcs[27]? = some Tryz.f27 := Sq.at_ Tryz.func27 (by decide) Sq.ok27
abbrev Sq.ntmps27 := @Tryz.ntmps27
@[simp] theorem Sq.call27 (a : Array Value) (w : World) : (callFunc 27 a).run Sq.prog w = .ok (.enter 27 a) w := call_known Sq.func27 rfl (by kernel_rfl) a w
theorem Sq.ok28 : okFn Tryz.prog.toTables Tryz.f28 = true := by kernel_rfl
@[simp] theorem Sq.func28 : Sq.prog.funcs[28]? = some Tryz.f28 := Sq.at_ Tryz.func28 (by decide) Sq.ok28
abbrev Sq.ntmps28 := @Tryz.ntmps28
@[simp] theorem Sq.call28 (a : Array Value) (w : World) : (callFunc 28 a).run Sq.prog w = .ok (.enter 28 a) w := call_known Sq.func28 rfl (by kernel_rfl) a w
theorem Sq.ok29 : okFn Tryz.prog.toTables Tryz.f29 = true := by kernel_rfl
@[simp] theorem Sq.func29 : Sq.prog.funcs[29]? = some Tryz.f29 := Sq.at_ Tryz.func29 (by decide) Sq.ok29
abbrev Sq.ntmps29 := @Tryz.ntmps29
@[simp] theorem Sq.call29 (a : Array Value) (w : World) : (callFunc 29 a).run Sq.prog w = .ok (.enter 29 a) w := call_known Sq.func29 rfl (by kernel_rfl) a w
theorem Sq.ok30 : okFn Tryz.prog.toTables Tryz.f30 = true := by kernel_rfl
@[simp] theorem Sq.func30 : Sq.prog.funcs[30]? = some Tryz.f30 := Sq.at_ Tryz.func30 (by decide) Sq.ok30
abbrev Sq.ntmps30 := @Tryz.ntmps30
@[simp] theorem Sq.call30 (a : Array Value) (w : World) : (callFunc 30 a).run Sq.prog w = .ok (.enter 30 a) w := call_known Sq.func30 rfl (by kernel_rfl) a w
theorem Sq.ok31 : okFn Tryz.prog.toTables Tryz.f31 = true := by kernel_rfl
@[simp] theorem Sq.func31 : Sq.prog.funcs[31]? = some Tryz.f31 := Sq.at_ Tryz.func31 (by decide) Sq.ok31
abbrev Sq.ntmps31 := @Tryz.ntmps31
@[simp] theorem Sq.call31 (a : Array Value) (w : World) : (callFunc 31 a).run Sq.prog w = .ok (.enter 31 a) w := call_known Sq.func31 rfl (by kernel_rfl) a w
theorem Sq.ok32 : okFn Tryz.prog.toTables Tryz.f32 = true := by kernel_rfl
@[simp] theorem Sq.func32 : Sq.prog.funcs[32]? = some Tryz.f32 := Sq.at_ Tryz.func32 (by decide) Sq.ok32
abbrev Sq.ntmps32 := @Tryz.ntmps32
@[simp] theorem Sq.call32 (a : Array Value) (w : World) : (callFunc 32 a).run Sq.prog w = .ok (.enter 32 a) w := call_known Sq.func32 rfl (by kernel_rfl) a w
theorem Sq.ok33 : okFn Tryz.prog.toTables Tryz.f33 = true := by kernel_rfl
@[simp] theorem Sq.func33 : Sq.prog.funcs[33]? = some Tryz.f33 := Sq.at_ Tryz.func33 (by decide) Sq.ok33
abbrev Sq.ntmps33 := @Tryz.ntmps33
@[simp] theorem Sq.call33 (a : Array Value) (w : World) : (callFunc 33 a).run Sq.prog w = .ok (.enter 33 a) w := call_known Sq.func33 rfl (by kernel_rfl) a w
theorem Sq.ok34 : okFn Tryz.prog.toTables Tryz.f34 = true := by kernel_rfl
@[simp] theorem Sq.func34 : Sq.prog.funcs[34]? = some Tryz.f34 := Sq.at_ Tryz.func34 (by decide) Sq.ok34
abbrev Sq.ntmps34 := @Tryz.ntmps34
@[simp] theorem Sq.call34 (a : Array Value) (w : World) : (callFunc 34 a).run Sq.prog w = .ok (.enter 34 a) w := call_known Sq.func34 rfl (by kernel_rfl) a w
theorem Sq.ok35 : okFn Tryz.prog.toTables Tryz.f35 = true := by kernel_rfl
@[simp] theorem Sq.func35 : Sq.prog.funcs[35]? = some Tryz.f35 := Sq.at_ Tryz.func35 (by decide) Sq.ok35
abbrev Sq.ntmps35 := @Tryz.ntmps35
@[simp] theorem Sq.call35 (a : Array Value) (w : World) : (callFunc 35 a).run Sq.prog w = .ok (.enter 35 a) w := call_known Sq.func35 rfl (by kernel_rfl) a w
theorem Sq.ok36 : okFn Tryz.prog.toTables Tryz.f36 = true := by kernel_rfl
@[simp] theorem Sq.func36 : Sq.prog.funcs[36]? = some Tryz.f36 := Sq.at_ Tryz.func36 (by decide) Sq.ok36
abbrev Sq.ntmps36 := @Tryz.ntmps36
@[simp] theorem Sq.call36 (a : Array Value) (w : World) : (callFunc 36 a).run Sq.prog w = .ok (.enter 36 a) w := call_known Sq.func36 rfl (by kernel_rfl) a w
theorem Sq.ok37 : okFn Tryz.prog.toTables Tryz.f37 = true := by kernel_rfl
@[simp] theorem Sq.func37 : Sq.prog.funcs[37]? = some Tryz.f37 := Sq.at_ Tryz.func37 (by decide) Sq.ok37
abbrev Sq.ntmps37 := @Tryz.ntmps37
@[simp] theorem Sq.call37 (a : Array Value) (w : World) : (callFunc 37 a).run Sq.prog w = .ok (.enter 37 a) w := call_known Sq.func37 rfl (by kernel_rfl) a w
theorem Sq.ok38 : okFn Tryz.prog.toTables Tryz.f38 = true := by kernel_rfl
@[simp] theorem Sq.func38 : Sq.prog.funcs[38]? = some Tryz.f38 := Sq.at_ Tryz.func38 (by decide) Sq.ok38
abbrev Sq.ntmps38 := @Tryz.ntmps38
@[simp] theorem Sq.call38 (a : Array Value) (w : World) : (callFunc 38 a).run Sq.prog w = .ok (.enter 38 a) w := call_known Sq.func38 rfl (by kernel_rfl) a w
theorem Sq.ok39 : okFn Tryz.prog.toTables Tryz.f39 = true := by kernel_rfl
@[simp] theorem Sq.func39 : Sq.prog.funcs[39]? = some Tryz.f39 := Sq.at_ Tryz.func39 (by decide) Sq.ok39
abbrev Sq.ntmps39 := @Tryz.ntmps39
@[simp] theorem Sq.call39 (a : Array Value) (w : World) : (callFunc 39 a).run Sq.prog w = .ok (.enter 39 a) w := call_known Sq.func39 rfl (by kernel_rfl) a w
theorem Sq.ok40 : okFn Tryz.prog.toTables Tryz.f40 = true := by kernel_rfl
@[simp] theorem Sq.func40 : Sq.prog.funcs[40]? = some Tryz.f40 := Sq.at_ Tryz.func40 (by decide) Sq.ok40
abbrev Sq.ntmps40 := @Tryz.ntmps40
@[simp] theorem Sq.call40 (a : Array Value) (w : World) : (callFunc 40 a).run Sq.prog w = .ok (.enter 40 a) w := call_known Sq.func40 rfl (by kernel_rfl) a w
theorem Sq.ok41 : okFn Tryz.prog.toTables Tryz.f41 = true := by kernel_rfl
@[simp] theorem Sq.func41 : Sq.prog.funcs[41]? = some Tryz.f41 := Sq.at_ Tryz.func41 (by decide) Sq.ok41
abbrev Sq.ntmps41 := @Tryz.ntmps41
@[simp] theorem Sq.call41 (a : Array Value) (w : World) : (callFunc 41 a).run Sq.prog w = .ok (.enter 41 a) w := call_known Sq.func41 rfl (by kernel_rfl) a w
theorem Sq.ok42 : okFn Tryz.prog.toTables Tryz.f42 = true := by kernel_rfl
@[simp] theorem Sq.func42 : Sq.prog.funcs[42]? = some Tryz.f42 := Sq.at_ Tryz.func42 (by decide) Sq.ok42
abbrev Sq.ntmps42 := @Tryz.ntmps42
@[simp] theorem Sq.call42 (a : Array Value) (w : World) : (callFunc 42 a).run Sq.prog w = .ok (.enter 42 a) w := call_known Sq.func42 rfl (by kernel_rfl) a w
theorem Sq.ok43 : okFn Tryz.prog.toTables Tryz.f43 = true := by kernel_rfl
@[simp] theorem Sq.func43 : Sq.prog.funcs[43]? = some Tryz.f43 := Sq.at_ Tryz.func43 (by decide) Sq.ok43
abbrev Sq.ntmps43 := @Tryz.ntmps43
@[simp] theorem Sq.call43 (a : Array Value) (w : World) : (callFunc 43 a).run Sq.prog w = .ok (.enter 43 a) w := call_known Sq.func43 rfl (by kernel_rfl) a w
theorem Sq.ok44 : okFn Tryz.prog.toTables Tryz.f44 = true := by kernel_rfl
@[simp] theorem Sq.func44 : Sq.prog.funcs[44]? = some Tryz.f44 := Sq.at_ Tryz.func44 (by decide) Sq.ok44
abbrev Sq.ntmps44 := @Tryz.ntmps44
@[simp] theorem Sq.call44 (a : Array Value) (w : World) : (callFunc 44 a).run Sq.prog w = .ok (.enter 44 a) w := call_known Sq.func44 rfl (by kernel_rfl) a w
theorem Sq.ok46 : okFn Tryz.prog.toTables Tryz.f46 = true := by kernel_rfl
@[simp] theorem Sq.func46 : Sq.prog.funcs[46]? = some Tryz.f46 := Sq.at_ Tryz.func46 (by decide) Sq.ok46
abbrev Sq.ntmps46 := @Tryz.ntmps46
@[simp] theorem Sq.call46 (a : Array Value) (w : World) : (callFunc 46 a).run Sq.prog w = .ok (.enter 46 a) w := call_known Sq.func46 rfl (by kernel_rfl) a w
theorem Sq.ok47 : okFn Tryz.prog.toTables Tryz.f47 = true := by kernel_rfl
@[simp] theorem Sq.func47 : Sq.prog.funcs[47]? = some Tryz.f47 := Sq.at_ Tryz.func47 (by decide) Sq.ok47
abbrev Sq.ntmps47 := @Tryz.ntmps47
@[simp] theorem Sq.call47 (a : Array Value) (w : World) : (callFunc 47 a).run Sq.prog w = .ok (.enter 47 a) w := call_known Sq.func47 rfl (by kernel_rfl) a w
theorem Sq.ok48 : okFn Tryz.prog.toTables Tryz.f48 = true := by kernel_rfl
@[simp] theorem Sq.func48 : Sq.prog.funcs[48]? = some Tryz.f48 := Sq.at_ Tryz.func48 (by decide) Sq.ok48
abbrev Sq.ntmps48 := @Tryz.ntmps48
@[simp] theorem Sq.call48 (a : Array Value) (w : World) : (callFunc 48 a).run Sq.prog w = .ok (.enter 48 a) w := call_known Sq.func48 rfl (by kernel_rfl) a w
theorem Sq.ok49 : okFn Tryz.prog.toTables Tryz.f49 = true := by kernel_rfl
@[simp] theorem Sq.func49 : Sq.prog.funcs[49]? = some Tryz.f49 := Sq.at_ Tryz.func49 (by decide) Sq.ok49
abbrev Sq.ntmps49 := @Tryz.ntmps49
@[simp] theorem Sq.call49 (a : Array Value) (w : World) : (callFunc 49 a).run Sq.prog w = .ok (.enter 49 a) w := call_known Sq.func49 rfl (by kernel_rfl) a w
theorem Sq.ok50 : okFn Tryz.prog.toTables Tryz.f50 = true := by kernel_rfl
@[simp] theorem Sq.func50 : Sq.prog.funcs[50]? = some Tryz.f50 := Sq.at_ Tryz.func50 (by decide) Sq.ok50
abbrev Sq.ntmps50 := @Tryz.ntmps50
@[simp] theorem Sq.call50 (a : Array Value) (w : World) : (callFunc 50 a).run Sq.prog w = .ok (.enter 50 a) w := call_known Sq.func50 rfl (by kernel_rfl) a w
theorem Sq.ok51 : okFn Tryz.prog.toTables Tryz.f51 = true := by kernel_rfl
@[simp] theorem Sq.func51 : Sq.prog.funcs[51]? = some Tryz.f51 := Sq.at_ Tryz.func51 (by decide) Sq.ok51
abbrev Sq.ntmps51 := @Tryz.ntmps51
@[simp] theorem Sq.call51 (a : Array Value) (w : World) : (callFunc 51 a).run Sq.prog w = .ok (.enter 51 a) w := call_known Sq.func51 rfl (by kernel_rfl) a w
theorem Sq.ok52 : okFn Tryz.prog.toTables Tryz.f52 = true := by kernel_rfl
@[simp] theorem Sq.func52 : Sq.prog.funcs[52]? = some Tryz.f52 := Sq.at_ Tryz.func52 (by decide) Sq.ok52
abbrev Sq.ntmps52 := @Tryz.ntmps52
@[simp] theorem Sq.call52 (a : Array Value) (w : World) : (callFunc 52 a).run Sq.prog w = .ok (.enter 52 a) w := call_known Sq.func52 rfl (by kernel_rfl) a w
theorem Sq.ok53 : okFn Tryz.prog.toTables Tryz.f53 = true := by kernel_rfl
@[simp] theorem Sq.func53 : Sq.prog.funcs[53]? = some Tryz.f53 := Sq.at_ Tryz.func53 (by decide) Sq.ok53
abbrev Sq.ntmps53 := @Tryz.ntmps53
@[simp] theorem Sq.call53 (a : Array Value) (w : World) : (callFunc 53 a).run Sq.prog w = .ok (.enter 53 a) w := call_known Sq.func53 rfl (by kernel_rfl) a w
theorem Sq.ok54 : okFn Tryz.prog.toTables Tryz.f54 = true := by kernel_rfl
@[simp] theorem Sq.func54 : Sq.prog.funcs[54]? = some Tryz.f54 := Sq.at_ Tryz.func54 (by decide) Sq.ok54
abbrev Sq.ntmps54 := @Tryz.ntmps54
@[simp] theorem Sq.call54 (a : Array Value) (w : World) : (callFunc 54 a).run Sq.prog w = .ok (.enter 54 a) w := call_known Sq.func54 rfl (by kernel_rfl) a w
theorem Sq.ok55 : okFn Tryz.prog.toTables Tryz.f55 = true := by kernel_rfl
@[simp] theorem Sq.func55 : Sq.prog.funcs[55]? = some Tryz.f55 := Sq.at_ Tryz.func55 (by decide) Sq.ok55
abbrev Sq.ntmps55 := @Tryz.ntmps55
@[simp] theorem Sq.call55 (a : Array Value) (w : World) : (callFunc 55 a).run Sq.prog w = .ok (.enter 55 a) w := call_known Sq.func55 rfl (by kernel_rfl) a w
theorem Sq.ok56 : okFn Tryz.prog.toTables Tryz.f56 = true := by kernel_rfl
@[simp] theorem Sq.func56 : Sq.prog.funcs[56]? = some Tryz.f56 := Sq.at_ Tryz.func56 (by decide) Sq.ok56
abbrev Sq.ntmps56 := @Tryz.ntmps56
@[simp] theorem Sq.call56 (a : Array Value) (w : World) : (callFunc 56 a).run Sq.prog w = .ok (.enter 56 a) w := call_known Sq.func56 rfl (by kernel_rfl) a w
theorem Sq.ok57 : okFn Tryz.prog.toTables Tryz.f57 = true := by kernel_rfl
@[simp] theorem Sq.func57 : Sq.prog.funcs[57]? = some Tryz.f57 := Sq.at_ Tryz.func57 (by decide) Sq.ok57
abbrev Sq.ntmps57 := @Tryz.ntmps57
@[simp] theorem Sq.call57 (a : Array Value) (w : World) : (callFunc 57 a).run Sq.prog w = .ok (.enter 57 a) w := call_known Sq.func57 rfl (by kernel_rfl) a w
theorem Sq.ok58 : okFn Tryz.prog.toTables Tryz.f58 = true := by kernel_rfl
@[simp] theorem Sq.func58 : Sq.prog.funcs[58]? = some Tryz.f58 := Sq.at_ Tryz.func58 (by decide) Sq.ok58
abbrev Sq.ntmps58 := @Tryz.ntmps58
@[simp] theorem Sq.call58 (a : Array Value) (w : World) : (callFunc 58 a).run Sq.prog w = .ok (.enter 58 a) w := call_known Sq.func58 rfl (by kernel_rfl) a w
theorem Sq.ok59 : okFn Tryz.prog.toTables Tryz.f59 = true := by kernel_rfl
@[simp] theorem Sq.func59 : Sq.prog.funcs[59]? = some Tryz.f59 := Sq.at_ Tryz.func59 (by decide) Sq.ok59
abbrev Sq.ntmps59 := @Tryz.ntmps59
@[simp] theorem Sq.call59 (a : Array Value) (w : World) : (callFunc 59 a).run Sq.prog w = .ok (.enter 59 a) w := call_known Sq.func59 rfl (by kernel_rfl) a w
theorem Sq.ok60 : okFn Tryz.prog.toTables Tryz.f60 = true := by kernel_rfl
@[simp] theorem Sq.func60 : Sq.prog.funcs[60]? = some Tryz.f60 := Sq.at_ Tryz.func60 (by decide) Sq.ok60
abbrev Sq.ntmps60 := @Tryz.ntmps60
@[simp] theorem Sq.call60 (a : Array Value) (w : World) : (callFunc 60 a).run Sq.prog w = .ok (.enter 60 a) w := call_known Sq.func60 rfl (by kernel_rfl) a w
theorem Sq.ok61 : okFn Tryz.prog.toTables Tryz.f61 = true := by kernel_rfl
@[simp] theorem Sq.func61 : Sq.prog.funcs[61]? = some Tryz.f61 := Sq.at_ Tryz.func61 (by decide) Sq.ok61
abbrev Sq.ntmps61 := @Tryz.ntmps61
@[simp] theorem Sq.call61 (a : Array Value) (w : World) : (callFunc 61 a).run Sq.prog w = .ok (.enter 61 a) w := call_known Sq.func61 rfl (by kernel_rfl) a w
theorem Sq.ok62 : okFn Tryz.prog.toTables Tryz.f62 = true := by kernel_rfl
@[simp] theorem Sq.func62 : Sq.prog.funcs[62]? = some Tryz.f62 := Sq.at_ Tryz.func62 (by decide) Sq.ok62
abbrev Sq.ntmps62 := @Tryz.ntmps62
@[simp] theorem Sq.call62 (a : Array Value) (w : World) : (callFunc 62 a).run Sq.prog w = .ok (.enter 62 a) w := call_known Sq.func62 rfl (by kernel_rfl) a w
theorem Sq.ok63 : okFn Tryz.prog.toTables Tryz.f63 = true := by kernel_rfl
@[simp] theorem Sq.func63 : Sq.prog.funcs[63]? = some Tryz.f63 := Sq.at_ Tryz.func63 (by decide) Sq.ok63
abbrev Sq.ntmps63 := @Tryz.ntmps63
@[simp] theorem Sq.call63 (a : Array Value) (w : World) : (callFunc 63 a).run Sq.prog w = .ok (.enter 63 a) w := call_known Sq.func63 rfl (by kernel_rfl) a w
theorem Sq.ok64 : okFn Tryz.prog.toTables Tryz.f64 = true := by kernel_rfl
@[simp] theorem Sq.func64 : Sq.prog.funcs[64]? = some Tryz.f64 := Sq.at_ Tryz.func64 (by decide) Sq.ok64
abbrev Sq.ntmps64 := @Tryz.ntmps64
@[simp] theorem Sq.call64 (a : Array Value) (w : World) : (callFunc 64 a).run Sq.prog w = .ok (.enter 64 a) w := call_known Sq.func64 rfl (by kernel_rfl) a w
theorem Sq.ok65 : okFn Tryz.prog.toTables Tryz.f65 = true := by kernel_rfl
@[simp] theorem Sq.func65 : Sq.prog.funcs[65]? = some Tryz.f65 := Sq.at_ Tryz.func65 (by decide) Sq.ok65
abbrev Sq.ntmps65 := @Tryz.ntmps65
@[simp] theorem Sq.call65 (a : Array Value) (w : World) : (callFunc 65 a).run Sq.prog w = .ok (.enter 65 a) w := call_known Sq.func65 rfl (by kernel_rfl) a w
theorem Sq.ok66 : okFn Tryz.prog.toTables Tryz.f66 = true := by kernel_rfl
@[simp] theorem Sq.func66 : Sq.prog.funcs[66]? = some Tryz.f66 := Sq.at_ Tryz.func66 (by decide) Sq.ok66
abbrev Sq.ntmps66 := @Tryz.ntmps66
@[simp] theorem Sq.call66 (a : Array Value) (w : World) : (callFunc 66 a).run Sq.prog w = .ok (.enter 66 a) w := call_known Sq.func66 rfl (by kernel_rfl) a w
theorem Sq.ok67 : okFn Tryz.prog.toTables Tryz.f67 = true := by kernel_rfl
@[simp] theorem Sq.func67 : Sq.prog.funcs[67]? = some Tryz.f67 := Sq.at_ Tryz.func67 (by decide) Sq.ok67
abbrev Sq.ntmps67 := @Tryz.ntmps67
@[simp] theorem Sq.call67 (a : Array Value) (w : World) : (callFunc 67 a).run Sq.prog w = .ok (.enter 67 a) w := call_known Sq.func67 rfl (by kernel_rfl) a w
theorem Sq.ok68 : okFn Tryz.prog.toTables Tryz.f68 = true := by kernel_rfl
@[simp] theorem Sq.func68 : Sq.prog.funcs[68]? = some Tryz.f68 := Sq.at_ Tryz.func68 (by decide) Sq.ok68
abbrev Sq.ntmps68 := @Tryz.ntmps68
@[simp] theorem Sq.call68 (a : Array Value) (w : World) : (callFunc 68 a).run Sq.prog w = .ok (.enter 68 a) w := call_known Sq.func68 rfl (by kernel_rfl) a w
theorem Sq.ok69 : okFn Tryz.prog.toTables Tryz.f69 = true := by kernel_rfl
@[simp] theorem Sq.func69 : Sq.prog.funcs[69]? = some Tryz.f69 := Sq.at_ Tryz.func69 (by decide) Sq.ok69
abbrev Sq.ntmps69 := @Tryz.ntmps69
@[simp] theorem Sq.call69 (a : Array Value) (w : World) : (callFunc 69 a).run Sq.prog w = .ok (.enter 69 a) w := call_known Sq.func69 rfl (by kernel_rfl) a w
theorem Sq.ok70 : okFn Tryz.prog.toTables Tryz.f70 = true := by kernel_rfl
@[simp] theorem Sq.func70 : Sq.prog.funcs[70]? = some Tryz.f70 := Sq.at_ Tryz.func70 (by decide) Sq.ok70
abbrev Sq.ntmps70 := @Tryz.ntmps70
@[simp] theorem Sq.call70 (a : Array Value) (w : World) : (callFunc 70 a).run Sq.prog w = .ok (.enter 70 a) w := call_known Sq.func70 rfl (by kernel_rfl) a w
theorem Sq.ok71 : okFn Tryz.prog.toTables Tryz.f71 = true := by kernel_rfl
@[simp] theorem Sq.func71 : Sq.prog.funcs[71]? = some Tryz.f71 := Sq.at_ Tryz.func71 (by decide) Sq.ok71
abbrev Sq.ntmps71 := @Tryz.ntmps71
@[simp] theorem Sq.call71 (a : Array Value) (w : World) : (callFunc 71 a).run Sq.prog w = .ok (.enter 71 a) w := call_known Sq.func71 rfl (by kernel_rfl) a w
theorem Sq.ok72 : okFn Tryz.prog.toTables Tryz.f72 = true := by kernel_rfl
@[simp] theorem Sq.func72 : Sq.prog.funcs[72]? = some Tryz.f72 := Sq.at_ Tryz.func72 (by decide) Sq.ok72
abbrev Sq.ntmps72 := @Tryz.ntmps72
@[simp] theorem Sq.call72 (a : Array Value) (w : World) : (callFunc 72 a).run Sq.prog w = .ok (.enter 72 a) w := call_known Sq.func72 rfl (by kernel_rfl) a w
theorem Sq.ok73 : okFn Tryz.prog.toTables Tryz.f73 = true := by kernel_rfl
@[simp] theorem Sq.func73 : Sq.prog.funcs[73]? = some Tryz.f73 := Sq.at_ Tryz.func73 (by decide) Sq.ok73
abbrev Sq.ntmps73 := @Tryz.ntmps73
@[simp] theorem Sq.call73 (a : Array Value) (w : World) : (callFunc 73 a).run Sq.prog w = .ok (.enter 73 a) w := call_known Sq.func73 rfl (by kernel_rfl) a w
theorem Sq.ok74 : okFn Tryz.prog.toTables Tryz.f74 = true := by kernel_rfl
@[simp] theorem Sq.func74 : Sq.prog.funcs[74]? = some Tryz.f74 := Sq.at_ Tryz.func74 (by decide) Sq.ok74
abbrev Sq.ntmps74 := @Tryz.ntmps74
@[simp] theorem Sq.call74 (a : Array Value) (w : World) : (callFunc 74 a).run Sq.prog w = .ok (.enter 74 a) w := call_known Sq.func74 rfl (by kernel_rfl) a w
theorem Sq.ok75 : okFn Tryz.prog.toTables Tryz.f75 = true := by kernel_rfl
@[simp] theorem Sq.func75 : Sq.prog.funcs[75]? = some Tryz.f75 := Sq.at_ Tryz.func75 (by decide) Sq.ok75
abbrev Sq.ntmps75 := @Tryz.ntmps75
@[simp] theorem Sq.call75 (a : Array Value) (w : World) : (callFunc 75 a).run Sq.prog w = .ok (.enter 75 a) w := call_known Sq.func75 rfl (by kernel_rfl) a w
theorem Sq.ok76 : okFn Tryz.prog.toTables Tryz.f76 = true := by kernel_rfl
@[simp] theorem Sq.func76 : Sq.prog.funcs[76]? = some Tryz.f76 := Sq.at_ Tryz.func76 (by decide) Sq.ok76
abbrev Sq.ntmps76 := @Tryz.ntmps76
@[simp] theorem Sq.call76 (a : Array Value) (w : World) : (callFunc 76 a).run Sq.prog w = .ok (.enter 76 a) w := call_known Sq.func76 rfl (by kernel_rfl) a w
theorem Sq.ok77 : okFn Tryz.prog.toTables Tryz.f77 = true := by kernel_rfl
@[simp] theorem Sq.func77 : Sq.prog.funcs[77]? = some Tryz.f77 := Sq.at_ Tryz.func77 (by decide) Sq.ok77
abbrev Sq.ntmps77 := @Tryz.ntmps77
@[simp] theorem Sq.call77 (a : Array Value) (w : World) : (callFunc 77 a).run Sq.prog w = .ok (.enter 77 a) w := call_known Sq.func77 rfl (by kernel_rfl) a w
theorem Sq.ok78 : okFn Tryz.prog.toTables Tryz.f78 = true := by kernel_rfl
@[simp] theorem Sq.func78 : Sq.prog.funcs[78]? = some Tryz.f78 := Sq.at_ Tryz.func78 (by decide) Sq.ok78
abbrev Sq.ntmps78 := @Tryz.ntmps78
@[simp] theorem Sq.call78 (a : Array Value) (w : World) : (callFunc 78 a).run Sq.prog w = .ok (.enter 78 a) w := call_known Sq.func78 rfl (by kernel_rfl) a w
theorem Sq.ok79 : okFn Tryz.prog.toTables Tryz.f79 = true := by kernel_rfl
@[simp] theorem Sq.func79 : Sq.prog.funcs[79]? = some Tryz.f79 := Sq.at_ Tryz.func79 (by decide) Sq.ok79
abbrev Sq.ntmps79 := @Tryz.ntmps79
@[simp] theorem Sq.call79 (a : Array Value) (w : World) : (callFunc 79 a).run Sq.prog w = .ok (.enter 79 a) w := call_known Sq.func79 rfl (by kernel_rfl) a w
theorem Sq.ok80 : okFn Tryz.prog.toTables Tryz.f80 = true := by kernel_rfl
@[simp] theorem Sq.func80 : Sq.prog.funcs[80]? = some Tryz.f80 := Sq.at_ Tryz.func80 (by decide) Sq.ok80
abbrev Sq.ntmps80 := @Tryz.ntmps80
@[simp] theorem Sq.call80 (a : Array Value) (w : World) : (callFunc 80 a).run Sq.prog w = .ok (.enter 80 a) w := call_known Sq.func80 rfl (by kernel_rfl) a w
theorem Sq.ok81 : okFn Tryz.prog.toTables Tryz.f81 = true := by kernel_rfl
@[simp] theorem Sq.func81 : Sq.prog.funcs[81]? = some Tryz.f81 := Sq.at_ Tryz.func81 (by decide) Sq.ok81
abbrev Sq.ntmps81 := @Tryz.ntmps81
@[simp] theorem Sq.call81 (a : Array Value) (w : World) : (callFunc 81 a).run Sq.prog w = .ok (.enter 81 a) w := call_known Sq.func81 rfl (by kernel_rfl) a w
theorem Sq.ok82 : okFn Tryz.prog.toTables Tryz.f82 = true := by kernel_rfl
@[simp] theorem Sq.func82 : Sq.prog.funcs[82]? = some Tryz.f82 := Sq.at_ Tryz.func82 (by decide) Sq.ok82
abbrev Sq.ntmps82 := @Tryz.ntmps82
@[simp] theorem Sq.call82 (a : Array Value) (w : World) : (callFunc 82 a).run Sq.prog w = .ok (.enter 82 a) w := call_known Sq.func82 rfl (by kernel_rfl) a w
theorem Sq.ok83 : okFn Tryz.prog.toTables Tryz.f83 = true := by kernel_rfl
@[simp] theorem Sq.func83 : Sq.prog.funcs[83]? = some Tryz.f83 := Sq.at_ Tryz.func83 (by decide) Sq.ok83
abbrev Sq.ntmps83 := @Tryz.ntmps83
@[simp] theorem Sq.call83 (a : Array Value) (w : World) : (callFunc 83 a).run Sq.prog w = .ok (.enter 83 a) w := call_known Sq.func83 rfl (by kernel_rfl) a w
theorem Sq.ok86 : okFn Tryz.prog.toTables Tryz.f86 = true := by kernel_rfl
@[simp] theorem Sq.func86 : Sq.prog.funcs[86]? = some Tryz.f86 := Sq.at_ Tryz.func86 (by decide) Sq.ok86
abbrev Sq.ntmps86 := @Tryz.ntmps86
@[simp] theorem Sq.call86 (a : Array Value) (w : World) : (callFunc 86 a).run Sq.prog w = .ok (.enter 86 a) w := call_known Sq.func86 rfl (by kernel_rfl) a w
theorem Sq.ok88 : okFn Tryz.prog.toTables Tryz.f88 = true := by kernel_rfl
@[simp] theorem Sq.func88 : Sq.prog.funcs[88]? = some Tryz.f88 := Sq.at_ Tryz.func88 (by decide) Sq.ok88
abbrev Sq.ntmps88 := @Tryz.ntmps88
@[simp] theorem Sq.call88 (a : Array Value) (w : World) : (callFunc 88 a).run Sq.prog w = .ok (.enter 88 a) w := call_known Sq.func88 rfl (by kernel_rfl) a w
theorem Sq.ok89 : okFn Tryz.prog.toTables Tryz.f89 = true := by kernel_rfl
@[simp] theorem Sq.func89 : Sq.prog.funcs[89]? = some Tryz.f89 := Sq.at_ Tryz.func89 (by decide) Sq.ok89
abbrev Sq.ntmps89 := @Tryz.ntmps89
@[simp] theorem Sq.call89 (a : Array Value) (w : World) : (callFunc 89 a).run Sq.prog w = .ok (.enter 89 a) w := call_known Sq.func89 rfl (by kernel_rfl) a w
theorem Sq.ok90 : okFn Tryz.prog.toTables Tryz.f90 = true := by kernel_rfl
@[simp] theorem Sq.func90 : Sq.prog.funcs[90]? = some Tryz.f90 := Sq.at_ Tryz.func90 (by decide) Sq.ok90
abbrev Sq.ntmps90 := @Tryz.ntmps90
@[simp] theorem Sq.call90 (a : Array Value) (w : World) : (callFunc 90 a).run Sq.prog w = .ok (.enter 90 a) w := call_known Sq.func90 rfl (by kernel_rfl) a w
theorem Sq.ok91 : okFn Tryz.prog.toTables Tryz.f91 = true := by kernel_rfl
@[simp] theorem Sq.func91 : Sq.prog.funcs[91]? = some Tryz.f91 := Sq.at_ Tryz.func91 (by decide) Sq.ok91
abbrev Sq.ntmps91 := @Tryz.ntmps91
@[simp] theorem Sq.call91 (a : Array Value) (w : World) : (callFunc 91 a).run Sq.prog w = .ok (.enter 91 a) w := call_known Sq.func91 rfl (by kernel_rfl) a w
theorem Sq.ok92 : okFn Tryz.prog.toTables Tryz.f92 = true := by kernel_rfl
@[simp] theorem Sq.func92 : Sq.prog.funcs[92]? = some Tryz.f92 := Sq.at_ Tryz.func92 (by decide) Sq.ok92
abbrev Sq.ntmps92 := @Tryz.ntmps92
@[simp] theorem Sq.call92 (a : Array Value) (w : World) : (callFunc 92 a).run Sq.prog w = .ok (.enter 92 a) w := call_known Sq.func92 rfl (by kernel_rfl) a w
theorem Sq.ok93 : okFn Tryz.prog.toTables Tryz.f93 = true := by kernel_rfl
@[simp] theorem Sq.func93 : Sq.prog.funcs[93]? = some Tryz.f93 := Sq.at_ Tryz.func93 (by decide) Sq.ok93
abbrev Sq.ntmps93 := @Tryz.ntmps93
@[simp] theorem Sq.call93 (a : Array Value) (w : World) : (callFunc 93 a).run Sq.prog w = .ok (.enter 93 a) w := call_known Sq.func93 rfl (by kernel_rfl) a w
theorem Sq.ok94 : okFn Tryz.prog.toTables Tryz.f94 = true := by kernel_rfl
@[simp] theorem Sq.func94 : Sq.prog.funcs[94]? = some Tryz.f94 := Sq.at_ Tryz.func94 (by decide) Sq.ok94
abbrev Sq.ntmps94 := @Tryz.ntmps94
@[simp] theorem Sq.call94 (a : Array Value) (w : World) : (callFunc 94 a).run Sq.prog w = .ok (.enter 94 a) w := call_known Sq.func94 rfl (by kernel_rfl) a w
theorem Sq.ok95 : okFn Tryz.prog.toTables Tryz.f95 = true := by kernel_rfl
@[simp] theorem Sq.func95 : Sq.prog.funcs[95]? = some Tryz.f95 := Sq.at_ Tryz.func95 (by decide) Sq.ok95
abbrev Sq.ntmps95 := @Tryz.ntmps95
@[simp] theorem Sq.call95 (a : Array Value) (w : World) : (callFunc 95 a).run Sq.prog w = .ok (.enter 95 a) w := call_known Sq.func95 rfl (by kernel_rfl) a w
theorem Sq.ok96 : okFn Tryz.prog.toTables Tryz.f96 = true := by kernel_rfl
@[simp] theorem Sq.func96 : Sq.prog.funcs[96]? = some Tryz.f96 := Sq.at_ Tryz.func96 (by decide) Sq.ok96
abbrev Sq.ntmps96 := @Tryz.ntmps96
@[simp] theorem Sq.call96 (a : Array Value) (w : World) : (callFunc 96 a).run Sq.prog w = .ok (.enter 96 a) w := call_known Sq.func96 rfl (by kernel_rfl) a w
theorem Sq.ok97 : okFn Tryz.prog.toTables Tryz.f97 = true := by kernel_rfl
@[simp] theorem Sq.func97 : Sq.prog.funcs[97]? = some Tryz.f97 := Sq.at_ Tryz.func97 (by decide) Sq.ok97
abbrev Sq.ntmps97 := @Tryz.ntmps97
@[simp] theorem Sq.call97 (a : Array Value) (w : World) : (callFunc 97 a).run Sq.prog w = .ok (.enter 97 a) w := call_known Sq.func97 rfl (by kernel_rfl) a w
theorem Sq.ok98 : okFn Tryz.prog.toTables Tryz.f98 = true := by kernel_rfl
@[simp] theorem Sq.func98 : Sq.prog.funcs[98]? = some Tryz.f98 := Sq.at_ Tryz.func98 (by decide) Sq.ok98
abbrev Sq.ntmps98 := @Tryz.ntmps98
@[simp] theorem Sq.call98 (a : Array Value) (w : World) : (callFunc 98 a).run Sq.prog w = .ok (.enter 98 a) w := call_known Sq.func98 rfl (by kernel_rfl) a w
theorem Sq.ok99 : okFn Tryz.prog.toTables Tryz.f99 = true := by kernel_rfl
@[simp] theorem Sq.func99 : Sq.prog.funcs[99]? = some Tryz.f99 := Sq.at_ Tryz.func99 (by decide) Sq.ok99
abbrev Sq.ntmps99 := @Tryz.ntmps99
@[simp] theorem Sq.call99 (a : Array Value) (w : World) : (callFunc 99 a).run Sq.prog w = .ok (.enter 99 a) w := call_known Sq.func99 rfl (by kernel_rfl) a w
theorem Sq.ok100 : okFn Tryz.prog.toTables Tryz.f100 = true := by kernel_rfl
@[simp] theorem Sq.func100 : Sq.prog.funcs[100]? = some Tryz.f100 := Sq.at_ Tryz.func100 (by decide) Sq.ok100
abbrev Sq.ntmps100 := @Tryz.ntmps100
@[simp] theorem Sq.call100 (a : Array Value) (w : World) : (callFunc 100 a).run Sq.prog w = .ok (.enter 100 a) w := call_known Sq.func100 rfl (by kernel_rfl) a w
theorem Sq.ok101 : okFn Tryz.prog.toTables Tryz.f101 = true := by kernel_rfl
@[simp] theorem Sq.func101 : Sq.prog.funcs[101]? = some Tryz.f101 := Sq.at_ Tryz.func101 (by decide) Sq.ok101
abbrev Sq.ntmps101 := @Tryz.ntmps101
@[simp] theorem Sq.call101 (a : Array Value) (w : World) : (callFunc 101 a).run Sq.prog w = .ok (.enter 101 a) w := call_known Sq.func101 rfl (by kernel_rfl) a w
theorem Sq.ok102 : okFn Tryz.prog.toTables Tryz.f102 = true := by kernel_rfl
@[simp] theorem Sq.func102 : Sq.prog.funcs[102]? = some Tryz.f102 := Sq.at_ Tryz.func102 (by decide) Sq.ok102
abbrev Sq.ntmps102 := @Tryz.ntmps102
@[simp] theorem Sq.call102 (a : Array Value) (w : World) : (callFunc 102 a).run Sq.prog w = .ok (.enter 102 a) w := call_known Sq.func102 rfl (by kernel_rfl) a w
theorem Sq.ok103 : okFn Tryz.prog.toTables Tryz.f103 = true := by kernel_rfl
@[simp] theorem Sq.func103 : Sq.prog.funcs[103]? = some Tryz.f103 := Sq.at_ Tryz.func103 (by decide) Sq.ok103
abbrev Sq.ntmps103 := @Tryz.ntmps103
@[simp] theorem Sq.call103 (a : Array Value) (w : World) : (callFunc 103 a).run Sq.prog w = .ok (.enter 103 a) w := call_known Sq.func103 rfl (by kernel_rfl) a w
theorem Sq.ok104 : okFn Tryz.prog.toTables Tryz.f104 = true := by kernel_rfl
@[simp] theorem Sq.func104 : Sq.prog.funcs[104]? = some Tryz.f104 := Sq.at_ Tryz.func104 (by decide) Sq.ok104
abbrev Sq.ntmps104 := @Tryz.ntmps104
@[simp] theorem Sq.call104 (a : Array Value) (w : World) : (callFunc 104 a).run Sq.prog w = .ok (.enter 104 a) w := call_known Sq.func104 rfl (by kernel_rfl) a w
theorem Sq.ok105 : okFn Tryz.prog.toTables Tryz.f105 = true := by kernel_rfl
@[simp] theorem Sq.func105 : Sq.prog.funcs[105]? = some Tryz.f105 := Sq.at_ Tryz.func105 (by decide) Sq.ok105
abbrev Sq.ntmps105 := @Tryz.ntmps105
@[simp] theorem Sq.call105 (a : Array Value) (w : World) : (callFunc 105 a).run Sq.prog w = .ok (.enter 105 a) w := call_known Sq.func105 rfl (by kernel_rfl) a w
theorem Sq.ok106 : okFn Tryz.prog.toTables Tryz.f106 = true := by kernel_rfl
@[simp] theorem Sq.func106 : Sq.prog.funcs[106]? = some Tryz.f106 := Sq.at_ Tryz.func106 (by decide) Sq.ok106
abbrev Sq.ntmps106 := @Tryz.ntmps106
@[simp] theorem Sq.call106 (a : Array Value) (w : World) : (callFunc 106 a).run Sq.prog w = .ok (.enter 106 a) w := call_known Sq.func106 rfl (by kernel_rfl) a w
theorem Sq.ok107 : okFn Tryz.prog.toTables Tryz.f107 = true := by kernel_rfl
@[simp] theorem Sq.func107 : Sq.prog.funcs[107]? = some Tryz.f107 := Sq.at_ Tryz.func107 (by decide) Sq.ok107
abbrev Sq.ntmps107 := @Tryz.ntmps107
@[simp] theorem Sq.call107 (a : Array Value) (w : World) : (callFunc 107 a).run Sq.prog w = .ok (.enter 107 a) w := call_known Sq.func107 rfl (by kernel_rfl) a w
theorem Sq.ok108 : okFn Tryz.prog.toTables Tryz.f108 = true := by kernel_rfl
@[simp] theorem Sq.func108 : Sq.prog.funcs[108]? = some Tryz.f108 := Sq.at_ Tryz.func108 (by decide) Sq.ok108
abbrev Sq.ntmps108 := @Tryz.ntmps108
@[simp] theorem Sq.call108 (a : Array Value) (w : World) : (callFunc 108 a).run Sq.prog w = .ok (.enter 108 a) w := call_known Sq.func108 rfl (by kernel_rfl) a w
theorem Sq.ok109 : okFn Tryz.prog.toTables Tryz.f109 = true := by kernel_rfl
@[simp] theorem Sq.func109 : Sq.prog.funcs[109]? = some Tryz.f109 := Sq.at_ Tryz.func109 (by decide) Sq.ok109
abbrev Sq.ntmps109 := @Tryz.ntmps109
@[simp] theorem Sq.call109 (a : Array Value) (w : World) : (callFunc 109 a).run Sq.prog w = .ok (.enter 109 a) w := call_known Sq.func109 rfl (by kernel_rfl) a w
theorem Sq.ok110 : okFn Tryz.prog.toTables Tryz.f110 = true := by kernel_rfl
@[simp] theorem Sq.func110 : Sq.prog.funcs[110]? = some Tryz.f110 := Sq.at_ Tryz.func110 (by decide) Sq.ok110
abbrev Sq.ntmps110 := @Tryz.ntmps110
@[simp] theorem Sq.call110 (a : Array Value) (w : World) : (callFunc 110 a).run Sq.prog w = .ok (.enter 110 a) w := call_known Sq.func110 rfl (by kernel_rfl) a w
theorem Sq.ok111 : okFn Tryz.prog.toTables Tryz.f111 = true := by kernel_rfl
@[simp] theorem Sq.func111 : Sq.prog.funcs[111]? = some Tryz.f111 := Sq.at_ Tryz.func111 (by decide) Sq.ok111
abbrev Sq.ntmps111 := @Tryz.ntmps111
@[simp] theorem Sq.call111 (a : Array Value) (w : World) : (callFunc 111 a).run Sq.prog w = .ok (.enter 111 a) w := call_known Sq.func111 rfl (by kernel_rfl) a w
theorem Sq.ok112 : okFn Tryz.prog.toTables Tryz.f112 = true := by kernel_rfl
@[simp] theorem Sq.func112 : Sq.prog.funcs[112]? = some Tryz.f112 := Sq.at_ Tryz.func112 (by decide) Sq.ok112
abbrev Sq.ntmps112 := @Tryz.ntmps112
@[simp] theorem Sq.call112 (a : Array Value) (w : World) : (callFunc 112 a).run Sq.prog w = .ok (.enter 112 a) w := call_known Sq.func112 rfl (by kernel_rfl) a w
theorem Sq.ok113 : okFn Tryz.prog.toTables Tryz.f113 = true := by kernel_rfl
@[simp] theorem Sq.func113 : Sq.prog.funcs[113]? = some Tryz.f113 := Sq.at_ Tryz.func113 (by decide) Sq.ok113
abbrev Sq.ntmps113 := @Tryz.ntmps113
@[simp] theorem Sq.call113 (a : Array Value) (w : World) : (callFunc 113 a).run Sq.prog w = .ok (.enter 113 a) w := call_known Sq.func113 rfl (by kernel_rfl) a w
theorem Sq.ok120 : okFn Tryz.prog.toTables Tryz.f120 = true := by kernel_rfl
@[simp] theorem Sq.func120 : Sq.prog.funcs[120]? = some Tryz.f120 := Sq.at_ Tryz.func120 (by decide) Sq.ok120
abbrev Sq.ntmps120 := @Tryz.ntmps120
@[simp] theorem Sq.call120 (a : Array Value) (w : World) : (callFunc 120 a).run Sq.prog w = .ok (.enter 120 a) w := call_known Sq.func120 rfl (by kernel_rfl) a w
theorem Sq.ok121 : okFn Tryz.prog.toTables Tryz.f121 = true := by kernel_rfl
@[simp] theorem Sq.func121 : Sq.prog.funcs[121]? = some Tryz.f121 := Sq.at_ Tryz.func121 (by decide) Sq.ok121
abbrev Sq.ntmps121 := @Tryz.ntmps121
@[simp] theorem Sq.call121 (a : Array Value) (w : World) : (callFunc 121 a).run Sq.prog w = .ok (.enter 121 a) w := call_known Sq.func121 rfl (by kernel_rfl) a w
theorem Sq.ok123 : okFn Tryz.prog.toTables Tryz.f123 = true := by kernel_rfl
@[simp] theorem Sq.func123 : Sq.prog.funcs[123]? = some Tryz.f123 := Sq.at_ Tryz.func123 (by decide) Sq.ok123
abbrev Sq.ntmps123 := @Tryz.ntmps123
@[simp] theorem Sq.call123 (a : Array Value) (w : World) : (callFunc 123 a).run Sq.prog w = .ok (.enter 123 a) w := call_known Sq.func123 rfl (by kernel_rfl) a w
theorem Sq.ok124 : okFn Tryz.prog.toTables Tryz.f124 = true := by kernel_rfl
@[simp] theorem Sq.func124 : Sq.prog.funcs[124]? = some Tryz.f124 := Sq.at_ Tryz.func124 (by decide) Sq.ok124
abbrev Sq.ntmps124 := @Tryz.ntmps124
@[simp] theorem Sq.call124 (a : Array Value) (w : World) : (callFunc 124 a).run Sq.prog w = .ok (.enter 124 a) w := call_known Sq.func124 rfl (by kernel_rfl) a w
theorem Sq.ok129 : okFn Tryz.prog.toTables Tryz.f129 = true := by kernel_rfl
@[simp] theorem Sq.func129 : Sq.prog.funcs[129]? = some Tryz.f129 := Sq.at_ Tryz.func129 (by decide) Sq.ok129
abbrev Sq.ntmps129 := @Tryz.ntmps129
@[simp] theorem Sq.call129 (a : Array Value) (w : World) : (callFunc 129 a).run Sq.prog w = .ok (.enter 129 a) w := call_known Sq.func129 rfl (by kernel_rfl) a w
theorem Sq.ok132 : okFn Tryz.prog.toTables Tryz.f132 = true := by kernel_rfl
@[simp] theorem Sq.func132 : Sq.prog.funcs[132]? = some Tryz.f132 := Sq.at_ Tryz.func132 (by decide) Sq.ok132
abbrev Sq.ntmps132 := @Tryz.ntmps132
@[simp] theorem Sq.call132 (a : Array Value) (w : World) : (callFunc 132 a).run Sq.prog w = .ok (.enter 132 a) w := call_known Sq.func132 rfl (by kernel_rfl) a w
theorem Sq.ok133 : okFn Tryz.prog.toTables Tryz.f133 = true := by kernel_rfl
@[simp] theorem Sq.func133 : Sq.prog.funcs[133]? = some Tryz.f133 := Sq.at_ Tryz.func133 (by decide) Sq.ok133
abbrev Sq.ntmps133 := @Tryz.ntmps133
@[simp] theorem Sq.call133 (a : Array Value) (w : World) : (callFunc 133 a).run Sq.prog w = .ok (.enter 133 a) w := call_known Sq.func133 rfl (by kernel_rfl) a w
theorem Sq.ok134 : okFn Tryz.prog.toTables Tryz.f134 = true := by kernel_rfl
@[simp] theorem Sq.func134 : Sq.prog.funcs[134]? = some Tryz.f134 := Sq.at_ Tryz.func134 (by decide) Sq.ok134
abbrev Sq.ntmps134 := @Tryz.ntmps134
@[simp] theorem Sq.call134 (a : Array Value) (w : World) : (callFunc 134 a).run Sq.prog w = .ok (.enter 134 a) w := call_known Sq.func134 rfl (by kernel_rfl) a w
theorem Sq.ok135 : okFn Tryz.prog.toTables Tryz.f135 = true := by kernel_rfl
@[simp] theorem Sq.func135 : Sq.prog.funcs[135]? = some Tryz.f135 := Sq.at_ Tryz.func135 (by decide) Sq.ok135
abbrev Sq.ntmps135 := @Tryz.ntmps135
@[simp] theorem Sq.call135 (a : Array Value) (w : World) : (callFunc 135 a).run Sq.prog w = .ok (.enter 135 a) w := call_known Sq.func135 rfl (by kernel_rfl) a w
theorem Sq.ok136 : okFn Tryz.prog.toTables Tryz.f136 = true := by kernel_rfl
@[simp] theorem Sq.func136 : Sq.prog.funcs[136]? = some Tryz.f136 := Sq.at_ Tryz.func136 (by decide) Sq.ok136
abbrev Sq.ntmps136 := @Tryz.ntmps136
@[simp] theorem Sq.call136 (a : Array Value) (w : World) : (callFunc 136 a).run Sq.prog w = .ok (.enter 136 a) w := call_known Sq.func136 rfl (by kernel_rfl) a w
theorem Sq.ok137 : okFn Tryz.prog.toTables Tryz.f137 = true := by kernel_rfl
@[simp] theorem Sq.func137 : Sq.prog.funcs[137]? = some Tryz.f137 := Sq.at_ Tryz.func137 (by decide) Sq.ok137
abbrev Sq.ntmps137 := @Tryz.ntmps137
@[simp] theorem Sq.call137 (a : Array Value) (w : World) : (callFunc 137 a).run Sq.prog w = .ok (.enter 137 a) w := call_known Sq.func137 rfl (by kernel_rfl) a w
theorem Sq.ok138 : okFn Tryz.prog.toTables Tryz.f138 = true := by kernel_rfl
@[simp] theorem Sq.func138 : Sq.prog.funcs[138]? = some Tryz.f138 := Sq.at_ Tryz.func138 (by decide) Sq.ok138
abbrev Sq.ntmps138 := @Tryz.ntmps138
@[simp] theorem Sq.call138 (a : Array Value) (w : World) : (callFunc 138 a).run Sq.prog w = .ok (.enter 138 a) w := call_known Sq.func138 rfl (by kernel_rfl) a w
theorem Sq.ok139 : okFn Tryz.prog.toTables Tryz.f139 = true := by kernel_rfl
@[simp] theorem Sq.func139 : Sq.prog.funcs[139]? = some Tryz.f139 := Sq.at_ Tryz.func139 (by decide) Sq.ok139
abbrev Sq.ntmps139 := @Tryz.ntmps139
@[simp] theorem Sq.call139 (a : Array Value) (w : World) : (callFunc 139 a).run Sq.prog w = .ok (.enter 139 a) w := call_known Sq.func139 rfl (by kernel_rfl) a w
theorem Sq.ok140 : okFn Tryz.prog.toTables Tryz.f140 = true := by kernel_rfl
@[simp] theorem Sq.func140 : Sq.prog.funcs[140]? = some Tryz.f140 := Sq.at_ Tryz.func140 (by decide) Sq.ok140
abbrev Sq.ntmps140 := @Tryz.ntmps140
@[simp] theorem Sq.call140 (a : Array Value) (w : World) : (callFunc 140 a).run Sq.prog w = .ok (.enter 140 a) w := call_known Sq.func140 rfl (by kernel_rfl) a w
theorem Sq.ok141 : okFn Tryz.prog.toTables Tryz.f141 = true := by kernel_rfl
@[simp] theorem Sq.func141 : Sq.prog.funcs[141]? = some Tryz.f141 := Sq.at_ Tryz.func141 (by decide) Sq.ok141
abbrev Sq.ntmps141 := @Tryz.ntmps141
@[simp] theorem Sq.call141 (a : Array Value) (w : World) : (callFunc 141 a).run Sq.prog w = .ok (.enter 141 a) w := call_known Sq.func141 rfl (by kernel_rfl) a w
theorem Sq.ok142 : okFn Tryz.prog.toTables Tryz.f142 = true := by kernel_rfl
@[simp] theorem Sq.func142 : Sq.prog.funcs[142]? = some Tryz.f142 := Sq.at_ Tryz.func142 (by decide) Sq.ok142
abbrev Sq.ntmps142 := @Tryz.ntmps142
@[simp] theorem Sq.call142 (a : Array Value) (w : World) : (callFunc 142 a).run Sq.prog w = .ok (.enter 142 a) w := call_known Sq.func142 rfl (by kernel_rfl) a w
theorem Sq.ok143 : okFn Tryz.prog.toTables Tryz.f143 = true := by kernel_rfl
@[simp] theorem Sq.func143 : Sq.prog.funcs[143]? = some Tryz.f143 := Sq.at_ Tryz.func143 (by decide) Sq.ok143
abbrev Sq.ntmps143 := @Tryz.ntmps143
@[simp] theorem Sq.call143 (a : Array Value) (w : World) : (callFunc 143 a).run Sq.prog w = .ok (.enter 143 a) w := call_known Sq.func143 rfl (by kernel_rfl) a w
theorem Sq.ok144 : okFn Tryz.prog.toTables Tryz.f144 = true := by kernel_rfl
@[simp] theorem Sq.func144 : Sq.prog.funcs[144]? = some Tryz.f144 := Sq.at_ Tryz.func144 (by decide) Sq.ok144
abbrev Sq.ntmps144 := @Tryz.ntmps144
@[simp] theorem Sq.call144 (a : Array Value) (w : World) : (callFunc 144 a).run Sq.prog w = .ok (.enter 144 a) w := call_known Sq.func144 rfl (by kernel_rfl) a w
theorem Sq.ok145 : okFn Tryz.prog.toTables Tryz.f145 = true := by kernel_rfl
@[simp] theorem Sq.func145 : Sq.prog.funcs[145]? = some Tryz.f145 := Sq.at_ Tryz.func145 (by decide) Sq.ok145
abbrev Sq.ntmps145 := @Tryz.ntmps145
@[simp] theorem Sq.call145 (a : Array Value) (w : World) : (callFunc 145 a).run Sq.prog w = .ok (.enter 145 a) w := call_known Sq.func145 rfl (by kernel_rfl) a w
theorem Sq.ok146 : okFn Tryz.prog.toTables Tryz.f146 = true := by kernel_rfl
@[simp] theorem Sq.func146 : Sq.prog.funcs[146]? = some Tryz.f146 := Sq.at_ Tryz.func146 (by decide) Sq.ok146
abbrev Sq.ntmps146 := @Tryz.ntmps146
@[simp] theorem Sq.call146 (a : Array Value) (w : World) : (callFunc 146 a).run Sq.prog w = .ok (.enter 146 a) w := call_known Sq.func146 rfl (by kernel_rfl) a w
theorem Sq.ok147 : okFn Tryz.prog.toTables Tryz.f147 = true := by kernel_rfl
@[simp] theorem Sq.func147 : Sq.prog.funcs[147]? = some Tryz.f147 := Sq.at_ Tryz.func147 (by decide) Sq.ok147
abbrev Sq.ntmps147 := @Tryz.ntmps147
@[simp] theorem Sq.call147 (a : Array Value) (w : World) : (callFunc 147 a).run Sq.prog w = .ok (.enter 147 a) w := call_known Sq.func147 rfl (by kernel_rfl) a w
theorem Sq.ok148 : okFn Tryz.prog.toTables Tryz.f148 = true := by kernel_rfl
@[simp] theorem Sq.func148 : Sq.prog.funcs[148]? = some Tryz.f148 := Sq.at_ Tryz.func148 (by decide) Sq.ok148
abbrev Sq.ntmps148 := @Tryz.ntmps148
@[simp] theorem Sq.call148 (a : Array Value) (w : World) : (callFunc 148 a).run Sq.prog w = .ok (.enter 148 a) w := call_known Sq.func148 rfl (by kernel_rfl) a w
theorem Sq.ok149 : okFn Tryz.prog.toTables Tryz.f149 = true := by kernel_rfl
@[simp] theorem Sq.func149 : Sq.prog.funcs[149]? = some Tryz.f149 := Sq.at_ Tryz.func149 (by decide) Sq.ok149
abbrev Sq.ntmps149 := @Tryz.ntmps149
@[simp] theorem Sq.call149 (a : Array Value) (w : World) : (callFunc 149 a).run Sq.prog w = .ok (.enter 149 a) w := call_known Sq.func149 rfl (by kernel_rfl) a w
theorem Sq.ok150 : okFn Tryz.prog.toTables Tryz.f150 = true := by kernel_rfl
@[simp] theorem Sq.func150 : Sq.prog.funcs[150]? = some Tryz.f150 := Sq.at_ Tryz.func150 (by decide) Sq.ok150
abbrev Sq.ntmps150 := @Tryz.ntmps150
@[simp] theorem Sq.call150 (a : Array Value) (w : World) : (callFunc 150 a).run Sq.prog w = .ok (.enter 150 a) w := call_known Sq.func150 rfl (by kernel_rfl) a w
theorem Sq.ok156 : okFn Tryz.prog.toTables Tryz.f156 = true := by kernel_rfl
@[simp] theorem Sq.func156 : Sq.prog.funcs[156]? = some Tryz.f156 := Sq.at_ Tryz.func156 (by decide) Sq.ok156
abbrev Sq.ntmps156 := @Tryz.ntmps156
@[simp] theorem Sq.call156 (a : Array Value) (w : World) : (callFunc 156 a).run Sq.prog w = .ok (.enter 156 a) w := call_known Sq.func156 rfl (by kernel_rfl) a w
theorem Sq.ok157 : okFn Tryz.prog.toTables Tryz.f157 = true := by kernel_rfl
@[simp] theorem Sq.func157 : Sq.prog.funcs[157]? = some Tryz.f157 := Sq.at_ Tryz.func157 (by decide) Sq.ok157
abbrev Sq.ntmps157 := @Tryz.ntmps157
@[simp] theorem Sq.call157 (a : Array Value) (w : World) : (callFunc 157 a).run Sq.prog w = .ok (.enter 157 a) w := call_known Sq.func157 rfl (by kernel_rfl) a w
theorem Sq.ok158 : okFn Tryz.prog.toTables Tryz.f158 = true := by kernel_rfl
@[simp] theorem Sq.func158 : Sq.prog.funcs[158]? = some Tryz.f158 := Sq.at_ Tryz.func158 (by decide) Sq.ok158
abbrev Sq.ntmps158 := @Tryz.ntmps158
@[simp] theorem Sq.call158 (a : Array Value) (w : World) : (callFunc 158 a).run Sq.prog w = .ok (.enter 158 a) w := call_known Sq.func158 rfl (by kernel_rfl) a w
theorem Sq.ok159 : okFn Tryz.prog.toTables Tryz.f159 = true := by kernel_rfl
@[simp] theorem Sq.func159 : Sq.prog.funcs[159]? = some Tryz.f159 := Sq.at_ Tryz.func159 (by decide) Sq.ok159
abbrev Sq.ntmps159 := @Tryz.ntmps159
@[simp] theorem Sq.call159 (a : Array Value) (w : World) : (callFunc 159 a).run Sq.prog w = .ok (.enter 159 a) w := call_known Sq.func159 rfl (by kernel_rfl) a w
theorem Sq.ok160 : okFn Tryz.prog.toTables Tryz.f160 = true := by kernel_rfl
@[simp] theorem Sq.func160 : Sq.prog.funcs[160]? = some Tryz.f160 := Sq.at_ Tryz.func160 (by decide) Sq.ok160
abbrev Sq.ntmps160 := @Tryz.ntmps160
@[simp] theorem Sq.call160 (a : Array Value) (w : World) : (callFunc 160 a).run Sq.prog w = .ok (.enter 160 a) w := call_known Sq.func160 rfl (by kernel_rfl) a w
theorem Sq.ok161 : okFn Tryz.prog.toTables Tryz.f161 = true := by kernel_rfl
@[simp] theorem Sq.func161 : Sq.prog.funcs[161]? = some Tryz.f161 := Sq.at_ Tryz.func161 (by decide) Sq.ok161
abbrev Sq.ntmps161 := @Tryz.ntmps161
@[simp] theorem Sq.call161 (a : Array Value) (w : World) : (callFunc 161 a).run Sq.prog w = .ok (.enter 161 a) w := call_known Sq.func161 rfl (by kernel_rfl) a w
theorem Sq.ok162 : okFn Tryz.prog.toTables Tryz.f162 = true := by kernel_rfl
@[simp] theorem Sq.func162 : Sq.prog.funcs[162]? = some Tryz.f162 := Sq.at_ Tryz.func162 (by decide) Sq.ok162
abbrev Sq.ntmps162 := @Tryz.ntmps162
@[simp] theorem Sq.call162 (a : Array Value) (w : World) : (callFunc 162 a).run Sq.prog w = .ok (.enter 162 a) w := call_known Sq.func162 rfl (by kernel_rfl) a w
theorem Sq.ok163 : okFn Tryz.prog.toTables Tryz.f163 = true := by kernel_rfl
@[simp] theorem Sq.func163 : Sq.prog.funcs[163]? = some Tryz.f163 := Sq.at_ Tryz.func163 (by decide) Sq.ok163
abbrev Sq.ntmps163 := @Tryz.ntmps163
@[simp] theorem Sq.call163 (a : Array Value) (w : World) : (callFunc 163 a).run Sq.prog w = .ok (.enter 163 a) w := call_known Sq.func163 rfl (by kernel_rfl) a w
theorem Sq.ok164 : okFn Tryz.prog.toTables Tryz.f164 = true := by kernel_rfl
@[simp] theorem Sq.func164 : Sq.prog.funcs[164]? = some Tryz.f164 := Sq.at_ Tryz.func164 (by decide) Sq.ok164
abbrev Sq.ntmps164 := @Tryz.ntmps164
@[simp] theorem Sq.call164 (a : Array Value) (w : World) : (callFunc 164 a).run Sq.prog w = .ok (.enter 164 a) w := call_known Sq.func164 rfl (by kernel_rfl) a w
theorem Sq.ok165 : okFn Tryz.prog.toTables Tryz.f165 = true := by kernel_rfl
@[simp] theorem Sq.func165 : Sq.prog.funcs[165]? = some Tryz.f165 := Sq.at_ Tryz.func165 (by decide) Sq.ok165
abbrev Sq.ntmps165 := @Tryz.ntmps165
@[simp] theorem Sq.call165 (a : Array Value) (w : World) : (callFunc 165 a).run Sq.prog w = .ok (.enter 165 a) w := call_known Sq.func165 rfl (by kernel_rfl) a w
theorem Sq.ok166 : okFn Tryz.prog.toTables Tryz.f166 = true := by kernel_rfl
@[simp] theorem Sq.func166 : Sq.prog.funcs[166]? = some Tryz.f166 := Sq.at_ Tryz.func166 (by decide) Sq.ok166
abbrev Sq.ntmps166 := @Tryz.ntmps166
@[simp] theorem Sq.call166 (a : Array Value) (w : World) : (callFunc 166 a).run Sq.prog w = .ok (.enter 166 a) w := call_known Sq.func166 rfl (by kernel_rfl) a w
theorem Sq.ok167 : okFn Tryz.prog.toTables Tryz.f167 = true := by kernel_rfl
@[simp] theorem Sq.func167 : Sq.prog.funcs[167]? = some Tryz.f167 := Sq.at_ Tryz.func167 (by decide) Sq.ok167
abbrev Sq.ntmps167 := @Tryz.ntmps167
@[simp] theorem Sq.call167 (a : Array Value) (w : World) : (callFunc 167 a).run Sq.prog w = .ok (.enter 167 a) w := call_known Sq.func167 rfl (by kernel_rfl) a w
theorem Sq.ok168 : okFn Tryz.prog.toTables Tryz.f168 = true := by kernel_rfl
@[simp] theorem Sq.func168 : Sq.prog.funcs[168]? = some Tryz.f168 := Sq.at_ Tryz.func168 (by decide) Sq.ok168
abbrev Sq.ntmps168 := @Tryz.ntmps168
@[simp] theorem Sq.call168 (a : Array Value) (w : World) : (callFunc 168 a).run Sq.prog w = .ok (.enter 168 a) w := call_known Sq.func168 rfl (by kernel_rfl) a w
theorem Sq.ok169 : okFn Tryz.prog.toTables Tryz.f169 = true := by kernel_rfl
@[simp] theorem Sq.func169 : Sq.prog.funcs[169]? = some Tryz.f169 := Sq.at_ Tryz.func169 (by decide) Sq.ok169
abbrev Sq.ntmps169 := @Tryz.ntmps169
@[simp] theorem Sq.call169 (a : Array Value) (w : World) : (callFunc 169 a).run Sq.prog w = .ok (.enter 169 a) w := call_known Sq.func169 rfl (by kernel_rfl) a w
theorem Sq.ok170 : okFn Tryz.prog.toTables Tryz.f170 = true := by kernel_rfl
@[simp] theorem Sq.func170 : Sq.prog.funcs[170]? = some Tryz.f170 := Sq.at_ Tryz.func170 (by decide) Sq.ok170
abbrev Sq.ntmps170 := @Tryz.ntmps170
@[simp] theorem Sq.call170 (a : Array Value) (w : World) : (callFunc 170 a).run Sq.prog w = .ok (.enter 170 a) w := call_known Sq.func170 rfl (by kernel_rfl) a w
theorem Sq.ok171 : okFn Tryz.prog.toTables Tryz.f171 = true := by kernel_rfl
@[simp] theorem Sq.func171 : Sq.prog.funcs[171]? = some Tryz.f171 := Sq.at_ Tryz.func171 (by decide) Sq.ok171
abbrev Sq.ntmps171 := @Tryz.ntmps171
@[simp] theorem Sq.call171 (a : Array Value) (w : World) : (callFunc 171 a).run Sq.prog w = .ok (.enter 171 a) w := call_known Sq.func171 rfl (by kernel_rfl) a w
theorem Sq.ok172 : okFn Tryz.prog.toTables Tryz.f172 = true := by kernel_rfl
@[simp] theorem Sq.func172 : Sq.prog.funcs[172]? = some Tryz.f172 := Sq.at_ Tryz.func172 (by decide) Sq.ok172
abbrev Sq.ntmps172 := @Tryz.ntmps172
@[simp] theorem Sq.call172 (a : Array Value) (w : World) : (callFunc 172 a).run Sq.prog w = .ok (.enter 172 a) w := call_known Sq.func172 rfl (by kernel_rfl) a w
theorem Sq.ok173 : okFn Tryz.prog.toTables Tryz.f173 = true := by kernel_rfl
@[simp] theorem Sq.func173 : Sq.prog.funcs[173]? = some Tryz.f173 := Sq.at_ Tryz.func173 (by decide) Sq.ok173
abbrev Sq.ntmps173 := @Tryz.ntmps173
@[simp] theorem Sq.call173 (a : Array Value) (w : World) : (callFunc 173 a).run Sq.prog w = .ok (.enter 173 a) w := call_known Sq.func173 rfl (by kernel_rfl) a w
theorem Sq.ok174 : okFn Tryz.prog.toTables Tryz.f174 = true := by kernel_rfl
@[simp] theorem Sq.func174 : Sq.prog.funcs[174]? = some Tryz.f174 := Sq.at_ Tryz.func174 (by decide) Sq.ok174
abbrev Sq.ntmps174 := @Tryz.ntmps174
@[simp] theorem Sq.call174 (a : Array Value) (w : World) : (callFunc 174 a).run Sq.prog w = .ok (.enter 174 a) w := call_known Sq.func174 rfl (by kernel_rfl) a w
theorem Sq.ok175 : okFn Tryz.prog.toTables Tryz.f175 = true := by kernel_rfl
@[simp] theorem Sq.func175 : Sq.prog.funcs[175]? = some Tryz.f175 := Sq.at_ Tryz.func175 (by decide) Sq.ok175
abbrev Sq.ntmps175 := @Tryz.ntmps175
@[simp] theorem Sq.call175 (a : Array Value) (w : World) : (callFunc 175 a).run Sq.prog w = .ok (.enter 175 a) w := call_known Sq.func175 rfl (by kernel_rfl) a w
theorem Sq.ok176 : okFn Tryz.prog.toTables Tryz.f176 = true := by kernel_rfl
@[simp] theorem Sq.func176 : Sq.prog.funcs[176]? = some Tryz.f176 := Sq.at_ Tryz.func176 (by decide) Sq.ok176
abbrev Sq.ntmps176 := @Tryz.ntmps176
@[simp] theorem Sq.call176 (a : Array Value) (w : World) : (callFunc 176 a).run Sq.prog w = .ok (.enter 176 a) w := call_known Sq.func176 rfl (by kernel_rfl) a w
theorem Sq.ok177 : okFn Tryz.prog.toTables Tryz.f177 = true := by kernel_rfl
@[simp] theorem Sq.func177 : Sq.prog.funcs[177]? = some Tryz.f177 := Sq.at_ Tryz.func177 (by decide) Sq.ok177
abbrev Sq.ntmps177 := @Tryz.ntmps177
@[simp] theorem Sq.call177 (a : Array Value) (w : World) : (callFunc 177 a).run Sq.prog w = .ok (.enter 177 a) w := call_known Sq.func177 rfl (by kernel_rfl) a w
theorem Sq.ok178 : okFn Tryz.prog.toTables Tryz.f178 = true := by kernel_rfl
@[simp] theorem Sq.func178 : Sq.prog.funcs[178]? = some Tryz.f178 := Sq.at_ Tryz.func178 (by decide) Sq.ok178
abbrev Sq.ntmps178 := @Tryz.ntmps178
@[simp] theorem Sq.call178 (a : Array Value) (w : World) : (callFunc 178 a).run Sq.prog w = .ok (.enter 178 a) w := call_known Sq.func178 rfl (by kernel_rfl) a w
theorem Sq.ok179 : okFn Tryz.prog.toTables Tryz.f179 = true := by kernel_rfl
@[simp] theorem Sq.func179 : Sq.prog.funcs[179]? = some Tryz.f179 := Sq.at_ Tryz.func179 (by decide) Sq.ok179
abbrev Sq.ntmps179 := @Tryz.ntmps179
@[simp] theorem Sq.call179 (a : Array Value) (w : World) : (callFunc 179 a).run Sq.prog w = .ok (.enter 179 a) w := call_known Sq.func179 rfl (by kernel_rfl) a w
theorem Sq.ok180 : okFn Tryz.prog.toTables Tryz.f180 = true := by kernel_rfl
@[simp] theorem Sq.func180 : Sq.prog.funcs[180]? = some Tryz.f180 := Sq.at_ Tryz.func180 (by decide) Sq.ok180
abbrev Sq.ntmps180 := @Tryz.ntmps180
@[simp] theorem Sq.call180 (a : Array Value) (w : World) : (callFunc 180 a).run Sq.prog w = .ok (.enter 180 a) w := call_known Sq.func180 rfl (by kernel_rfl) a w
theorem Sq.ok181 : okFn Tryz.prog.toTables Tryz.f181 = true := by kernel_rfl
@[simp] theorem Sq.func181 : Sq.prog.funcs[181]? = some Tryz.f181 := Sq.at_ Tryz.func181 (by decide) Sq.ok181
abbrev Sq.ntmps181 := @Tryz.ntmps181
@[simp] theorem Sq.call181 (a : Array Value) (w : World) : (callFunc 181 a).run Sq.prog w = .ok (.enter 181 a) w := call_known Sq.func181 rfl (by kernel_rfl) a w
theorem Sq.bodies : BodiesOK Tryz.prog.toTables Sq.G Sq.G.size := by rw [Sq.G_eq]; exact bodies_stand (by kernel_rfl) _
theorem Sq.bodies_d : BodiesOK Tryz.prog.toTables Sq.G 45 := by rw [Sq.G_eq]; exact bodies_stand (by kernel_rfl) _
theorem Sq.twin : Twin Tryz.prog.funcs Sq.G 45 := by rw [Sq.G_eq]; exact twin_stand Tryz.func45 (by kernel_rfl) (by kernel_rfl)
theorem Sq.self : Twin Sq.G Sq.G Sq.G.size := twin_self Sq.twin.bodies
theorem Sq.none_ : Sq.G[Sq.G.size]? = none := Array.getElem?_eq_none (Nat.le_refl _)
end Go.Proofs.YtlegilbiapbfkaaGreat
