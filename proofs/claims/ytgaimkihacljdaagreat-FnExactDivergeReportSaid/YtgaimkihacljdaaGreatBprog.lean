/- The stand-in program of this seat: the given one, its one function that starts goroutines replaced. Printed by gen_bprog.py. (Round C) -/
import Derived.Test.YtgaimkihacljdaaGreatChecked
import Derived.Test.YtgaimkihacljdaaGreatZSimC
namespace Go.Proofs.YtgaimkihacljdaaGreat
noncomputable def Sq.stub:Code:=QcE 30 81 115 3 4
@[irreducible] noncomputable def Sq.G:Array Func:=Tryz.prog.funcs.mapIdx (Qac Tryz.prog.toTables 45 Sq.stub)
noncomputable def Sq.prog:Program:=⟨Tryz.prog.toTables,Sq.G⟩
@[simp] theorem Sq.tables:Sq.prog.toTables=Tryz.prog.toTables:=rfl
theorem Sq.und{t:TypeId}{x:Option TypeDesc}(h:Tryz.prog.underlying t=x):Sq.prog.underlying t=x:=(Qbf Sq.tables t).trans h
@[simp] theorem Sq.und_ (t:TypeId):Sq.prog.underlying t=Tryz.prog.underlying t:=Qbf Sq.tables t
@[simp] theorem Sq.runTypeInfo (t:TypeId) (w:World):(typeInfo t).run Sq.prog w=(typeInfo t).run Tryz.prog w:=Qky Sq.tables t w
@[simp] theorem Sq.runSizeOf (t:TypeId) (w:World):(sizeOf t).run Sq.prog w=(sizeOf t).run Tryz.prog w:=QxM Sq.tables t w
@[simp] theorem Sq.runUnderlying (t:TypeId) (w:World):(underlying t).run Sq.prog w=(underlying t).run Tryz.prog w:=Qt2 Sq.tables t w
@[simp] theorem Sq.runIsAgg (t:TypeId) (w:World):(isAgg t).run Sq.prog w=(isAgg t).run Tryz.prog w:=QxL Sq.tables t w
@[simp] theorem Sq.runZeroValue (t:TypeId) (w:World):(zeroValue t).run Sq.prog w=(zeroValue t).run Tryz.prog w:=QxN Sq.tables t w
@[simp] theorem Sq.eqGuardType_ (t:TypeId):Sq.prog.eqGuardType Sq.prog.depth t=Tryz.prog.eqGuardType Tryz.prog.depth t:=Qxs Sq.tables t
@[simp] theorem Sq.stoodInHeld_ (t:TypeId):Sq.prog.stoodInHeld t=Tryz.prog.stoodInHeld t:=QxR Sq.tables t
theorem Sq.G_eq:Sq.G=Tryz.prog.funcs.mapIdx (Qac Tryz.prog.toTables 45 Sq.stub):=by unfold Sq.G;rfl
theorem Sq.at_{i:FuncId}{fn:Func}(h:Tryz.prog.funcs[i]? =some fn)(hi:i≠45)(hk:okFn Tryz.prog.toTables fn=true):Sq.prog.funcs[i]? =some fn:=by
 show Sq.G[i]? =_
 rw[Sq.G_eq]
 exact QxO h hi hk
noncomputable abbrev Sq.f45:Func:={ Tryz.f45 with body:=some Sq.stub,results:=#[.tmp 4],ntmps:=25}
@[simp] theorem Sq.func45:Sq.prog.funcs[45]? =some Sq.f45:=by
  show Sq.G[45]? =_
  rw[Sq.G_eq]
  exact QxP Tryz.func45
@[simp] theorem Sq.ntmps45:Sq.f45.ntmps=25:=rfl
@[simp] theorem Sq.results45:Sq.f45.results= #[.tmp 4]:=rfl
@[simp] theorem Sq.call45 (args:Array Value) (w:World):(callFunc 45 args).run Sq.prog w= .ok (.enter 45 args) w:=Qxr Sq.func45 rfl (by show(Tryz.f45.name == "runtime.NumGoroutine")=false;kernel_rfl) args w
theorem Sq.atE{i:FuncId}{fn:Func}(h:Tryz.prog.funcs[i]? =some fn)(hi:i≠45)(hk:Qdv fn=true):Sq.prog.funcs[i]? =some fn:=by
 show Sq.G[i]? =_
 rw[Sq.G_eq]
 exact QxQ h hi hk
abbrev Sq.C(n:FuncId):Prop:=∀(a:Array Value) (w:World),(callFunc n a).run Sq.prog w= .ok (.enter n a) w
theorem Sq.D{n:FuncId}{fn:Func}(h:Sq.prog.funcs[n]? =some fn)(hb:fn.body.isSome=true)(hn:(fn.name == "runtime.NumGoroutine")=false):Sq.C n:=Qxr h hb hn
@[simp] theorem Sq.func3:Sq.prog.funcs[3]? =some Tryz.f3:=Sq.at_ Tryz.func3 (by decide) (by kernel_rfl)
@[simp] theorem Sq.call3:Sq.C 3:=Sq.D Sq.func3 rfl (by kernel_rfl)
@[simp] theorem Sq.func4:Sq.prog.funcs[4]? =some Tryz.f4:=Sq.at_ Tryz.func4 (by decide) (by kernel_rfl)
abbrev Sq.ntmps4:= @Tryz.ntmps4
@[simp] theorem Sq.call4:Sq.C 4:=Sq.D Sq.func4 rfl (by kernel_rfl)
@[simp] theorem Sq.func5:Sq.prog.funcs[5]? =some Tryz.f5:=Sq.at_ Tryz.func5 (by decide) (by kernel_rfl)
abbrev Sq.ntmps5:= @Tryz.ntmps5
@[simp] theorem Sq.call5:Sq.C 5:=Sq.D Sq.func5 rfl (by kernel_rfl)
@[simp] theorem Sq.func6:Sq.prog.funcs[6]? =some Tryz.f6:=Sq.at_ Tryz.func6 (by decide) (by kernel_rfl)
abbrev Sq.ntmps6:= @Tryz.ntmps6
@[simp] theorem Sq.call6:Sq.C 6:=Sq.D Sq.func6 rfl (by kernel_rfl)
@[simp] theorem Sq.func7:Sq.prog.funcs[7]? =some Tryz.f7:=Sq.at_ Tryz.func7 (by decide) (by kernel_rfl)
abbrev Sq.ntmps7:= @Tryz.ntmps7
@[simp] theorem Sq.call7:Sq.C 7:=Sq.D Sq.func7 rfl (by kernel_rfl)
@[simp] theorem Sq.func8:Sq.prog.funcs[8]? =some Tryz.f8:=Sq.at_ Tryz.func8 (by decide) (by kernel_rfl)
abbrev Sq.ntmps8:= @Tryz.ntmps8
@[simp] theorem Sq.call8:Sq.C 8:=Sq.D Sq.func8 rfl (by kernel_rfl)
@[simp] theorem Sq.func9:Sq.prog.funcs[9]? =some Tryz.f9:=Sq.at_ Tryz.func9 (by decide) (by kernel_rfl)
abbrev Sq.ntmps9:= @Tryz.ntmps9
@[simp] theorem Sq.call9:Sq.C 9:=Sq.D Sq.func9 rfl (by kernel_rfl)
@[simp] theorem Sq.func10:Sq.prog.funcs[10]? =some Tryz.f10:=Sq.at_ Tryz.func10 (by decide) (by kernel_rfl)
abbrev Sq.ntmps10:= @Tryz.ntmps10
@[simp] theorem Sq.call10:Sq.C 10:=Sq.D Sq.func10 rfl (by kernel_rfl)
@[simp] theorem Sq.func11:Sq.prog.funcs[11]? =some Tryz.f11:=Sq.at_ Tryz.func11 (by decide) (by kernel_rfl)
abbrev Sq.ntmps11:= @Tryz.ntmps11
@[simp] theorem Sq.call11:Sq.C 11:=Sq.D Sq.func11 rfl (by kernel_rfl)
@[simp] theorem Sq.func12:Sq.prog.funcs[12]? =some Tryz.f12:=Sq.at_ Tryz.func12 (by decide) (by kernel_rfl)
abbrev Sq.ntmps12:= @Tryz.ntmps12
@[simp] theorem Sq.call12:Sq.C 12:=Sq.D Sq.func12 rfl (by kernel_rfl)
@[simp] theorem Sq.func13:Sq.prog.funcs[13]? =some Tryz.f13:=Sq.at_ Tryz.func13 (by decide) (by kernel_rfl)
abbrev Sq.ntmps13:= @Tryz.ntmps13
@[simp] theorem Sq.call13:Sq.C 13:=Sq.D Sq.func13 rfl (by kernel_rfl)
@[simp] theorem Sq.func14:Sq.prog.funcs[14]? =some Tryz.f14:=Sq.at_ Tryz.func14 (by decide) (by kernel_rfl)
abbrev Sq.ntmps14:= @Tryz.ntmps14
@[simp] theorem Sq.call14:Sq.C 14:=Sq.D Sq.func14 rfl (by kernel_rfl)
@[simp] theorem Sq.func15:Sq.prog.funcs[15]? =some Tryz.f15:=Sq.at_ Tryz.func15 (by decide) (by kernel_rfl)
abbrev Sq.ntmps15:= @Tryz.ntmps15
@[simp] theorem Sq.call15:Sq.C 15:=Sq.D Sq.func15 rfl (by kernel_rfl)
@[simp] theorem Sq.func16:Sq.prog.funcs[16]? =some Tryz.f16:=Sq.at_ Tryz.func16 (by decide) (by kernel_rfl)
abbrev Sq.ntmps16:= @Tryz.ntmps16
@[simp] theorem Sq.call16:Sq.C 16:=Sq.D Sq.func16 rfl (by kernel_rfl)
@[simp] theorem Sq.func17:Sq.prog.funcs[17]? =some Tryz.f17:=Sq.at_ Tryz.func17 (by decide) (by kernel_rfl)
abbrev Sq.ntmps17:= @Tryz.ntmps17
@[simp] theorem Sq.call17:Sq.C 17:=Sq.D Sq.func17 rfl (by kernel_rfl)
@[simp] theorem Sq.func18:Sq.prog.funcs[18]? =some Tryz.f18:=Sq.at_ Tryz.func18 (by decide) (by kernel_rfl)
abbrev Sq.ntmps18:= @Tryz.ntmps18
@[simp] theorem Sq.call18:Sq.C 18:=Sq.D Sq.func18 rfl (by kernel_rfl)
@[simp] theorem Sq.func19:Sq.prog.funcs[19]? =some Tryz.f19:=Sq.at_ Tryz.func19 (by decide) (by kernel_rfl)
abbrev Sq.ntmps19:= @Tryz.ntmps19
@[simp] theorem Sq.call19:Sq.C 19:=Sq.D Sq.func19 rfl (by kernel_rfl)
@[simp] theorem Sq.func20:Sq.prog.funcs[20]? =some Tryz.f20:=Sq.at_ Tryz.func20 (by decide) (by kernel_rfl)
abbrev Sq.ntmps20:= @Tryz.ntmps20
@[simp] theorem Sq.call20:Sq.C 20:=Sq.D Sq.func20 rfl (by kernel_rfl)
@[simp] theorem Sq.func21:Sq.prog.funcs[21]? =some Tryz.f21:=Sq.at_ Tryz.func21 (by decide) (by kernel_rfl)
abbrev Sq.ntmps21:= @Tryz.ntmps21
@[simp] theorem Sq.call21:Sq.C 21:=Sq.D Sq.func21 rfl (by kernel_rfl)
@[simp] theorem Sq.func22:Sq.prog.funcs[22]? =some Tryz.f22:=Sq.at_ Tryz.func22 (by decide) (by kernel_rfl)
abbrev Sq.ntmps22:= @Tryz.ntmps22
@[simp] theorem Sq.call22:Sq.C 22:=Sq.D Sq.func22 rfl (by kernel_rfl)
@[simp] theorem Sq.func23:Sq.prog.funcs[23]? =some Tryz.f23:=Sq.at_ Tryz.func23 (by decide) (by kernel_rfl)
abbrev Sq.ntmps23:= @Tryz.ntmps23
@[simp] theorem Sq.call23:Sq.C 23:=Sq.D Sq.func23 rfl (by kernel_rfl)
@[simp] theorem Sq.func24:Sq.prog.funcs[24]? =some Tryz.f24:=Sq.at_ Tryz.func24 (by decide) (by kernel_rfl)
abbrev Sq.ntmps24:= @Tryz.ntmps24
@[simp] theorem Sq.call24:Sq.C 24:=Sq.D Sq.func24 rfl (by kernel_rfl)
@[simp] theorem Sq.func25:Sq.prog.funcs[25]? =some Tryz.f25:=Sq.at_ Tryz.func25 (by decide) (by kernel_rfl)
abbrev Sq.ntmps25:= @Tryz.ntmps25
@[simp] theorem Sq.call25:Sq.C 25:=Sq.D Sq.func25 rfl (by kernel_rfl)
@[simp] theorem Sq.func26:Sq.prog.funcs[26]? =some Tryz.f26:=Sq.at_ Tryz.func26 (by decide) (by kernel_rfl)
abbrev Sq.ntmps26:= @Tryz.ntmps26
@[simp] theorem Sq.call26:Sq.C 26:=Sq.D Sq.func26 rfl (by kernel_rfl)
@[simp] theorem Sq.func27:Sq.prog.funcs[27]? =some Tryz.f27:=Sq.at_ Tryz.func27 (by decide) (by kernel_rfl)
abbrev Sq.ntmps27:= @Tryz.ntmps27
@[simp] theorem Sq.call27:Sq.C 27:=Sq.D Sq.func27 rfl (by kernel_rfl)
@[simp] theorem Sq.func28:Sq.prog.funcs[28]? =some Tryz.f28:=Sq.at_ Tryz.func28 (by decide) (by kernel_rfl)
abbrev Sq.ntmps28:= @Tryz.ntmps28
@[simp] theorem Sq.call28:Sq.C 28:=Sq.D Sq.func28 rfl (by kernel_rfl)
@[simp] theorem Sq.func29:Sq.prog.funcs[29]? =some Tryz.f29:=Sq.at_ Tryz.func29 (by decide) (by kernel_rfl)
abbrev Sq.ntmps29:= @Tryz.ntmps29
@[simp] theorem Sq.call29:Sq.C 29:=Sq.D Sq.func29 rfl (by kernel_rfl)
@[simp] theorem Sq.func30:Sq.prog.funcs[30]? =some Tryz.f30:=Sq.at_ Tryz.func30 (by decide) (by kernel_rfl)
abbrev Sq.ntmps30:= @Tryz.ntmps30
@[simp] theorem Sq.call30:Sq.C 30:=Sq.D Sq.func30 rfl (by kernel_rfl)
@[simp] theorem Sq.func31:Sq.prog.funcs[31]? =some Tryz.f31:=Sq.at_ Tryz.func31 (by decide) (by kernel_rfl)
abbrev Sq.ntmps31:= @Tryz.ntmps31
@[simp] theorem Sq.call31:Sq.C 31:=Sq.D Sq.func31 rfl (by kernel_rfl)
@[simp] theorem Sq.func32:Sq.prog.funcs[32]? =some Tryz.f32:=Sq.at_ Tryz.func32 (by decide) (by kernel_rfl)
abbrev Sq.ntmps32:= @Tryz.ntmps32
@[simp] theorem Sq.call32:Sq.C 32:=Sq.D Sq.func32 rfl (by kernel_rfl)
@[simp] theorem Sq.func33:Sq.prog.funcs[33]? =some Tryz.f33:=Sq.at_ Tryz.func33 (by decide) (by kernel_rfl)
abbrev Sq.ntmps33:= @Tryz.ntmps33
@[simp] theorem Sq.call33:Sq.C 33:=Sq.D Sq.func33 rfl (by kernel_rfl)
@[simp] theorem Sq.func34:Sq.prog.funcs[34]? =some Tryz.f34:=Sq.at_ Tryz.func34 (by decide) (by kernel_rfl)
abbrev Sq.ntmps34:= @Tryz.ntmps34
@[simp] theorem Sq.call34:Sq.C 34:=Sq.D Sq.func34 rfl (by kernel_rfl)
@[simp] theorem Sq.func35:Sq.prog.funcs[35]? =some Tryz.f35:=Sq.at_ Tryz.func35 (by decide) (by kernel_rfl)
abbrev Sq.ntmps35:= @Tryz.ntmps35
@[simp] theorem Sq.call35:Sq.C 35:=Sq.D Sq.func35 rfl (by kernel_rfl)
@[simp] theorem Sq.func36:Sq.prog.funcs[36]? =some Tryz.f36:=Sq.at_ Tryz.func36 (by decide) (by kernel_rfl)
abbrev Sq.ntmps36:= @Tryz.ntmps36
@[simp] theorem Sq.call36:Sq.C 36:=Sq.D Sq.func36 rfl (by kernel_rfl)
@[simp] theorem Sq.func37:Sq.prog.funcs[37]? =some Tryz.f37:=Sq.at_ Tryz.func37 (by decide) (by kernel_rfl)
abbrev Sq.ntmps37:= @Tryz.ntmps37
@[simp] theorem Sq.call37:Sq.C 37:=Sq.D Sq.func37 rfl (by kernel_rfl)
@[simp] theorem Sq.func38:Sq.prog.funcs[38]? =some Tryz.f38:=Sq.at_ Tryz.func38 (by decide) (by kernel_rfl)
abbrev Sq.ntmps38:= @Tryz.ntmps38
@[simp] theorem Sq.call38:Sq.C 38:=Sq.D Sq.func38 rfl (by kernel_rfl)
@[simp] theorem Sq.func39:Sq.prog.funcs[39]? =some Tryz.f39:=Sq.at_ Tryz.func39 (by decide) (by kernel_rfl)
abbrev Sq.ntmps39:= @Tryz.ntmps39
@[simp] theorem Sq.call39:Sq.C 39:=Sq.D Sq.func39 rfl (by kernel_rfl)
@[simp] theorem Sq.func40:Sq.prog.funcs[40]? =some Tryz.f40:=Sq.at_ Tryz.func40 (by decide) (by kernel_rfl)
abbrev Sq.ntmps40:= @Tryz.ntmps40
@[simp] theorem Sq.call40:Sq.C 40:=Sq.D Sq.func40 rfl (by kernel_rfl)
@[simp] theorem Sq.func41:Sq.prog.funcs[41]? =some Tryz.f41:=Sq.at_ Tryz.func41 (by decide) (by kernel_rfl)
abbrev Sq.ntmps41:= @Tryz.ntmps41
@[simp] theorem Sq.call41:Sq.C 41:=Sq.D Sq.func41 rfl (by kernel_rfl)
@[simp] theorem Sq.func42:Sq.prog.funcs[42]? =some Tryz.f42:=Sq.at_ Tryz.func42 (by decide) (by kernel_rfl)
abbrev Sq.ntmps42:= @Tryz.ntmps42
@[simp] theorem Sq.call42:Sq.C 42:=Sq.D Sq.func42 rfl (by kernel_rfl)
@[simp] theorem Sq.func43:Sq.prog.funcs[43]? =some Tryz.f43:=Sq.at_ Tryz.func43 (by decide) (by kernel_rfl)
abbrev Sq.ntmps43:= @Tryz.ntmps43
@[simp] theorem Sq.call43:Sq.C 43:=Sq.D Sq.func43 rfl (by kernel_rfl)
@[simp] theorem Sq.func44:Sq.prog.funcs[44]? =some Tryz.f44:=Sq.at_ Tryz.func44 (by decide) (by kernel_rfl)
abbrev Sq.ntmps44:= @Tryz.ntmps44
@[simp] theorem Sq.call44:Sq.C 44:=Sq.D Sq.func44 rfl (by kernel_rfl)
@[simp] theorem Sq.func46:Sq.prog.funcs[46]? =some Tryz.f46:=Sq.at_ Tryz.func46 (by decide) (by kernel_rfl)
abbrev Sq.ntmps46:= @Tryz.ntmps46
@[simp] theorem Sq.call46:Sq.C 46:=Sq.D Sq.func46 rfl (by kernel_rfl)
@[simp] theorem Sq.func47:Sq.prog.funcs[47]? =some Tryz.f47:=Sq.at_ Tryz.func47 (by decide) (by kernel_rfl)
abbrev Sq.ntmps47:= @Tryz.ntmps47
@[simp] theorem Sq.call47:Sq.C 47:=Sq.D Sq.func47 rfl (by kernel_rfl)
@[simp] theorem Sq.func48:Sq.prog.funcs[48]? =some Tryz.f48:=Sq.at_ Tryz.func48 (by decide) (by kernel_rfl)
abbrev Sq.ntmps48:= @Tryz.ntmps48
@[simp] theorem Sq.call48:Sq.C 48:=Sq.D Sq.func48 rfl (by kernel_rfl)
@[simp] theorem Sq.func49:Sq.prog.funcs[49]? =some Tryz.f49:=Sq.at_ Tryz.func49 (by decide) (by kernel_rfl)
abbrev Sq.ntmps49:= @Tryz.ntmps49
@[simp] theorem Sq.call49:Sq.C 49:=Sq.D Sq.func49 rfl (by kernel_rfl)
@[simp] theorem Sq.func50:Sq.prog.funcs[50]? =some Tryz.f50:=Sq.at_ Tryz.func50 (by decide) (by kernel_rfl)
abbrev Sq.ntmps50:= @Tryz.ntmps50
@[simp] theorem Sq.call50:Sq.C 50:=Sq.D Sq.func50 rfl (by kernel_rfl)
@[simp] theorem Sq.func51:Sq.prog.funcs[51]? =some Tryz.f51:=Sq.at_ Tryz.func51 (by decide) (by kernel_rfl)
abbrev Sq.ntmps51:= @Tryz.ntmps51
@[simp] theorem Sq.call51:Sq.C 51:=Sq.D Sq.func51 rfl (by kernel_rfl)
@[simp] theorem Sq.func52:Sq.prog.funcs[52]? =some Tryz.f52:=Sq.at_ Tryz.func52 (by decide) (by kernel_rfl)
abbrev Sq.ntmps52:= @Tryz.ntmps52
@[simp] theorem Sq.call52:Sq.C 52:=Sq.D Sq.func52 rfl (by kernel_rfl)
@[simp] theorem Sq.func53:Sq.prog.funcs[53]? =some Tryz.f53:=Sq.at_ Tryz.func53 (by decide) (by kernel_rfl)
abbrev Sq.ntmps53:= @Tryz.ntmps53
@[simp] theorem Sq.call53:Sq.C 53:=Sq.D Sq.func53 rfl (by kernel_rfl)
@[simp] theorem Sq.func54:Sq.prog.funcs[54]? =some Tryz.f54:=Sq.at_ Tryz.func54 (by decide) (by kernel_rfl)
abbrev Sq.ntmps54:= @Tryz.ntmps54
@[simp] theorem Sq.call54:Sq.C 54:=Sq.D Sq.func54 rfl (by kernel_rfl)
@[simp] theorem Sq.func55:Sq.prog.funcs[55]? =some Tryz.f55:=Sq.at_ Tryz.func55 (by decide) (by kernel_rfl)
abbrev Sq.ntmps55:= @Tryz.ntmps55
@[simp] theorem Sq.call55:Sq.C 55:=Sq.D Sq.func55 rfl (by kernel_rfl)
@[simp] theorem Sq.func56:Sq.prog.funcs[56]? =some Tryz.f56:=Sq.at_ Tryz.func56 (by decide) (by kernel_rfl)
abbrev Sq.ntmps56:= @Tryz.ntmps56
@[simp] theorem Sq.call56:Sq.C 56:=Sq.D Sq.func56 rfl (by kernel_rfl)
@[simp] theorem Sq.func57:Sq.prog.funcs[57]? =some Tryz.f57:=Sq.at_ Tryz.func57 (by decide) (by kernel_rfl)
abbrev Sq.ntmps57:= @Tryz.ntmps57
@[simp] theorem Sq.call57:Sq.C 57:=Sq.D Sq.func57 rfl (by kernel_rfl)
@[simp] theorem Sq.func58:Sq.prog.funcs[58]? =some Tryz.f58:=Sq.at_ Tryz.func58 (by decide) (by kernel_rfl)
abbrev Sq.ntmps58:= @Tryz.ntmps58
@[simp] theorem Sq.call58:Sq.C 58:=Sq.D Sq.func58 rfl (by kernel_rfl)
@[simp] theorem Sq.func59:Sq.prog.funcs[59]? =some Tryz.f59:=Sq.at_ Tryz.func59 (by decide) (by kernel_rfl)
abbrev Sq.ntmps59:= @Tryz.ntmps59
@[simp] theorem Sq.call59:Sq.C 59:=Sq.D Sq.func59 rfl (by kernel_rfl)
@[simp] theorem Sq.func60:Sq.prog.funcs[60]? =some Tryz.f60:=Sq.at_ Tryz.func60 (by decide) (by kernel_rfl)
abbrev Sq.ntmps60:= @Tryz.ntmps60
@[simp] theorem Sq.call60:Sq.C 60:=Sq.D Sq.func60 rfl (by kernel_rfl)
@[simp] theorem Sq.func61:Sq.prog.funcs[61]? =some Tryz.f61:=Sq.at_ Tryz.func61 (by decide) (by kernel_rfl)
abbrev Sq.ntmps61:= @Tryz.ntmps61
@[simp] theorem Sq.call61:Sq.C 61:=Sq.D Sq.func61 rfl (by kernel_rfl)
@[simp] theorem Sq.func62:Sq.prog.funcs[62]? =some Tryz.f62:=Sq.at_ Tryz.func62 (by decide) (by kernel_rfl)
abbrev Sq.ntmps62:= @Tryz.ntmps62
@[simp] theorem Sq.call62:Sq.C 62:=Sq.D Sq.func62 rfl (by kernel_rfl)
@[simp] theorem Sq.func63:Sq.prog.funcs[63]? =some Tryz.f63:=Sq.at_ Tryz.func63 (by decide) (by kernel_rfl)
abbrev Sq.ntmps63:= @Tryz.ntmps63
@[simp] theorem Sq.call63:Sq.C 63:=Sq.D Sq.func63 rfl (by kernel_rfl)
@[simp] theorem Sq.func64:Sq.prog.funcs[64]? =some Tryz.f64:=Sq.at_ Tryz.func64 (by decide) (by kernel_rfl)
abbrev Sq.ntmps64:= @Tryz.ntmps64
@[simp] theorem Sq.call64:Sq.C 64:=Sq.D Sq.func64 rfl (by kernel_rfl)
@[simp] theorem Sq.func69:Sq.prog.funcs[69]? =some Tryz.f69:=Sq.at_ Tryz.func69 (by decide) (by kernel_rfl)
abbrev Sq.ntmps69:= @Tryz.ntmps69
@[simp] theorem Sq.call69:Sq.C 69:=Sq.D Sq.func69 rfl (by kernel_rfl)
@[simp] theorem Sq.func70:Sq.prog.funcs[70]? =some Tryz.f70:=Sq.at_ Tryz.func70 (by decide) (by kernel_rfl)
abbrev Sq.ntmps70:= @Tryz.ntmps70
@[simp] theorem Sq.call70:Sq.C 70:=Sq.D Sq.func70 rfl (by kernel_rfl)
@[simp] theorem Sq.func71:Sq.prog.funcs[71]? =some Tryz.f71:=Sq.at_ Tryz.func71 (by decide) (by kernel_rfl)
abbrev Sq.ntmps71:= @Tryz.ntmps71
@[simp] theorem Sq.call71:Sq.C 71:=Sq.D Sq.func71 rfl (by kernel_rfl)
@[simp] theorem Sq.func72:Sq.prog.funcs[72]? =some Tryz.f72:=Sq.at_ Tryz.func72 (by decide) (by kernel_rfl)
abbrev Sq.ntmps72:= @Tryz.ntmps72
@[simp] theorem Sq.call72:Sq.C 72:=Sq.D Sq.func72 rfl (by kernel_rfl)
@[simp] theorem Sq.func73:Sq.prog.funcs[73]? =some Tryz.f73:=Sq.at_ Tryz.func73 (by decide) (by kernel_rfl)
abbrev Sq.ntmps73:= @Tryz.ntmps73
@[simp] theorem Sq.call73:Sq.C 73:=Sq.D Sq.func73 rfl (by kernel_rfl)
@[simp] theorem Sq.func74:Sq.prog.funcs[74]? =some Tryz.f74:=Sq.at_ Tryz.func74 (by decide) (by kernel_rfl)
abbrev Sq.ntmps74:= @Tryz.ntmps74
@[simp] theorem Sq.call74:Sq.C 74:=Sq.D Sq.func74 rfl (by kernel_rfl)
@[simp] theorem Sq.func75:Sq.prog.funcs[75]? =some Tryz.f75:=Sq.at_ Tryz.func75 (by decide) (by kernel_rfl)
abbrev Sq.ntmps75:= @Tryz.ntmps75
@[simp] theorem Sq.call75:Sq.C 75:=Sq.D Sq.func75 rfl (by kernel_rfl)
@[simp] theorem Sq.func76:Sq.prog.funcs[76]? =some Tryz.f76:=Sq.at_ Tryz.func76 (by decide) (by kernel_rfl)
abbrev Sq.ntmps76:= @Tryz.ntmps76
@[simp] theorem Sq.call76:Sq.C 76:=Sq.D Sq.func76 rfl (by kernel_rfl)
@[simp] theorem Sq.func77:Sq.prog.funcs[77]? =some Tryz.f77:=Sq.at_ Tryz.func77 (by decide) (by kernel_rfl)
abbrev Sq.ntmps77:= @Tryz.ntmps77
@[simp] theorem Sq.call77:Sq.C 77:=Sq.D Sq.func77 rfl (by kernel_rfl)
@[simp] theorem Sq.func78:Sq.prog.funcs[78]? =some Tryz.f78:=Sq.at_ Tryz.func78 (by decide) (by kernel_rfl)
abbrev Sq.ntmps78:= @Tryz.ntmps78
@[simp] theorem Sq.call78:Sq.C 78:=Sq.D Sq.func78 rfl (by kernel_rfl)
@[simp] theorem Sq.func79:Sq.prog.funcs[79]? =some Tryz.f79:=Sq.at_ Tryz.func79 (by decide) (by kernel_rfl)
abbrev Sq.ntmps79:= @Tryz.ntmps79
@[simp] theorem Sq.call79:Sq.C 79:=Sq.D Sq.func79 rfl (by kernel_rfl)
@[simp] theorem Sq.func80:Sq.prog.funcs[80]? =some Tryz.f80:=Sq.at_ Tryz.func80 (by decide) (by kernel_rfl)
abbrev Sq.ntmps80:= @Tryz.ntmps80
@[simp] theorem Sq.call80:Sq.C 80:=Sq.D Sq.func80 rfl (by kernel_rfl)
@[simp] theorem Sq.func81:Sq.prog.funcs[81]? =some Tryz.f81:=Sq.at_ Tryz.func81 (by decide) (by kernel_rfl)
abbrev Sq.ntmps81:= @Tryz.ntmps81
@[simp] theorem Sq.call81:Sq.C 81:=Sq.D Sq.func81 rfl (by kernel_rfl)
@[simp] theorem Sq.func100:Sq.prog.funcs[100]? =some Tryz.f100:=Sq.at_ Tryz.func100 (by decide) (by kernel_rfl)
abbrev Sq.ntmps100:= @Tryz.ntmps100
@[simp] theorem Sq.call100:Sq.C 100:=Sq.D Sq.func100 rfl (by kernel_rfl)
@[simp] theorem Sq.func101:Sq.prog.funcs[101]? =some Tryz.f101:=Sq.at_ Tryz.func101 (by decide) (by kernel_rfl)
abbrev Sq.ntmps101:= @Tryz.ntmps101
@[simp] theorem Sq.call101:Sq.C 101:=Sq.D Sq.func101 rfl (by kernel_rfl)
@[simp] theorem Sq.func102:Sq.prog.funcs[102]? =some Tryz.f102:=Sq.at_ Tryz.func102 (by decide) (by kernel_rfl)
abbrev Sq.ntmps102:= @Tryz.ntmps102
@[simp] theorem Sq.call102:Sq.C 102:=Sq.D Sq.func102 rfl (by kernel_rfl)
@[simp] theorem Sq.func103:Sq.prog.funcs[103]? =some Tryz.f103:=Sq.at_ Tryz.func103 (by decide) (by kernel_rfl)
abbrev Sq.ntmps103:= @Tryz.ntmps103
@[simp] theorem Sq.call103:Sq.C 103:=Sq.D Sq.func103 rfl (by kernel_rfl)
@[simp] theorem Sq.func104:Sq.prog.funcs[104]? =some Tryz.f104:=Sq.at_ Tryz.func104 (by decide) (by kernel_rfl)
abbrev Sq.ntmps104:= @Tryz.ntmps104
@[simp] theorem Sq.call104:Sq.C 104:=Sq.D Sq.func104 rfl (by kernel_rfl)
@[simp] theorem Sq.func105:Sq.prog.funcs[105]? =some Tryz.f105:=Sq.at_ Tryz.func105 (by decide) (by kernel_rfl)
abbrev Sq.ntmps105:= @Tryz.ntmps105
@[simp] theorem Sq.call105:Sq.C 105:=Sq.D Sq.func105 rfl (by kernel_rfl)
@[simp] theorem Sq.func106:Sq.prog.funcs[106]? =some Tryz.f106:=Sq.at_ Tryz.func106 (by decide) (by kernel_rfl)
abbrev Sq.ntmps106:= @Tryz.ntmps106
@[simp] theorem Sq.call106:Sq.C 106:=Sq.D Sq.func106 rfl (by kernel_rfl)
@[simp] theorem Sq.func107:Sq.prog.funcs[107]? =some Tryz.f107:=Sq.at_ Tryz.func107 (by decide) (by kernel_rfl)
abbrev Sq.ntmps107:= @Tryz.ntmps107
@[simp] theorem Sq.call107:Sq.C 107:=Sq.D Sq.func107 rfl (by kernel_rfl)
@[simp] theorem Sq.func108:Sq.prog.funcs[108]? =some Tryz.f108:=Sq.at_ Tryz.func108 (by decide) (by kernel_rfl)
abbrev Sq.ntmps108:= @Tryz.ntmps108
@[simp] theorem Sq.call108:Sq.C 108:=Sq.D Sq.func108 rfl (by kernel_rfl)
@[simp] theorem Sq.func114:Sq.prog.funcs[114]? =some Tryz.f114:=Sq.at_ Tryz.func114 (by decide) (by kernel_rfl)
abbrev Sq.ntmps114:= @Tryz.ntmps114
@[simp] theorem Sq.call114:Sq.C 114:=Sq.D Sq.func114 rfl (by kernel_rfl)
@[simp] theorem Sq.func115:Sq.prog.funcs[115]? =some Tryz.f115:=Sq.at_ Tryz.func115 (by decide) (by kernel_rfl)
abbrev Sq.ntmps115:= @Tryz.ntmps115
@[simp] theorem Sq.call115:Sq.C 115:=Sq.D Sq.func115 rfl (by kernel_rfl)
@[simp] theorem Sq.func116:Sq.prog.funcs[116]? =some Tryz.f116:=Sq.at_ Tryz.func116 (by decide) (by kernel_rfl)
abbrev Sq.ntmps116:= @Tryz.ntmps116
@[simp] theorem Sq.call116:Sq.C 116:=Sq.D Sq.func116 rfl (by kernel_rfl)
@[simp] theorem Sq.func117:Sq.prog.funcs[117]? =some Tryz.f117:=Sq.at_ Tryz.func117 (by decide) (by kernel_rfl)
abbrev Sq.ntmps117:= @Tryz.ntmps117
@[simp] theorem Sq.call117:Sq.C 117:=Sq.D Sq.func117 rfl (by kernel_rfl)
@[simp] theorem Sq.func118:Sq.prog.funcs[118]? =some Tryz.f118:=Sq.at_ Tryz.func118 (by decide) (by kernel_rfl)
abbrev Sq.ntmps118:= @Tryz.ntmps118
@[simp] theorem Sq.call118:Sq.C 118:=Sq.D Sq.func118 rfl (by kernel_rfl)
@[simp] theorem Sq.func119:Sq.prog.funcs[119]? =some Tryz.f119:=Sq.at_ Tryz.func119 (by decide) (by kernel_rfl)
abbrev Sq.ntmps119:= @Tryz.ntmps119
@[simp] theorem Sq.call119:Sq.C 119:=Sq.D Sq.func119 rfl (by kernel_rfl)
@[simp] theorem Sq.func120:Sq.prog.funcs[120]? =some Tryz.f120:=Sq.at_ Tryz.func120 (by decide) (by kernel_rfl)
abbrev Sq.ntmps120:= @Tryz.ntmps120
@[simp] theorem Sq.call120:Sq.C 120:=Sq.D Sq.func120 rfl (by kernel_rfl)
@[simp] theorem Sq.func121:Sq.prog.funcs[121]? =some Tryz.f121:=Sq.at_ Tryz.func121 (by decide) (by kernel_rfl)
abbrev Sq.ntmps121:= @Tryz.ntmps121
@[simp] theorem Sq.call121:Sq.C 121:=Sq.D Sq.func121 rfl (by kernel_rfl)
@[simp] theorem Sq.func122:Sq.prog.funcs[122]? =some Tryz.f122:=Sq.at_ Tryz.func122 (by decide) (by kernel_rfl)
abbrev Sq.ntmps122:= @Tryz.ntmps122
@[simp] theorem Sq.call122:Sq.C 122:=Sq.D Sq.func122 rfl (by kernel_rfl)
@[simp] theorem Sq.func123:Sq.prog.funcs[123]? =some Tryz.f123:=Sq.at_ Tryz.func123 (by decide) (by kernel_rfl)
abbrev Sq.ntmps123:= @Tryz.ntmps123
@[simp] theorem Sq.call123:Sq.C 123:=Sq.D Sq.func123 rfl (by kernel_rfl)
@[simp] theorem Sq.func124:Sq.prog.funcs[124]? =some Tryz.f124:=Sq.at_ Tryz.func124 (by decide) (by kernel_rfl)
abbrev Sq.ntmps124:= @Tryz.ntmps124
@[simp] theorem Sq.call124:Sq.C 124:=Sq.D Sq.func124 rfl (by kernel_rfl)
@[simp] theorem Sq.func125:Sq.prog.funcs[125]? =some Tryz.f125:=Sq.at_ Tryz.func125 (by decide) (by kernel_rfl)
abbrev Sq.ntmps125:= @Tryz.ntmps125
@[simp] theorem Sq.call125:Sq.C 125:=Sq.D Sq.func125 rfl (by kernel_rfl)
@[simp] theorem Sq.func126:Sq.prog.funcs[126]? =some Tryz.f126:=Sq.at_ Tryz.func126 (by decide) (by kernel_rfl)
abbrev Sq.ntmps126:= @Tryz.ntmps126
@[simp] theorem Sq.call126:Sq.C 126:=Sq.D Sq.func126 rfl (by kernel_rfl)
@[simp] theorem Sq.func127:Sq.prog.funcs[127]? =some Tryz.f127:=Sq.at_ Tryz.func127 (by decide) (by kernel_rfl)
abbrev Sq.ntmps127:= @Tryz.ntmps127
@[simp] theorem Sq.call127:Sq.C 127:=Sq.D Sq.func127 rfl (by kernel_rfl)
@[simp] theorem Sq.func128:Sq.prog.funcs[128]? =some Tryz.f128:=Sq.at_ Tryz.func128 (by decide) (by kernel_rfl)
abbrev Sq.ntmps128:= @Tryz.ntmps128
@[simp] theorem Sq.call128:Sq.C 128:=Sq.D Sq.func128 rfl (by kernel_rfl)
@[simp] theorem Sq.func129:Sq.prog.funcs[129]? =some Tryz.f129:=Sq.at_ Tryz.func129 (by decide) (by kernel_rfl)
abbrev Sq.ntmps129:= @Tryz.ntmps129
@[simp] theorem Sq.call129:Sq.C 129:=Sq.D Sq.func129 rfl (by kernel_rfl)
@[simp] theorem Sq.func130:Sq.prog.funcs[130]? =some Tryz.f130:=Sq.at_ Tryz.func130 (by decide) (by kernel_rfl)
abbrev Sq.ntmps130:= @Tryz.ntmps130
@[simp] theorem Sq.call130:Sq.C 130:=Sq.D Sq.func130 rfl (by kernel_rfl)
@[simp] theorem Sq.func131:Sq.prog.funcs[131]? =some Tryz.f131:=Sq.at_ Tryz.func131 (by decide) (by kernel_rfl)
abbrev Sq.ntmps131:= @Tryz.ntmps131
@[simp] theorem Sq.call131:Sq.C 131:=Sq.D Sq.func131 rfl (by kernel_rfl)
@[simp] theorem Sq.func132:Sq.prog.funcs[132]? =some Tryz.f132:=Sq.at_ Tryz.func132 (by decide) (by kernel_rfl)
abbrev Sq.ntmps132:= @Tryz.ntmps132
@[simp] theorem Sq.call132:Sq.C 132:=Sq.D Sq.func132 rfl (by kernel_rfl)
theorem Sq.bodies:JL Tryz.prog.toTables Sq.G Sq.G.size:=by rw[Sq.G_eq];exact Qxq (by kernel_rfl) _
theorem Sq.bodies_d:JL Tryz.prog.toTables Sq.G 45:=by rw[Sq.G_eq];exact Qxq (by kernel_rfl) _
theorem Sq.twin:Twin Tryz.prog.funcs Sq.G 45:=by rw[Sq.G_eq];exact QxV Tryz.func45 (by kernel_rfl) (by kernel_rfl)
theorem Sq.self:Twin Sq.G Sq.G Sq.G.size:=QxU Sq.twin.bodies
theorem Sq.none_:Sq.G[Sq.G.size]? =none:=Array.getElem?_eq_none (Nat.le_refl _)
end Go.Proofs.YtgaimkihacljdaaGreat
