/- The stand-in program of this seat: the given one, its one function that starts goroutines replaced. Printed by gen_bprog.py. (Round C) -/
import Derived.Test.YtahnegggamlkeaaChecked
import Derived.Test.YtahnegggamlkeaaZSimC
namespace Go.Proofs.Ytahnegggamlkeaa
noncomputable def Sq.stub:Code:=QcE 22 28 39 3 4
@[irreducible] noncomputable def Sq.G:Array Func:=Try.prog.funcs.mapIdx (Qac Try.prog.toTables 13 Sq.stub)
noncomputable def Sq.prog:Program:=⟨Try.prog.toTables,Sq.G⟩
@[simp] theorem Sq.tables:Sq.prog.toTables=Try.prog.toTables:=rfl
theorem Sq.und{t:TypeId}{x:Option TypeDesc}(h:Try.prog.underlying t=x):Sq.prog.underlying t=x:=(Qbf Sq.tables t).trans h
@[simp] theorem Sq.und_ (t:TypeId):Sq.prog.underlying t=Try.prog.underlying t:=Qbf Sq.tables t
@[simp] theorem Sq.runTypeInfo (t:TypeId) (w:World):(typeInfo t).run Sq.prog w=(typeInfo t).run Try.prog w:=Qky Sq.tables t w
@[simp] theorem Sq.runSizeOf (t:TypeId) (w:World):(sizeOf t).run Sq.prog w=(sizeOf t).run Try.prog w:=QxM Sq.tables t w
@[simp] theorem Sq.runUnderlying (t:TypeId) (w:World):(underlying t).run Sq.prog w=(underlying t).run Try.prog w:=Qt2 Sq.tables t w
@[simp] theorem Sq.runIsAgg (t:TypeId) (w:World):(isAgg t).run Sq.prog w=(isAgg t).run Try.prog w:=QxL Sq.tables t w
@[simp] theorem Sq.runZeroValue (t:TypeId) (w:World):(zeroValue t).run Sq.prog w=(zeroValue t).run Try.prog w:=QxN Sq.tables t w
@[simp] theorem Sq.eqGuardType_ (t:TypeId):Sq.prog.eqGuardType Sq.prog.depth t=Try.prog.eqGuardType Try.prog.depth t:=Qxs Sq.tables t
@[simp] theorem Sq.stoodInHeld_ (t:TypeId):Sq.prog.stoodInHeld t=Try.prog.stoodInHeld t:=QxR Sq.tables t
theorem Sq.G_eq:Sq.G=Try.prog.funcs.mapIdx (Qac Try.prog.toTables 13 Sq.stub):=by unfold Sq.G;rfl
theorem Sq.at_{i:FuncId}{fn:Func}(h:Try.prog.funcs[i]? =some fn)(hi:i≠13)(hk:okFn Try.prog.toTables fn=true):Sq.prog.funcs[i]? =some fn:=by
 show Sq.G[i]? =_
 rw[Sq.G_eq]
 exact QxO h hi hk
noncomputable abbrev Sq.f13:Func:={ Try.f13 with body:=some Sq.stub,results:=#[.tmp 4],ntmps:=25}
@[simp] theorem Sq.func13:Sq.prog.funcs[13]? =some Sq.f13:=by
  show Sq.G[13]? =_
  rw[Sq.G_eq]
  exact QxP Try.func13
@[simp] theorem Sq.ntmps13:Sq.f13.ntmps=25:=rfl
@[simp] theorem Sq.results13:Sq.f13.results= #[.tmp 4]:=rfl
@[simp] theorem Sq.call13 (args:Array Value) (w:World):(callFunc 13 args).run Sq.prog w= .ok (.enter 13 args) w:=Qxr Sq.func13 rfl (by show(Try.f13.name == "runtime.NumGoroutine")=false;kernel_rfl) args w
theorem Sq.atE{i:FuncId}{fn:Func}(h:Try.prog.funcs[i]? =some fn)(hi:i≠13)(hk:Qdv fn=true):Sq.prog.funcs[i]? =some fn:=by
 show Sq.G[i]? =_
 rw[Sq.G_eq]
 exact QxQ h hi hk
abbrev Sq.C(n:FuncId):Prop:=∀(a:Array Value) (w:World),(callFunc n a).run Sq.prog w= .ok (.enter n a) w
theorem Sq.D{n:FuncId}{fn:Func}(h:Sq.prog.funcs[n]? =some fn)(hb:fn.body.isSome=true)(hn:(fn.name == "runtime.NumGoroutine")=false):Sq.C n:=Qxr h hb hn
@[simp] theorem Sq.func3:Sq.prog.funcs[3]? =some Try.f3:=Sq.at_ Try.func3 (by decide) (by kernel_rfl)
@[simp] theorem Sq.call3:Sq.C 3:=Sq.D Sq.func3 rfl (by kernel_rfl)
@[simp] theorem Sq.func4:Sq.prog.funcs[4]? =some Try.f4:=Sq.at_ Try.func4 (by decide) (by kernel_rfl)
@[simp] theorem Sq.call4:Sq.C 4:=Sq.D Sq.func4 rfl (by kernel_rfl)
@[simp] theorem Sq.func5:Sq.prog.funcs[5]? =some Try.f5:=Sq.at_ Try.func5 (by decide) (by kernel_rfl)
abbrev Sq.ntmps5:= @Try.ntmps5
@[simp] theorem Sq.call5:Sq.C 5:=Sq.D Sq.func5 rfl (by kernel_rfl)
@[simp] theorem Sq.func6:Sq.prog.funcs[6]? =some Try.f6:=Sq.at_ Try.func6 (by decide) (by kernel_rfl)
abbrev Sq.ntmps6:= @Try.ntmps6
@[simp] theorem Sq.call6:Sq.C 6:=Sq.D Sq.func6 rfl (by kernel_rfl)
@[simp] theorem Sq.func7:Sq.prog.funcs[7]? =some Try.f7:=Sq.at_ Try.func7 (by decide) (by kernel_rfl)
abbrev Sq.ntmps7:= @Try.ntmps7
@[simp] theorem Sq.call7:Sq.C 7:=Sq.D Sq.func7 rfl (by kernel_rfl)
@[simp] theorem Sq.func8:Sq.prog.funcs[8]? =some Try.f8:=Sq.at_ Try.func8 (by decide) (by kernel_rfl)
abbrev Sq.ntmps8:= @Try.ntmps8
@[simp] theorem Sq.call8:Sq.C 8:=Sq.D Sq.func8 rfl (by kernel_rfl)
@[simp] theorem Sq.func9:Sq.prog.funcs[9]? =some Try.f9:=Sq.at_ Try.func9 (by decide) (by kernel_rfl)
abbrev Sq.ntmps9:= @Try.ntmps9
@[simp] theorem Sq.call9:Sq.C 9:=Sq.D Sq.func9 rfl (by kernel_rfl)
@[simp] theorem Sq.func10:Sq.prog.funcs[10]? =some Try.f10:=Sq.at_ Try.func10 (by decide) (by kernel_rfl)
abbrev Sq.ntmps10:= @Try.ntmps10
@[simp] theorem Sq.call10:Sq.C 10:=Sq.D Sq.func10 rfl (by kernel_rfl)
@[simp] theorem Sq.func11:Sq.prog.funcs[11]? =some Try.f11:=Sq.at_ Try.func11 (by decide) (by kernel_rfl)
abbrev Sq.ntmps11:= @Try.ntmps11
@[simp] theorem Sq.call11:Sq.C 11:=Sq.D Sq.func11 rfl (by kernel_rfl)
@[simp] theorem Sq.func12:Sq.prog.funcs[12]? =some Try.f12:=Sq.at_ Try.func12 (by decide) (by kernel_rfl)
abbrev Sq.ntmps12:= @Try.ntmps12
@[simp] theorem Sq.call12:Sq.C 12:=Sq.D Sq.func12 rfl (by kernel_rfl)
theorem Sq.bodies:JL Try.prog.toTables Sq.G Sq.G.size:=by rw[Sq.G_eq];exact Qxq (by kernel_rfl) _
theorem Sq.bodies_d:JL Try.prog.toTables Sq.G 13:=by rw[Sq.G_eq];exact Qxq (by kernel_rfl) _
theorem Sq.twin:Twin Try.prog.funcs Sq.G 13:=by rw[Sq.G_eq];exact QxV Try.func13 (by kernel_rfl) (by kernel_rfl)
theorem Sq.self:Twin Sq.G Sq.G Sq.G.size:=QxU Sq.twin.bodies
theorem Sq.none_:Sq.G[Sq.G.size]? =none:=Array.getElem?_eq_none (Nat.le_refl _)
end Go.Proofs.Ytahnegggamlkeaa
