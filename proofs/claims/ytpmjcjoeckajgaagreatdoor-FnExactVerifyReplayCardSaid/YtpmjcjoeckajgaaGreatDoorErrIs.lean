/- errors.Is over two sentinels, by its own text. (Round C, cards) -/
import Derived.Test.YtpmjcjoeckajgaaGreatDoorZRepl
import Derived.LaidEql
import Derived.Stop.Asserts
import Derived.RowKitTokens
namespace Go.Proofs.YtpmjcjoeckajgaaGreatDoor
open Go.RowKit Go.Extern.Stop Go.Stop Go.Extern
theorem Qi4(v:Value)(w:World):(Extern.ReflectliteType.typeOf #[.iface 245 v]).run Sq.prog w= .ok (.iface 153 (.agg #[.pointer (some ⟨9,245,none⟩)])) w:=by kernel_rfl
theorem Qi0: ∃e:Array Value→Sem Value,(∀(args:Array Value) (w:World),(callFunc 211 args).run Sq.prog w=((e args).run Sq.prog w).andThen fun v w'=> .ok (.value v) w')∧∀w:World,(e #[.agg #[.pointer (some ⟨9,245,none⟩)]]).run Sq.prog w= .ok (.bool true) w:=
 ⟨Extern.ReflectliteType.method fun t=>do Extern.Rtype.noPackHeld "Comparable" t;pure (.bool (←typeInfo t).comparable), @run_callFunc_extern Sq.prog 211 _ _ Sq.func211 (by kernel_rfl) (by kernel_rfl) (by kernel_rfl) (by kernel_rfl),fun w=>by kernel_rfl⟩
theorem Qi2(v:Value)(w:World):(Go.method 380 153 v "Comparable").run Sq.prog w= .ok (211,v) w:=by kernel_rfl
theorem QiZ:(Sq.prog.info? 245).map (·.comparable)=some true:=by kernel_rfl
theorem Qi3:(Sq.prog.info? 269).map (·.size)=some 1:=by kernel_rfl
theorem Qti(v:Value)(xT:TypeId)(w:World):(Instr.typeAssert (.iface 245 v) xT 155 true).run Sq.prog w= .ok (.tuple #[.nilIface,.bool false]) w:=run_typeAssert_lacksB (Sq.und Tryz.underlying155) (by kernel_rfl) (by kernel_rfl) v xT w
theorem Qtj(v:Value)(xT:TypeId)(w:World):(Instr.typeAssert (.iface 245 v) xT 158 true).run Sq.prog w= .ok (.tuple #[.nilIface,.bool false]) w:=run_typeAssert_lacksB (Sq.und Tryz.underlying158) (by kernel_rfl) (by kernel_rfl) v xT w
theorem Qtk(v:Value)(xT:TypeId)(w:World):(Instr.typeAssert (.iface 245 v) xT 160 true).run Sq.prog w= .ok (.tuple #[.nilIface,.bool false]) w:=run_typeAssert_lacksB (Sq.und Tryz.underlying160) (by kernel_rfl) (by kernel_rfl) v xT w
set_option maxRecDepth 100000 in
theorem QqJ(a:Addr)(w:World):
 Calls Sq.prog 35 #[.iface 245 (.pointer (some a)),.iface 245 (.pointer (some a))] w fun e w'=>e= .returned (.bool true)∧w'=w:=by
 obtain⟨i,hi,hcmp⟩:=Option.map_eq_some_iff.1 QiZ
 obtain⟨j,hj,hjs⟩:=Option.map_eq_some_iff.1 Qi3
 have h8:= @run_callFunc_extern Sq.prog 80 _ Extern.ReflectliteType.typeOf Sq.func80 (by kernel_rfl) (by kernel_rfl) (by kernel_rfl) (by kernel_rfl)
 obtain⟨eC,h32,cT⟩:=Qi0
 have tT:=Qi4
 have mR:=Qi2
 have heq:=run_eql_iface_ptr_same (P:=Sq.prog) w a (Sq.und Tryz.underlying73) (Sq.und Tryz.underlying245) hi hcmp hj
 go_enter Sq.func35, Tryz.ntmps35
 go_wp2
 refine wp_loop_rounds 1 ?_
 rw[rounds_succ]
 go_wp2
 go_ret
 exact⟨rfl,rfl⟩
set_option maxRecDepth 100000 in
theorem Qqy(a b:Addr)(ca cb:Array Value)(ta tb:TypeId)(w:World)(hne:a≠b)(ha:w.heap[a.block]? =some (.cells ca ta (0,0)))(hb:w.heap[b.block]? =some (.cells cb tb (0,0))):
 Calls Sq.prog 35 #[.iface 245 (.pointer (some a)),.iface 245 (.pointer (some b))] w fun e w'=>e= .returned (.bool false)∧w'=w:=by
 obtain⟨i,hi,hcmp⟩:=Option.map_eq_some_iff.1 QiZ
 obtain⟨j,hj,hjs⟩:=Option.map_eq_some_iff.1 Qi3
 have h8:= @run_callFunc_extern Sq.prog 80 _ Extern.ReflectliteType.typeOf Sq.func80 (by kernel_rfl) (by kernel_rfl) (by kernel_rfl) (by kernel_rfl)
 obtain⟨eC,h32,cT⟩:=Qi0
 have tT:=Qi4
 have mR:=Qi2
 have nE:=Qti
 have uE:=Qtj
 have vE:=Qtk
 have heq:=run_eql_iface_ptr_other (P:=Sq.prog) w (Sq.und Tryz.underlying73) (Sq.und Tryz.underlying245) hi hcmp hj (by rw[hjs];decide) hne ha hb
 go_enter Sq.func35, Tryz.ntmps35
 go_wp2
 refine wp_loop_rounds 1 ?_
 rw[rounds_succ]
 go_wp2
 go_ret
 exact⟨rfl,rfl⟩
end Go.Proofs.YtpmjcjoeckajgaaGreatDoor
