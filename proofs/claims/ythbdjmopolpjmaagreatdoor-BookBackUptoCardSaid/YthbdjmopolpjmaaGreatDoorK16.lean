/- Part 16 of the proof. -/
import Derived.Lib.AppendIntMem
import Derived.RowKitTokens
import Derived.Stop.Asserts
import Derived.Test.YthbdjmopolpjmaaGreatDoorK13
set_option linter.unusedVariables false
set_option linter.unusedSimpArgs false
set_option maxHeartbeats 8000000
set_option maxRecDepth 100000
namespace Go.Proofs.YthbdjmopolpjmaaGreatDoor.C
open Go.RowKit Go.Extern.Stop Go.Stop Go.Extern Go.Proofs.YthbdjmopolpjmaaGreatDoorW.PrintWords Go.Proofs.YthbdjmopolpjmaaGreatDoorW.PrintLast Go.Proofs.YthbdjmopolpjmaaGreatDoorW.PrintMore Go.Proofs.YthbdjmopolpjmaaGreatDoor.F Go.Proofs.YthbdjmopolpjmaaGreatDoor.M
namespace As
theorem methodKind (h:Value)(w:World):(Go.method 490 182 (.agg #[h]) "Kind").run Tryz.prog w= .ok (281,h) w:=by kernel_rfl
theorem methodElem (h:Value)(w:World):(Go.method 490 182 (.agg #[h]) "Elem").run Tryz.prog w= .ok (295,.agg #[h]) w:=by kernel_rfl
theorem methodImplements (h:Value)(w:World):(Go.method 490 182 (.agg #[h]) "Implements").run Tryz.prog w= .ok (296,.agg #[h]) w:=by kernel_rfl
theorem methodAssignableTo (h:Value)(w:World):(Go.method 490 182 (.agg #[h]) "AssignableTo").run Tryz.prog w= .ok (293,.agg #[h]) w:=by kernel_rfl
theorem rD (h:Value)(w:World):(Go.method 490 182 (.agg #[h]) "Comparable").run Tryz.prog w= .ok (294,.agg #[h]) w:=by kernel_rfl
theorem rlm (z:Sem Value)(f:TypeId→Addr→Nat→Nat→Sem Value)(v:Value):
  ReflectliteValue.method z f #[v]=(do match←ReflectliteValue.parts v with|none=>z|some (t,a,fl)=>f t a fl (fl%32)):=rfl
theorem rls (v x:Value):ReflectliteValue.set #[v,x]=(do
  let(some (dst,a,fl),some (src,b,_)):=(←ReflectliteValue.parts v,←ReflectliteValue.parts x)
   |unsupported (.noEntry "extern/(internal/reflectlite.Value).Set.zeroValue")
  if fl/ReflectliteValue.flagAddr%2==0 then unsupported (.noEntry "extern/(internal/reflectlite.Value).Set.unaddressable")
  let val←loadVar src b
  if←Rtype.directlyAssignable dst src then storeVar dst a val
  else if←Rtype.implements dst src then
   if(←Rtype.kind src)==20 then
    match val with
    | .nilIface=>unsupported (.noEntry "extern/reflectlite: a nil value of one interface type handed on as a value of another")
    |_=>storeVar dst a val
   else storeVar dst a (.iface src val)
  else panicString ("reflectlite.Set: value of type " ++(←Rtype.spelt src)++ " is not assignable to type " ++(←Rtype.spelt dst))
  pure (.tuple #[])):=rfl
theorem TD (t:Addr)(w:World):(ReflectliteValue.unpack (.iface 86 (.pointer (some t)))).run Tryz.prog w
  = .ok (.agg #[.pointer (some ⟨10,86,none⟩),.pointer (some ⟨w.heap.size,0,none⟩),.int .u64 150]) (w.alloc (.cells #[.pointer (some t)] 86)):=by kernel_rfl
theorem type86 (a:Addr)(w:World):(ReflectliteValue.methodAny (ReflectliteValue.valueError "reflectlite.Value.Type" 0) (fun t _ _ _=>ReflectliteType.toType t) #[.agg #[.pointer (some ⟨10,86,none⟩),.pointer (some a),.int .u64 150]]).run Tryz.prog w
  = .ok (.iface 182 (.agg #[.pointer (some ⟨10,86,none⟩)])) w:=by kernel_rfl
theorem adq (w:World):((ReflectliteType.abiMethod fun t=>(fun a:Nat=>Value.int IntKind.u8 (a:Int))<$>Rtype.kind t) #[.pointer (some ⟨10,86,none⟩)]).run Tryz.prog w= .ok (.int .u8 22) w:=by kernel_rfl
theorem ado (w:World):((ReflectliteType.abiMethod fun t=>(fun a:Nat=>Value.int IntKind.u8 (a:Int))<$>Rtype.kind t) #[.pointer (some ⟨10,49,none⟩)]).run Tryz.prog w= .ok (.int .u8 25) w:=by kernel_rfl
theorem QD (a:Addr)(w:World):(ReflectliteValue.parts (.agg #[.pointer (some ⟨10,86,none⟩),.pointer (some a),.int .u64 150])).run Tryz.prog w= .ok (some (86,a,150)) w:=by kernel_rfl
theorem ZZ (a p:Addr)(W:World)(ha:W.cell? a=some (.pointer (some p))):
  (ReflectliteValue.method (ReflectliteValue.valueError "reflectlite.Value.IsNil" 0) ReflectliteValue.isNil #[.agg #[.pointer (some ⟨10,86,none⟩),.pointer (some a),.int .u64 150]]).run Tryz.prog W= .ok (.bool false) W:=by
 rw[rlm];simp only[Sem.run_bind,QD,Result.andThen];simp[ReflectliteValue.isNil,loadVar,isAgg,underlying,Tryz.underlying86,ha,Result.andThen]
theorem acp (w:World):(ReflectliteType.method ReflectliteType.elem #[.agg #[.pointer (some ⟨10,86,none⟩)]]).run Tryz.prog w= .ok (.iface 182 (.agg #[.pointer (some ⟨10,49,none⟩)])) w:=by kernel_rfl
theorem MQ (v:Value)(w:World):(ReflectliteType.typeOf #[.iface 49 v]).run Tryz.prog w= .ok (.iface 182 (.agg #[.pointer (some ⟨10,49,none⟩)])) w:=by kernel_rfl
theorem TB (v0 v1:Value)(w:World):(ReflectliteValue.unpack (.iface 49 (.agg #[v0,v1]))).run Tryz.prog w
  = .ok (.agg #[.pointer (some ⟨10,49,none⟩),.pointer (some ⟨w.heap.size,0,none⟩),.int .u64 153]) (w.alloc (.cells #[v0,v1] 49)):=by kernel_rfl
theorem Vk (w:World):(Rtype.elem? 86).run Tryz.prog w= .ok (some 49) w:=by kernel_rfl
theorem amk (p:Addr)(w:World):(ReflectliteValue.mk 49 p ReflectliteValue.flagAddr).run Tryz.prog w= .ok (.agg #[.pointer (some ⟨10,49,none⟩),.pointer (some p),.int .u64 409]) w:=by kernel_rfl
theorem Zp (a p:Addr)(W:World)(ha:W.cell? a=some (.pointer (some p))):
  (ReflectliteValue.method (ReflectliteValue.valueError "reflectlite.Value.Elem" 0) ReflectliteValue.elem #[.agg #[.pointer (some ⟨10,86,none⟩),.pointer (some a),.int .u64 150]]).run Tryz.prog W
   = .ok (.agg #[.pointer (some ⟨10,49,none⟩),.pointer (some p),.int .u64 409]) W:=by
 rw[rlm];simp only[Sem.run_bind,QD,Result.andThen];simp[ReflectliteValue.elem,loadVar,isAgg,underlying,Tryz.underlying86,ha,Result.andThen,Vk,amk]
theorem XP (a:Addr)(w:World):(ReflectliteValue.parts (.agg #[.pointer (some ⟨10,49,none⟩),.pointer (some a),.int .u64 409])).run Tryz.prog w= .ok (some (49,a,409)) w:=by kernel_rfl
theorem aad (a:Addr)(w:World):(ReflectliteValue.parts (.agg #[.pointer (some ⟨10,49,none⟩),.pointer (some a),.int .u64 153])).run Tryz.prog w= .ok (some (49,a,153)) w:=by kernel_rfl
theorem Vg (w:World):(Rtype.directlyAssignable 49 49).run Tryz.prog w= .ok true w:=by kernel_rfl
theorem TE (t:Addr)(w:World):(ReflectliteValue.unpack (.iface 88 (.pointer (some t)))).run Tryz.prog w
  = .ok (.agg #[.pointer (some ⟨10,88,none⟩),.pointer (some ⟨w.heap.size,0,none⟩),.int .u64 150]) (w.alloc (.cells #[.pointer (some t)] 88)):=by kernel_rfl
theorem type88 (a:Addr)(w:World):(ReflectliteValue.methodAny (ReflectliteValue.valueError "reflectlite.Value.Type" 0) (fun t _ _ _=>ReflectliteType.toType t) #[.agg #[.pointer (some ⟨10,88,none⟩),.pointer (some a),.int .u64 150]]).run Tryz.prog w
  = .ok (.iface 182 (.agg #[.pointer (some ⟨10,88,none⟩)])) w:=by kernel_rfl
theorem adr (w:World):((ReflectliteType.abiMethod fun t=>(fun a:Nat=>Value.int IntKind.u8 (a:Int))<$>Rtype.kind t) #[.pointer (some ⟨10,88,none⟩)]).run Tryz.prog w= .ok (.int .u8 22) w:=by kernel_rfl
theorem adp (w:World):((ReflectliteType.abiMethod fun t=>(fun a:Nat=>Value.int IntKind.u8 (a:Int))<$>Rtype.kind t) #[.pointer (some ⟨10,83,none⟩)]).run Tryz.prog w= .ok (.int .u8 25) w:=by kernel_rfl
theorem QE (a:Addr)(w:World):(ReflectliteValue.parts (.agg #[.pointer (some ⟨10,88,none⟩),.pointer (some a),.int .u64 150])).run Tryz.prog w= .ok (some (88,a,150)) w:=by kernel_rfl
theorem Z4 (a p:Addr)(W:World)(ha:W.cell? a=some (.pointer (some p))):
  (ReflectliteValue.method (ReflectliteValue.valueError "reflectlite.Value.IsNil" 0) ReflectliteValue.isNil #[.agg #[.pointer (some ⟨10,88,none⟩),.pointer (some a),.int .u64 150]]).run Tryz.prog W= .ok (.bool false) W:=by
 rw[rlm];simp only[Sem.run_bind,QE,Result.andThen];simp[ReflectliteValue.isNil,loadVar,isAgg,underlying,Tryz.underlying88,ha,Result.andThen]
theorem acr (w:World):(ReflectliteType.method ReflectliteType.elem #[.agg #[.pointer (some ⟨10,88,none⟩)]]).run Tryz.prog w= .ok (.iface 182 (.agg #[.pointer (some ⟨10,83,none⟩)])) w:=by kernel_rfl
theorem Yo (v:Value)(w:World):(ReflectliteType.typeOf #[.iface 83 v]).run Tryz.prog w= .ok (.iface 182 (.agg #[.pointer (some ⟨10,83,none⟩)])) w:=by kernel_rfl
theorem TC (v0:Value)(w:World):(ReflectliteValue.unpack (.iface 83 (.agg #[v0]))).run Tryz.prog w
  = .ok (.agg #[.pointer (some ⟨10,83,none⟩),.pointer (some ⟨w.heap.size,0,none⟩),.int .u64 153]) (w.alloc (.cells #[v0] 83)):=by kernel_rfl
theorem Vl (w:World):(Rtype.elem? 88).run Tryz.prog w= .ok (some 83) w:=by kernel_rfl
theorem aml (p:Addr)(w:World):(ReflectliteValue.mk 83 p ReflectliteValue.flagAddr).run Tryz.prog w= .ok (.agg #[.pointer (some ⟨10,83,none⟩),.pointer (some p),.int .u64 409]) w:=by kernel_rfl
theorem Zq (a p:Addr)(W:World)(ha:W.cell? a=some (.pointer (some p))):
  (ReflectliteValue.method (ReflectliteValue.valueError "reflectlite.Value.Elem" 0) ReflectliteValue.elem #[.agg #[.pointer (some ⟨10,88,none⟩),.pointer (some a),.int .u64 150]]).run Tryz.prog W
   = .ok (.agg #[.pointer (some ⟨10,83,none⟩),.pointer (some p),.int .u64 409]) W:=by
 rw[rlm];simp only[Sem.run_bind,QE,Result.andThen];simp[ReflectliteValue.elem,loadVar,isAgg,underlying,Tryz.underlying88,ha,Result.andThen,Vl,aml]
theorem XQ (a:Addr)(w:World):(ReflectliteValue.parts (.agg #[.pointer (some ⟨10,83,none⟩),.pointer (some a),.int .u64 409])).run Tryz.prog w= .ok (some (83,a,409)) w:=by kernel_rfl
theorem aae (a:Addr)(w:World):(ReflectliteValue.parts (.agg #[.pointer (some ⟨10,83,none⟩),.pointer (some a),.int .u64 153])).run Tryz.prog w= .ok (some (83,a,153)) w:=by kernel_rfl
theorem Vh (w:World):(Rtype.directlyAssignable 83 83).run Tryz.prog w= .ok true w:=by kernel_rfl
theorem BP (w:World):(ReflectliteType.relation "AssignableTo" ReflectliteType.assignableTo #[.agg #[.pointer (some ⟨10,49,none⟩)],.iface 182 (.agg #[.pointer (some ⟨10,49,none⟩)])]).run Tryz.prog w= .ok (.bool true) w:=by kernel_rfl
theorem BQ (w:World):(ReflectliteType.relation "AssignableTo" ReflectliteType.assignableTo #[.agg #[.pointer (some ⟨10,49,none⟩)],.iface 182 (.agg #[.pointer (some ⟨10,83,none⟩)])]).run Tryz.prog w= .ok (.bool false) w:=by kernel_rfl
theorem BR (w:World):(ReflectliteType.relation "AssignableTo" ReflectliteType.assignableTo #[.agg #[.pointer (some ⟨10,83,none⟩)],.iface 182 (.agg #[.pointer (some ⟨10,83,none⟩)])]).run Tryz.prog w= .ok (.bool true) w:=by kernel_rfl
theorem ahK (tb bb:Nat)(v0 old:Value)(h1:v0.oneCell'=true)(W:World)(hb:W.cell? ⟨bb,0,none⟩=some v0)(ht:W.cell? ⟨tb,0,none⟩=some old)(hf:W.frozen? ⟨tb,0,none⟩=false):
  (ReflectliteValue.set #[.agg #[.pointer (some ⟨10,83,none⟩),.pointer (some ⟨tb,0,none⟩),.int .u64 409],.agg #[.pointer (some ⟨10,83,none⟩),.pointer (some ⟨bb,0,none⟩),.int .u64 153]]).run Tryz.prog W
   = .ok (.tuple #[]) (W.setCell ⟨tb,0,none⟩ v0):=by
 rw[rls];simp only[Sem.run_bind,XQ,aae,Result.andThen];simp[ReflectliteValue.flagAddr,loadVar,isAgg,underlying,Tryz.underlying83,hb,Result.andThen,Vh,storeVar,Value.cells,storeCells,Addr.add,loadCells,loadCellsFrom];rw[run_store Tryz.prog W ⟨tb,0,none⟩ _ _ h1];simp[ht,hf]
theorem ahJ (tb bb:Nat)(v0 v1 o0 o1:Value)(h0:v0.oneCell'=true)(h1:v1.oneCell'=true)(W:World)(hb0:W.cell? ⟨bb,0,none⟩=some v0)(hb1:W.cell? ⟨bb,1,none⟩=some v1)(ht0:W.cell? ⟨tb,0,none⟩=some o0)(ht1:W.cell? ⟨tb,1,none⟩=some o1)(hf0:W.frozen? ⟨tb,0,none⟩=false)(hf1:W.frozen? ⟨tb,1,none⟩=false):
  (ReflectliteValue.set #[.agg #[.pointer (some ⟨10,49,none⟩),.pointer (some ⟨tb,0,none⟩),.int .u64 409],.agg #[.pointer (some ⟨10,49,none⟩),.pointer (some ⟨bb,0,none⟩),.int .u64 153]]).run Tryz.prog W
   = .ok (.tuple #[]) ((W.setCell ⟨tb,0,none⟩ v0).setCell ⟨tb,1,none⟩ v1):=by
 have hc:(W.setCell ⟨tb,0,none⟩ v0).cell? ⟨tb,1,none⟩=some o1:=by rw[World.cell?_setCell_other];exact ht1;intro e;injection e;omega
 rw[rls];simp only[Sem.run_bind,XP,aad,Result.andThen];simp[ReflectliteValue.flagAddr,loadVar,isAgg,underlying,Tryz.underlying49,hb0,hb1,Result.andThen,Vg,storeVar,Value.cells,storeCells,Addr.add,loadCells,loadCellsFrom];rw[run_store Tryz.prog W ⟨tb,0,none⟩ _ _ h0];simp[ht0,hf0];rw[run_store Tryz.prog _ ⟨tb,1,none⟩ _ _ h1];simp[hc,hf1]
theorem IP (w:World):(ReflectliteType.relation "Implements" ReflectliteType.implements_ #[.agg #[.pointer (some ⟨10,49,none⟩)],.iface 182 (.agg #[.pointer (some ⟨10,44,none⟩)])]).run Tryz.prog w= .ok (.bool true) w:=by kernel_rfl
theorem IQ (w:World):(ReflectliteType.relation "Implements" ReflectliteType.implements_ #[.agg #[.pointer (some ⟨10,83,none⟩)],.iface 182 (.agg #[.pointer (some ⟨10,44,none⟩)])]).run Tryz.prog w= .ok (.bool true) w:=by kernel_rfl
theorem UK (v0 v1 o0 o1:Value)(tb:Nat)(h0:v0.oneCell'=true)(h1:v1.oneCell'=true)(w:World)(hg:w.cell? ⟨1,0,none⟩=some (.iface 182 (.agg #[.pointer (some ⟨10,44,none⟩)])))(ht0:w.cell? ⟨tb,0,none⟩=some o0)(ht1:w.cell? ⟨tb,1,none⟩=some o1)(hf0:w.frozen? ⟨tb,0,none⟩=false)(hf1:w.frozen? ⟨tb,1,none⟩=false):
  Calls Tryz.prog 44 #[.iface 49 (.agg #[v0,v1]),.iface 86 (.pointer (some ⟨tb,0,none⟩))] w fun ev w'=>ev= .returned (.bool true)∧w'=((((((w.alloc (.cells #[.pointer (some ⟨tb,0,none⟩)] 86)).alloc (.cells #[.pointer (some ⟨10,86,none⟩),.pointer (some ⟨w.heap.size,0,none⟩),.int .u64 150] 116)).alloc (.cells #[.pointer (some ⟨10,86,none⟩),.pointer (some ⟨w.heap.size,0,none⟩),.int .u64 150] 116)).alloc (.cells #[v0,v1] 49)).setCell ⟨tb,0,none⟩ v0).setCell ⟨tb,1,none⟩ v1):=by
 have x80:= @run_callFunc_extern Tryz.prog 80 _ (fun args=>ReflectliteValue.unpack (args.getD 0 (.tuple #[]))) Tryz.func80 (by kernel_rfl) (by kernel_rfl) (by kernel_rfl) (by kernel_rfl);have x81:= @run_callFunc_extern Tryz.prog 81 _ (ReflectliteValue.methodAny (ReflectliteValue.valueError "reflectlite.Value.Type" 0) (fun t _ _ _=>ReflectliteType.toType t)) Tryz.func81 (by kernel_rfl) (by kernel_rfl) (by kernel_rfl) (by kernel_rfl);have x82:= @run_callFunc_extern Tryz.prog 82 _ (ReflectliteValue.method (ReflectliteValue.valueError "reflectlite.Value.IsNil" 0) ReflectliteValue.isNil) Tryz.func82 (by kernel_rfl) (by kernel_rfl) (by kernel_rfl) (by kernel_rfl);have anH:= @run_callFunc_extern Tryz.prog 281 _ (ReflectliteType.abiMethod fun t=>do pure (.int .u8 (←Rtype.kind t))) Tryz.func281 (by kernel_rfl) (by kernel_rfl) (by kernel_rfl) (by kernel_rfl);have anK:= @run_callFunc_extern Tryz.prog 295 _ (ReflectliteType.method ReflectliteType.elem) Tryz.func295 (by kernel_rfl) (by kernel_rfl) (by kernel_rfl) (by kernel_rfl);have anL:= @run_callFunc_extern Tryz.prog 296 _ (ReflectliteType.relation "Implements" ReflectliteType.implements_) Tryz.func296 (by kernel_rfl) (by kernel_rfl) (by kernel_rfl) (by kernel_rfl);have x84:= @run_callFunc_extern Tryz.prog 84 _ ReflectliteType.typeOf Tryz.func84 (by kernel_rfl) (by kernel_rfl) (by kernel_rfl) (by kernel_rfl);have anI:= @run_callFunc_extern Tryz.prog 293 _ (ReflectliteType.relation "AssignableTo" ReflectliteType.assignableTo) Tryz.func293 (by kernel_rfl) (by kernel_rfl) (by kernel_rfl) (by kernel_rfl);have anF:= @run_callFunc_extern Tryz.prog 119 _ (ReflectliteValue.method (ReflectliteValue.valueError "reflectlite.Value.Elem" 0) ReflectliteValue.elem) Tryz.func119 (by kernel_rfl) (by kernel_rfl) (by kernel_rfl) (by kernel_rfl);have anG:= @run_callFunc_extern Tryz.prog 120 _ ReflectliteValue.set Tryz.func120 (by kernel_rfl) (by kernel_rfl) (by kernel_rfl) (by kernel_rfl);have y1:=MQ;have y2:=methodAssignableTo;have y3:=BP;have y4:=TB;have y5:=TD;have y6:=type86;have y7:=methodKind;have y8:=methodElem;have y9:=methodImplements;have y10:=adq;have y11:=ado;have y12:=acp;have y13:=IP;obtain⟨W1,hW1⟩:∃W,w.alloc (.cells #[.pointer (some ⟨tb,0,none⟩)] 86)=W:=⟨_,rfl⟩;have hB1:Below w.heap.size w W1:=by rw[←hW1];exact ag (Below.refl _ _) _
 have n8:=ZZ ⟨w.heap.size,0,none⟩ ⟨tb,0,none⟩ ((w.alloc (.cells #[.pointer (some ⟨tb,0,none⟩)] 86)).alloc (.cells #[.pointer (some ⟨10,86,none⟩),.pointer (some ⟨w.heap.size,0,none⟩),.int .u64 150] 116)) (by simp);have V4:Below w.heap.size w ((w.alloc (.cells #[.pointer (some ⟨tb,0,none⟩)] 86)).alloc (.cells #[.pointer (some ⟨10,86,none⟩),.pointer (some ⟨w.heap.size,0,none⟩),.int .u64 150] 116)):=ag (ag (Below.refl _ _) _) _;have hg2:=cell_later V4 hg;have el:=Zp ⟨w.heap.size,0,none⟩ ⟨tb,0,none⟩ (((w.alloc (.cells #[.pointer (some ⟨tb,0,none⟩)] 86)).alloc (.cells #[.pointer (some ⟨10,86,none⟩),.pointer (some ⟨w.heap.size,0,none⟩),.int .u64 150] 116)).alloc (.cells #[.pointer (some ⟨10,86,none⟩),.pointer (some ⟨w.heap.size,0,none⟩),.int .u64 150] 116)) (by rw[World.cell?_alloc_lt _ _ ⟨w.heap.size,0,none⟩ (by simp;omega)];simp);have hBB:Below w.heap.size w ((((w.alloc (.cells #[.pointer (some ⟨tb,0,none⟩)] 86)).alloc (.cells #[.pointer (some ⟨10,86,none⟩),.pointer (some ⟨w.heap.size,0,none⟩),.int .u64 150] 116)).alloc (.cells #[.pointer (some ⟨10,86,none⟩),.pointer (some ⟨w.heap.size,0,none⟩),.int .u64 150] 116)).alloc (.cells #[v0,v1] 49)):=ag (ag V4 _) _;have htl:tb<w.heap.size:=World.block_lt_of_cell? _ _ ht0
 have st:=ahJ tb (w.heap.size+1+1+1) v0 v1 o0 o1 h0 h1 ((((w.alloc (.cells #[.pointer (some ⟨tb,0,none⟩)] 86)).alloc (.cells #[.pointer (some ⟨10,86,none⟩),.pointer (some ⟨w.heap.size,0,none⟩),.int .u64 150] 116)).alloc (.cells #[.pointer (some ⟨10,86,none⟩),.pointer (some ⟨w.heap.size,0,none⟩),.int .u64 150] 116)).alloc (.cells #[v0,v1] 49))
  (by rw[World.cell?_alloc_at _ _ _ _ (by simp)];rfl) (by rw[World.cell?_alloc_at _ _ _ _ (by simp)];rfl)
  (cell_later hBB ht0) (cell_later hBB ht1)
  (by rw[World.frozen?_alloc_old _ _ _ (by simp;omega),World.frozen?_alloc_old _ _ _ (by simp;omega),World.frozen?_alloc_old _ _ _ (by simp;omega),World.frozen?_alloc_old _ _ _ (Nat.ne_of_lt htl)];exact hf0)
  (by rw[World.frozen?_alloc_old _ _ _ (by simp;omega),World.frozen?_alloc_old _ _ _ (by simp;omega),World.frozen?_alloc_old _ _ _ (by simp;omega),World.frozen?_alloc_old _ _ _ (Nat.ne_of_lt htl)];exact hf1)
 clear hW1 hB1 V4 hBB;go_enter Tryz.func44,Tryz.ntmps44;go_wp2;refine wp_loop_rounds 1 ?_;rw[rounds_succ];go_wp2;go_ret;exact⟨rfl,rfl⟩
theorem He (v:Value)(w:World):(ReflectliteType.typeOf #[.iface 347 v]).run Tryz.prog w= .ok (.iface 182 (.agg #[.pointer (some ⟨10,347,none⟩)])) w:=by kernel_rfl
theorem wL (w:World):((ReflectliteType.method fun t=>do Rtype.noPackHeld "Comparable" t;(fun a=>Value.bool a.comparable)<$>typeInfo t) #[.agg #[.pointer (some ⟨10,347,none⟩)]]).run Tryz.prog w= .ok (.bool true) w:=by kernel_rfl
theorem XI (v:Value)(xT:TypeId)(w:World):(Instr.typeAssert (.iface 49 v) xT 194 true).run Tryz.prog w= .ok (.tuple #[.nilIface,.bool false]) w:=run_typeAssert_lacksB Tryz.underlying194 (by kernel_rfl) (by kernel_rfl) v xT w
theorem adu (v:Value)(xT:TypeId)(w:World):(Instr.typeAssert (.iface 83 v) xT 194 true).run Tryz.prog w= .ok (.tuple #[.nilIface,.bool false]) w:=run_typeAssert_lacksB Tryz.underlying194 (by kernel_rfl) (by kernel_rfl) v xT w
theorem adt (v:Value)(xT:TypeId)(w:World):(Instr.typeAssert (.iface 49 v) xT 186 true).run Tryz.prog w= .ok (.tuple #[.nilIface,.bool false]) w:=run_typeAssert_lacksB Tryz.underlying186 (by kernel_rfl) (by kernel_rfl) v xT w
theorem uC (v:Value)(xT:TypeId)(w:World):(Instr.typeAssert (.iface 49 v) xT 189 true).run Tryz.prog w= .ok (.tuple #[.iface 49 v,.bool true]) w:=run_typeAssert_hasB Tryz.underlying189 (by kernel_rfl) v xT w
theorem OD (v:Value)(xT:TypeId)(w:World):(Instr.typeAssert (.iface 83 v) xT 189 true).run Tryz.prog w= .ok (.tuple #[.nilIface,.bool false]) w:=run_typeAssert_lacksB Tryz.underlying189 (by kernel_rfl) (by kernel_rfl) v xT w
theorem Lt (v:Value)(xT:TypeId)(w:World):(Instr.typeAssert (.iface 83 v) xT 191 true).run Tryz.prog w= .ok (.tuple #[.nilIface,.bool false]) w:=run_typeAssert_lacksB Tryz.underlying191 (by kernel_rfl) (by kernel_rfl) v xT w
theorem methodUnwrap (v:Value)(w:World):(Go.method 490 49 v "Unwrap").run Tryz.prog w= .ok (285,v) w:=by kernel_rfl
theorem aht (cd v1:Value)(b:Addr)(w:World):
  Calls Tryz.prog 45 #[.iface 49 (.agg #[.iface 83 (.agg #[cd]),v1]),.iface 347 (.pointer (some b))] w fun e w'=>e= .returned (.bool false)∧Below w.heap.size w w':=by
 have x84:= @run_callFunc_extern Tryz.prog 84 _ ReflectliteType.typeOf Tryz.func84 (by kernel_rfl) (by kernel_rfl) (by kernel_rfl) (by kernel_rfl);have anJ:= @run_callFunc_extern Tryz.prog 294 _ (ReflectliteType.method fun t=>do Rtype.noPackHeld "Comparable" t;pure (.bool (←typeInfo t).comparable)) Tryz.func294 (by kernel_rfl) (by kernel_rfl) (by kernel_rfl) (by kernel_rfl);have y1:=He;have y2:=wL;have y3:=rD;have y4:=XI;have y5:=adu;have y6:=uC;have y7:=OD;have y8:=Lt;have y9:=methodUnwrap;have q1:=run_eql_iface_types (P:=Tryz.prog) 49 347 (.agg #[.iface 83 (.agg #[cd]),v1]) (.pointer (some b)) Tryz.underlying44 (by decide);have q2:=run_eql_iface_types (P:=Tryz.prog) 83 347 (.agg #[cd]) (.pointer (some b)) Tryz.underlying44 (by decide);go_enter Tryz.func45,Tryz.ntmps45;go_wp2;refine wp_loop_rounds 2 ?_;rw[rounds_succ];go_wp2;rw[rounds_succ];go_wp2;go_ret;exact⟨rfl,ag (Below.refl _ _) _⟩
theorem UL (cd v1 o0:Value)(tb:Nat)(h0:cd.oneCell'=true)(w:World)(hg:w.cell? ⟨1,0,none⟩=some (.iface 182 (.agg #[.pointer (some ⟨10,44,none⟩)])))(ht0:w.cell? ⟨tb,0,none⟩=some o0)(hf0:w.frozen? ⟨tb,0,none⟩=false):
  Calls Tryz.prog 44 #[.iface 49 (.agg #[.iface 83 (.agg #[cd]),v1]),.iface 88 (.pointer (some ⟨tb,0,none⟩))] w fun ev w'=>ev= .returned (.bool true)∧w'=(((((w.alloc (.cells #[.pointer (some ⟨tb,0,none⟩)] 88)).alloc (.cells #[.pointer (some ⟨10,88,none⟩),.pointer (some ⟨w.heap.size,0,none⟩),.int .u64 150] 116)).alloc (.cells #[.pointer (some ⟨10,88,none⟩),.pointer (some ⟨w.heap.size,0,none⟩),.int .u64 150] 116)).alloc (.cells #[.iface 83 (.agg #[cd]),v1] 49)).alloc (.cells #[cd] 83)).setCell ⟨tb,0,none⟩ cd:=by
 have x80:= @run_callFunc_extern Tryz.prog 80 _ (fun args=>ReflectliteValue.unpack (args.getD 0 (.tuple #[]))) Tryz.func80 (by kernel_rfl) (by kernel_rfl) (by kernel_rfl) (by kernel_rfl);have x81:= @run_callFunc_extern Tryz.prog 81 _ (ReflectliteValue.methodAny (ReflectliteValue.valueError "reflectlite.Value.Type" 0) (fun t _ _ _=>ReflectliteType.toType t)) Tryz.func81 (by kernel_rfl) (by kernel_rfl) (by kernel_rfl) (by kernel_rfl);have x82:= @run_callFunc_extern Tryz.prog 82 _ (ReflectliteValue.method (ReflectliteValue.valueError "reflectlite.Value.IsNil" 0) ReflectliteValue.isNil) Tryz.func82 (by kernel_rfl) (by kernel_rfl) (by kernel_rfl) (by kernel_rfl);have anH:= @run_callFunc_extern Tryz.prog 281 _ (ReflectliteType.abiMethod fun t=>do pure (.int .u8 (←Rtype.kind t))) Tryz.func281 (by kernel_rfl) (by kernel_rfl) (by kernel_rfl) (by kernel_rfl);have anK:= @run_callFunc_extern Tryz.prog 295 _ (ReflectliteType.method ReflectliteType.elem) Tryz.func295 (by kernel_rfl) (by kernel_rfl) (by kernel_rfl) (by kernel_rfl);have anL:= @run_callFunc_extern Tryz.prog 296 _ (ReflectliteType.relation "Implements" ReflectliteType.implements_) Tryz.func296 (by kernel_rfl) (by kernel_rfl) (by kernel_rfl) (by kernel_rfl);have x84:= @run_callFunc_extern Tryz.prog 84 _ ReflectliteType.typeOf Tryz.func84 (by kernel_rfl) (by kernel_rfl) (by kernel_rfl) (by kernel_rfl);have anI:= @run_callFunc_extern Tryz.prog 293 _ (ReflectliteType.relation "AssignableTo" ReflectliteType.assignableTo) Tryz.func293 (by kernel_rfl) (by kernel_rfl) (by kernel_rfl) (by kernel_rfl);have anF:= @run_callFunc_extern Tryz.prog 119 _ (ReflectliteValue.method (ReflectliteValue.valueError "reflectlite.Value.Elem" 0) ReflectliteValue.elem) Tryz.func119 (by kernel_rfl) (by kernel_rfl) (by kernel_rfl) (by kernel_rfl);have anG:= @run_callFunc_extern Tryz.prog 120 _ ReflectliteValue.set Tryz.func120 (by kernel_rfl) (by kernel_rfl) (by kernel_rfl) (by kernel_rfl);have y1:=MQ;have z1:=Yo;have y2:=methodAssignableTo;have y3:=BQ;have z3:=BR;have y4:=TC;have y5:=TE;have y6:=type88;have y7:=methodKind;have y8:=methodElem;have y9:=methodImplements;have y10:=adr;have y11:=adp;have y12:=acr;have y13:=IQ;have y14:=adt;have y15:=uC;have y16:=methodUnwrap;have n8:=Z4 ⟨w.heap.size,0,none⟩ ⟨tb,0,none⟩ ((w.alloc (.cells #[.pointer (some ⟨tb,0,none⟩)] 88)).alloc (.cells #[.pointer (some ⟨10,88,none⟩),.pointer (some ⟨w.heap.size,0,none⟩),.int .u64 150] 116)) (by simp);have V4:Below w.heap.size w ((w.alloc (.cells #[.pointer (some ⟨tb,0,none⟩)] 88)).alloc (.cells #[.pointer (some ⟨10,88,none⟩),.pointer (some ⟨w.heap.size,0,none⟩),.int .u64 150] 116)):=ag (ag (Below.refl _ _) _) _;have hg2:=cell_later V4 hg;have el:=Zq ⟨w.heap.size,0,none⟩ ⟨tb,0,none⟩ ((((w.alloc (.cells #[.pointer (some ⟨tb,0,none⟩)] 88)).alloc (.cells #[.pointer (some ⟨10,88,none⟩),.pointer (some ⟨w.heap.size,0,none⟩),.int .u64 150] 116)).alloc (.cells #[.pointer (some ⟨10,88,none⟩),.pointer (some ⟨w.heap.size,0,none⟩),.int .u64 150] 116)).alloc (.cells #[.iface 83 (.agg #[cd]),v1] 49)) (by rw[World.cell?_alloc_lt _ _ ⟨w.heap.size,0,none⟩ (by simp;omega),World.cell?_alloc_lt _ _ ⟨w.heap.size,0,none⟩ (by simp;omega)];simp);have hBB:Below w.heap.size w (((((w.alloc (.cells #[.pointer (some ⟨tb,0,none⟩)] 88)).alloc (.cells #[.pointer (some ⟨10,88,none⟩),.pointer (some ⟨w.heap.size,0,none⟩),.int .u64 150] 116)).alloc (.cells #[.pointer (some ⟨10,88,none⟩),.pointer (some ⟨w.heap.size,0,none⟩),.int .u64 150] 116)).alloc (.cells #[.iface 83 (.agg #[cd]),v1] 49)).alloc (.cells #[cd] 83)):=ag (ag (ag V4 _) _) _;have htl:tb<w.heap.size:=World.block_lt_of_cell? _ _ ht0
 have st:=ahK tb (w.heap.size+1+1+1+1) cd o0 h0 (((((w.alloc (.cells #[.pointer (some ⟨tb,0,none⟩)] 88)).alloc (.cells #[.pointer (some ⟨10,88,none⟩),.pointer (some ⟨w.heap.size,0,none⟩),.int .u64 150] 116)).alloc (.cells #[.pointer (some ⟨10,88,none⟩),.pointer (some ⟨w.heap.size,0,none⟩),.int .u64 150] 116)).alloc (.cells #[.iface 83 (.agg #[cd]),v1] 49)).alloc (.cells #[cd] 83))
  (by rw[World.cell?_alloc_at _ _ _ _ (by simp)];rfl)
  (cell_later hBB ht0)
  (by rw[World.frozen?_alloc_old _ _ _ (by simp;omega),World.frozen?_alloc_old _ _ _ (by simp;omega),World.frozen?_alloc_old _ _ _ (by simp;omega),World.frozen?_alloc_old _ _ _ (by simp;omega),World.frozen?_alloc_old _ _ _ (Nat.ne_of_lt htl)];exact hf0)
 clear V4 hBB;go_enter Tryz.func44,Tryz.ntmps44;go_wp2;refine wp_loop_rounds 2 ?_;rw[rounds_succ];go_wp2;rw[rounds_succ];go_wp2;go_ret;exact⟨rfl,rfl⟩
end As
end Go.Proofs.YthbdjmopolpjmaaGreatDoor.C
namespace Go.Proofs.YthbdjmopolpjmaaGreatDoor.C
open Go.RowKit Go.Proofs.YthbdjmopolpjmaaGreatDoorW.PrintWords Go.Proofs.YthbdjmopolpjmaaGreatDoorW.PrintLast Go.Proofs.YthbdjmopolpjmaaGreatDoorW.PrintMore Go.Proofs.YthbdjmopolpjmaaGreatDoor.F Go.Proofs.YthbdjmopolpjmaaGreatDoor.M
def BI (w:World):Prop:=(∃b,w.cell? ⟨0,0,none⟩=some (.iface 347 (.pointer (some b))))∧w.cell? ⟨1,0,none⟩=some (.iface 182 (.agg #[.pointer (some ⟨10,44,none⟩)]))
theorem BI.below {w w1:World}(h:BI w)(hb:Below w.heap.size w w1):BI w1:=by
 obtain⟨⟨b,h0⟩,h1⟩:=h;exact⟨⟨b,cell_later hb h0⟩,cell_later hb h1⟩
theorem FU (v0 v1:Value)(w0 w:World)(h0:v0.oneCell'=true)(h1:v1.oneCell'=true)(hw:w=w0.alloc (.cells #[.nilIface,.int .i64 0] 49))(hg:BI w0):
  Calls Tryz.prog 44 #[.iface 49 (.agg #[v0,v1]),.iface 86 (.pointer (some ⟨w0.heap.size,0,none⟩))] w fun e w'=>e= .returned (.bool true)∧w'.cell? ⟨w0.heap.size,1,none⟩=some v1∧Below w0.heap.size w0 w':=by
 subst hw;have hb:Below w0.heap.size w0 (w0.alloc (.cells #[.nilIface,.int .i64 0] 49)):=ag (Below.refl _ _) _;refine(As.UK v0 v1 .nilIface (.int .i64 0) w0.heap.size h0 h1 _ (hg.below hb).2 (by simp) (by simp) (by simp) (by simp)).mono fun e w' ⟨he,hw⟩=>⟨he,?_,?_⟩
 ·subst hw
  have key:∀X:World,Below (w0.alloc (.cells #[.nilIface,.int .i64 0] 49)).heap.size (w0.alloc (.cells #[.nilIface,.int .i64 0] 49)) X→((X.setCell ⟨w0.heap.size,0,none⟩ v0).setCell ⟨w0.heap.size,1,none⟩ v1).cell? ⟨w0.heap.size,1,none⟩=some v1:=by
   intro X hX;have h2:=(hX.block w0.heap.size (by simp)).trans (bZ w0 _);have h3:=aN (aN h2 0 v0) 1 v1;exact(aj h3 1).trans (by simp)
  exact key _ (ag (ag (ag (ag (Below.refl _ _) _) _) _) _)
 ·subst hw;refine Below.setCell (p:=⟨w0.heap.size,1,none⟩) (Below.setCell (p:=⟨w0.heap.size,0,none⟩) ?_ (Nat.le_refl _) _) (Nat.le_refl _) _;exact ag (ag (ag (ag hb _) _) _) _
theorem QZ (cd v1:Value)(w0 w:World)(h0:cd.oneCell'=true)(hw:w=w0.alloc (.cells #[.int .i64 0] 83))(hg:BI w0):
  Calls Tryz.prog 44 #[.iface 49 (.agg #[.iface 83 (.agg #[cd]),v1]),.iface 88 (.pointer (some ⟨w0.heap.size,0,none⟩))] w fun e w'=>e= .returned (.bool true)∧w'.cell? ⟨w0.heap.size,0,none⟩=some cd∧Below w0.heap.size w0 w':=by
 subst hw;have hb:Below w0.heap.size w0 (w0.alloc (.cells #[.int .i64 0] 83)):=ag (Below.refl _ _) _;refine(As.UL cd v1 (.int .i64 0) w0.heap.size h0 _ (hg.below hb).2 (by simp) (by simp)).mono fun e w' ⟨he,hw⟩=>⟨he,?_,?_⟩
 ·subst hw
  have key:∀X:World,Below (w0.alloc (.cells #[.int .i64 0] 83)).heap.size (w0.alloc (.cells #[.int .i64 0] 83)) X→(X.setCell ⟨w0.heap.size,0,none⟩ cd).cell? ⟨w0.heap.size,0,none⟩=some cd:=by
   intro X hX;have h2:=(hX.block w0.heap.size (by simp)).trans (bZ w0 _);exact(aj (aN h2 0 cd) 0).trans (by simp)
  exact key _ (ag (ag (ag (ag (ag (Below.refl _ _) _) _) _) _) _)
 ·subst hw;refine Below.setCell (p:=⟨w0.heap.size,0,none⟩) ?_ (Nat.le_refl _) _;exact ag (ag (ag (ag (ag hb _) _) _) _) _
theorem G6 (n at_:Int)(w:World)(hg:BI w):
  Calls Tryz.prog 21 #[.iface 49 (.agg #[.iface 83 (.agg #[.int .i64 n]),.int .i64 at_])] w fun e w'=>e= .returned (.tuple #[.int .i64 n,.int .i64 at_])∧Below w.heap.size w w':=by
 have HG:=zM hg;clear hg;go_enter Tryz.func21,Tryz.ntmps21;go_wp2_with fail;refine(FU (.iface 83 (.agg #[.int .i64 n])) (.int .i64 at_) w _ rfl rfl rfl HG.out).mono ?_;rintro e w1 ⟨rfl,h1,h2⟩;obtain⟨b,hE⟩:=(HG.out.below h2).1;have H1:=zM h2;clear h2;go_wp2_with fail;refine(As.aht (.int .i64 n) (.int .i64 at_) b _).mono ?_;rintro e w2 ⟨rfl,h3⟩;have H2:=zM (ah H1.out H1.out.size h3);clear h3 hE h1;go_wp2_with fail;refine(QZ (.int .i64 n) (.int .i64 at_) w2 _ rfl rfl (HG.out.below H2.out)).mono ?_;rintro e w3 ⟨rfl,h4,h5⟩;have H3:=zM (ah H2.out H2.out.size h5);clear h5;go_wp2_with fail;go_ret2;exact⟨rfl,H3.out⟩
def Pow (w:World):Prop:=Lib.TabIs Tryz.prog w "internal/strconv.uint64pow10" .u64 Lib.pow10Tab
theorem Pow.below {w w1:World}(h:Pow w)(hb:Below w.heap.size w w1):Pow w1:=Lib.tabBelow_of_tabIs h w1 hb
theorem zW (n:Int)(w:World)(h:Pow w)(h0: -9223372036854775808≤n)(h1:n≤9223372036854775807):Calls Tryz.prog 31 #[.int .i64 n] w fun e w'=>e= .returned (.string ⟨(Lib.itoa n).toArray⟩)∧Below w.heap.size w w':=
 (Tryz.strconv_Itoa n h0 h1 w h).mono fun e w' ⟨he,k,os,hw⟩=>⟨he,hw▸Lib.below_grow w.heap.size w (Nat.le_refl _) k os⟩
structure Fits (x:iU):Prop where
 ok:iK x=0
 s1:x.f1.size≤1048576
 s4:x.f4.size≤1048576
theorem Fits.bounds {x:iU}(h:Fits x):Bounds x:=Classical.byContradiction fun hb=>by have:=h.ok;rw[fG hb]at this;exact absurd this (by decide)
theorem Fits.rat {x:iU}(h:Fits x):kL x.f2.f0 x.f2.f1∧kL x.f3.f0 x.f3.f1:=Classical.byContradiction fun hb=>by have:=h.ok;rw[lG h.bounds hb]at this;exact absurd this (by decide)
theorem VJ (x:iU)(A:Option Addr)(c:Nat)(w:World)(hf:Fits x)(hp:Pow w):Calls Tryz.prog 46 #[EV x A c] w fun e w'=>e= .returned (.string (⟨(Lib.itoa x.f0).toArray⟩))∧Below w.heap.size w w':=by
 have HB:=zM (ag (Below.refl w.heap.size w) (.cells #[.int .i64 x.f0,.string x.f1,.string x.f2.f0,.string x.f2.f1,.string x.f3.f0,.string x.f3.f1,.string x.f4,.int .i64 x.f5,.slice A x.f6.length c,.int .i64 x.f7,.bool x.f8] 55));have HF:=zM hf;have HP:=zM hp;clear hf hp;go_enter Tryz.func46,Tryz.ntmps46;unfold EV;go_wp2_with fail;refine(zW x.f0 _ (HP.out.below HB.out) (by have:=HF.out.bounds;unfold Bounds at this;omega) (by have:=HF.out.bounds;unfold Bounds at this;omega)).mono ?_;rintro e w1 ⟨rfl,hb⟩;have H1:=zM (ah HB.out (by simp) hb);clear hb;go_wp2_with fail;go_ret;exact⟨rfl,H1.out⟩
theorem VK (x:iU)(A:Option Addr)(c:Nat)(w:World)(hf:Fits x)(hp:Pow w):Calls Tryz.prog 47 #[EV x A c] w fun e w'=>e= .returned (.string (⟨(Lib.itoa x.f7).toArray⟩))∧Below w.heap.size w w':=by
 have HB:=zM (ag (Below.refl w.heap.size w) (.cells #[.int .i64 x.f0,.string x.f1,.string x.f2.f0,.string x.f2.f1,.string x.f3.f0,.string x.f3.f1,.string x.f4,.int .i64 x.f5,.slice A x.f6.length c,.int .i64 x.f7,.bool x.f8] 55));have HF:=zM hf;have HP:=zM hp;clear hf hp;go_enter Tryz.func47,Tryz.ntmps47;unfold EV;go_wp2_with fail;refine(zW x.f7 _ (HP.out.below HB.out) (by have:=HF.out.bounds;unfold Bounds at this;omega) (by have:=HF.out.bounds;unfold Bounds at this;omega)).mono ?_;rintro e w1 ⟨rfl,hb⟩;have H1:=zM (ah HB.out (by simp) hb);clear hb;go_wp2_with fail;go_ret;exact⟨rfl,H1.out⟩
theorem VL (x:iU)(A:Option Addr)(c:Nat)(w:World)(hf:Fits x)(hp:Pow w):Calls Tryz.prog 48 #[EV x A c] w fun e w'=>e= .returned (.string (⟨(Lib.itoa x.f5).toArray⟩))∧Below w.heap.size w w':=by
 have HB:=zM (ag (Below.refl w.heap.size w) (.cells #[.int .i64 x.f0,.string x.f1,.string x.f2.f0,.string x.f2.f1,.string x.f3.f0,.string x.f3.f1,.string x.f4,.int .i64 x.f5,.slice A x.f6.length c,.int .i64 x.f7,.bool x.f8] 55));have HF:=zM hf;have HP:=zM hp;clear hf hp;go_enter Tryz.func48,Tryz.ntmps48;unfold EV;go_wp2_with fail;refine(zW x.f5 _ (HP.out.below HB.out) (by have:=HF.out.bounds;unfold Bounds at this;omega) (by have:=HF.out.bounds;unfold Bounds at this;omega)).mono ?_;rintro e w1 ⟨rfl,hb⟩;have H1:=zM (ah HB.out (by simp) hb);clear hb;go_wp2_with fail;go_ret;exact⟨rfl,H1.out⟩
theorem VM (x:iU)(A:Option Addr)(c:Nat)(w:World)(hf:Fits x)(hp:Pow w):Calls Tryz.prog 49 #[EV x A c] w fun e w'=>e= .returned (.string ⟨(if x.f8 then #[120]else #[43])⟩)∧Below w.heap.size w w':=by
 have HB:=zM (ag (Below.refl w.heap.size w) (.cells #[.int .i64 x.f0,.string x.f1,.string x.f2.f0,.string x.f2.f1,.string x.f3.f0,.string x.f3.f1,.string x.f4,.int .i64 x.f5,.slice A x.f6.length c,.int .i64 x.f7,.bool x.f8] 55));clear hf hp;cases hb:x.f8 with
 |false=>
  rw[hb]at HB;go_enter Tryz.func49,Tryz.ntmps49;unfold EV;rw[hb];clear hb;go_wp2_with fail;go_ret;exact⟨rfl,HB.out⟩
 |true=>
  rw[hb]at HB;go_enter Tryz.func49,Tryz.ntmps49;unfold EV;rw[hb];clear hb;go_wp2_with fail;go_ret;exact⟨rfl,HB.out⟩
theorem VN (x:iU)(A:Option Addr)(c:Nat)(w:World)(hf:Fits x)(hp:Pow w):Calls Tryz.prog 50 #[EV x A c] w fun e w'=>e= .returned (.string (esc x.f1))∧Below w.heap.size w w':=by
 have HB:=zM (ag (Below.refl w.heap.size w) (.cells #[.int .i64 x.f0,.string x.f1,.string x.f2.f0,.string x.f2.f1,.string x.f3.f0,.string x.f3.f1,.string x.f4,.int .i64 x.f5,.slice A x.f6.length c,.int .i64 x.f7,.bool x.f8] 55));have HF:=zM hf;have HP:=zM hp;clear hf hp;go_enter Tryz.func50,Tryz.ntmps50;unfold EV;go_wp2_with fail;refine(qR x.f1 _ (by have:=HF.out.s1;omega)).mono ?_;rintro e w1 ⟨rfl,hb⟩;have H1:=zM (ah HB.out (by simp) hb);clear hb;go_wp2_with fail;go_ret;exact⟨rfl,H1.out⟩
theorem VO (x:iU)(A:Option Addr)(c:Nat)(w:World)(hf:Fits x)(hp:Pow w):Calls Tryz.prog 51 #[EV x A c] w fun e w'=>e= .returned (.string (mf x.f2.f0 x.f2.f1))∧Below w.heap.size w w':=by
 have HB:=zM (ag (Below.refl w.heap.size w) (.cells #[.int .i64 x.f0,.string x.f1,.string x.f2.f0,.string x.f2.f1,.string x.f3.f0,.string x.f3.f1,.string x.f4,.int .i64 x.f5,.slice A x.f6.length c,.int .i64 x.f7,.bool x.f8] 55));have HF:=zM hf;have HP:=zM hp;clear hf hp;go_enter Tryz.func51,Tryz.ntmps51;unfold EV;go_wp2_with fail;refine(xK x.f2.f0 x.f2.f1 _ HF.out.rat.1).mono ?_;rintro e w1 ⟨rfl,hb⟩;have H1:=zM (ah HB.out (by simp) hb);clear hb;go_wp2_with fail;go_ret;exact⟨rfl,H1.out⟩
theorem VP (x:iU)(A:Option Addr)(c:Nat)(w:World)(hf:Fits x)(hp:Pow w):Calls Tryz.prog 52 #[EV x A c] w fun e w'=>e= .returned (.string (mf x.f3.f0 x.f3.f1))∧Below w.heap.size w w':=by
 have HB:=zM (ag (Below.refl w.heap.size w) (.cells #[.int .i64 x.f0,.string x.f1,.string x.f2.f0,.string x.f2.f1,.string x.f3.f0,.string x.f3.f1,.string x.f4,.int .i64 x.f5,.slice A x.f6.length c,.int .i64 x.f7,.bool x.f8] 55));have HF:=zM hf;have HP:=zM hp;clear hf hp;go_enter Tryz.func52,Tryz.ntmps52;unfold EV;go_wp2_with fail;refine(xK x.f3.f0 x.f3.f1 _ HF.out.rat.2).mono ?_;rintro e w1 ⟨rfl,hb⟩;have H1:=zM (ah HB.out (by simp) hb);clear hb;go_wp2_with fail;go_ret;exact⟨rfl,H1.out⟩
theorem VQ (x:iU)(A:Option Addr)(c:Nat)(w:World)(hf:Fits x)(hp:Pow w):Calls Tryz.prog 53 #[EV x A c] w fun e w'=>e= .returned (.string (esc x.f4))∧Below w.heap.size w w':=by
 have HB:=zM (ag (Below.refl w.heap.size w) (.cells #[.int .i64 x.f0,.string x.f1,.string x.f2.f0,.string x.f2.f1,.string x.f3.f0,.string x.f3.f1,.string x.f4,.int .i64 x.f5,.slice A x.f6.length c,.int .i64 x.f7,.bool x.f8] 55));have HF:=zM hf;have HP:=zM hp;clear hf hp;go_enter Tryz.func53,Tryz.ntmps53;unfold EV;go_wp2_with fail;refine(qR x.f4 _ (by have:=HF.out.s4;omega)).mono ?_;rintro e w1 ⟨rfl,hb⟩;have H1:=zM (ah HB.out (by simp) hb);clear hb;go_wp2_with fail;go_ret;exact⟨rfl,H1.out⟩
def fns:Array Value:= #[.func (.func 46) #[] #[],.func (.func 47) #[] #[],.func (.func 48) #[] #[],.func (.func 49) #[] #[],.func (.func 50) #[] #[],.func (.func 51) #[] #[],.func (.func 52) #[] #[],.func (.func 53) #[] #[]]
theorem Js (w:World):Calls Tryz.prog 22 #[] w fun e w'=>e= .returned (.slice (some ⟨w.heap.size,0,none⟩) 8 8)∧w.alloc (.cells fns 53)=w':=by
 go_enter Tryz.func22,Tryz.ntmps22;go_wp2_with fail;go_ret;exact⟨rfl,rfl⟩
theorem Yb {w:World}{base:Nat}{ok:Nat→Prop}{v:Value}{ts:List ByteArray}(h:Kd.string.R 9 w base ok v ts)(hn:ts≠[]):∃g c,v= .slice (some ⟨g,0,none⟩) ts.length c∧ts.length≤c∧g<w.heap.size∧∀(j:Nat) x,ts[j]?=some x→w.cell? ⟨g,0+j,none⟩=some (.string x):=by
 have ho:=Kd.jd h;rcases ho.2 with⟨_,he⟩|⟨g,cap,cur,rfl,ht,hh,hl,hm,hx⟩
 ·exact absurd (List.eq_nil_of_length_eq_zero he) hn
 ·refine⟨g,cap,rfl,by omega,dV hh,fun j x hj=>?_⟩;rw[Nat.zero_add,aj hh j];obtain⟨hjl,hjx⟩:=List.getElem?_eq_some_iff.1 hj;have hx2:=hx.2;have h1:(cur.toList.take (ts.length*1))[j]?=(encs Value.string ts)[j]?:=by rw[←hx2]
  rw[List.getElem?_take]at h1;simp[hjl,encs,hj]at h1;rw[←hjx];simpa using h1
theorem KU (v:Value)(ts:List ByteArray)(base:Nat)(ok:Nat→Prop)(w:World)(hR:Kd.string.R 9 w base ok v ts)(hn:ts≠[])(hl:ts.length≤140737488355328)(hb:(RY ts).length≤140737488355328):
  Calls Tryz.prog 24 #[v] w fun e w'=>e= .returned (.string (jn ts))∧Below w.heap.size w w':=by
 obtain⟨g,c,rfl,hc,hg,hcells⟩:=Yb hR hn
 have hlen:(Lib.join (ts.map (·.data.toList)) (⟨#[9]⟩:ByteArray).data.toList).length≤140737488355328:=by
  have h1:(RY ts).length=(jn ts).size:=by rw[←xq,bytesOf_length]
  have h2:(jn ts).size=(Lib.join (ts.map (·.data.toList)) [9]).length:=by
   rw[←bV];simp[jn]
  have h3:(⟨#[9]⟩:ByteArray).data.toList=[9]:=rfl;rw[h3,←h2,←h1];exact hb
 have HJ:=zM (Tryz.strings_Join g 0 c ts ⟨#[9]⟩ w hcells hg hl hc hlen);clear hcells hg hl hc hlen hR hb hn;go_enter Tryz.func24,Tryz.ntmps24;go_wp2_with fail;refine HJ.out.mono ?_;rintro e w1 ⟨rfl,hb⟩;have HB:=zM hb;clear hb;go_wp2_with fail;go_ret;exact⟨rfl,HB.out⟩
end Go.Proofs.YthbdjmopolpjmaaGreatDoor.C
namespace Go.Proofs.YthbdjmopolpjmaaGreatDoor.M
open Go.RowKit Go.Proofs.YthbdjmopolpjmaaGreatDoorW.PrintWords Go.Proofs.YthbdjmopolpjmaaGreatDoorW.PrintLast Go.Proofs.YthbdjmopolpjmaaGreatDoorW.PrintMore Go.Proofs.YthbdjmopolpjmaaGreatDoor.F Go.Proofs.YthbdjmopolpjmaaGreatDoor.C
theorem Zk (u:Nat):(Lib.decDigits u).length≤u+1:=by
 induction u using Nat.strongRecOn with
 |ind u ih=>
  by_cases h:u<10
  ·rw[Lib.decDigits_one h];simp
  ·rw[Lib.decDigits,dif_neg h];have:=ih (u/10) (by omega);simp;omega
theorem Xr {n:Int}(h0:0≤n)(h1:n≤1000000):(Lib.itoa n).length≤1000001:=by
 unfold Lib.itoa;rw[if_neg (by omega)];have:=Zk n.toNat;omega
theorem zX {n:Int}(h0:0≤n)(h1:n≤1000000):(⟨(Lib.itoa n).toArray⟩:ByteArray).size≤1000001:=by
 rw[←bV];simpa using Xr h0 h1
theorem GN {n d:ByteArray}(h:kL n d):(mf n d).size≤1300:=by
 have hs:=h.sizes;unfold mf;split
 ·omega
 ·simp only[ByteArray.size_append];have:(⟨#[47]⟩:ByteArray).size=1:=rfl;omega
theorem Z5:∀(ts:List ByteArray) (b:Nat),(∀t∈ts,t.size≤b)→(RY ts).length≤ts.length*(b+1)
 | [],_,_=>by simp[RY]
 |t::ts,b,h=>by
  have h1:∀(ts:List ByteArray),(∀t∈ts,t.size≤b)→(ts.flatMap (fun t=>9::bytesOf t)).length≤ts.length*(b+1):=by
   intro ts
   induction ts with
   |nil=>intro _;simp
   |cons u ts ih=>
    intro h;have h2:=ih (fun t ht=>h t (List.mem_cons_of_mem _ ht));have h3:=h u List.mem_cons_self;simp only[List.flatMap_cons,List.length_append,List.length_cons,bytesOf_length]at h2⊢;rw[Nat.add_mul,Nat.one_mul];omega
  have h2:=h1 ts (fun t ht=>h t (List.mem_cons_of_mem _ ht));have h3:=h t List.mem_cons_self;simp only[RY,List.length_append,List.length_cons,bytesOf_length];rw[Nat.add_mul,Nat.one_mul];omega
structure Small (x:iU):Prop where
 s1:x.f1.size≤1048576
 s4:x.f4.size≤1048576
 s6:∀t∈x.f6,t.size≤1048576
noncomputable def eight (x:iU):List ByteArray:=[⟨(Lib.itoa x.f0).toArray⟩,⟨(Lib.itoa x.f7).toArray⟩,⟨(Lib.itoa x.f5).toArray⟩,⟨(if x.f8 then #[120]else #[43])⟩,esc x.f1,mf x.f2.f0 x.f2.f1,mf x.f3.f0 x.f3.f1,esc x.f4]
theorem parts_eq (x:iU):parts x=eight x++x.f6.map esc:=rfl
theorem Jm {x:iU}(h:iK x=0):x.f6.length≤8:=by
 refine Classical.byContradiction fun hn=>?_
 have hb:Bounds x:=Classical.byContradiction fun hb=>by rw[fG hb]at h;exact absurd h (by decide)
 have hr:kL x.f2.f0 x.f2.f1∧kL x.f3.f0 x.f3.f1:=Classical.byContradiction fun hr=>by rw[lG hb hr]at h;exact absurd h (by decide)
 by_cases hm:minus x.f3.f0=true
 ·rw[rQ hb hr hm]at h;exact absurd h (by decide)
 ·rw[uZ hb hr hm (by omega)]at h;exact absurd h (by decide)
theorem Small.fits {x:iU}(h:Small x)(h0:iK x=0):Fits x:=⟨h0,h.s1,h.s4⟩
theorem SQ {x:iU}(h:Small x)(h0:iK x=0):∀t∈parts x,t.size≤2097152:=by
 have hf:=h.fits h0;have hb:=hf.bounds;unfold Bounds at hb;have hr:=hf.rat;intro t ht;rw[parts_eq]at ht;rcases List.mem_append.1 ht with ht|ht
 ·simp only[eight,List.mem_cons,List.not_mem_nil,or_false]at ht;have e1:=DV x.f1;have e4:=DV x.f4;have:=h.s1;have:=h.s4;have i0:=zX (n:=x.f0) (by omega) (by omega);have i7:=zX (n:=x.f7) (by omega) (by omega);have i5:=zX (n:=x.f5) (by omega) (by omega);have r2:=GN hr.1;have r3:=GN hr.2;rcases ht with rfl|rfl|rfl|rfl|rfl|rfl|rfl|rfl
  ·omega
  ·omega
  ·omega
  ·cases x.f8<;>decide
  ·omega
  ·omega
  ·omega
  ·omega
 ·obtain⟨u,hu,rfl⟩:=List.mem_map.1 ht;have:=DV u;have:=h.s6 u hu;omega
theorem GL {x:iU}(h0:iK x=0):(parts x).length≤16∧8≤(parts x).length:=by
 have:=Jm h0;simp[parts_eq,eight];omega
theorem Ef {x:iU}(h:Small x)(h0:iK x=0):(RY (parts x)).length≤33554448:=by
 have h1:=Z5 (parts x) 2097152 (SQ h h0);have h2:=(GL h0).1;have h3:(parts x).length*(2097152+1)≤16*(2097152+1):=Nat.mul_le_mul_right _ h2;omega
theorem XR (x:iU):parts x≠[]:=by simp[parts_eq,eight]
theorem xU {l:List iU}{j:Nat}(h:j<l.length):aX l (j:Int)=l[j]'h:=by
 simp[aX,h]
theorem aaf {l:List iU}{j:Nat}(hj:j<l.length)(h0:∀k:Nat,k<j→iK (aX l (k:Int))=0)(h1:iK (aX l (j:Int))≠0):prt l=(⟨#[]⟩,iK (aX l (j:Int)),(j:Int)):=by
 unfold prt;have h:=ac9 (l:=l) (j:=j) 0 hj (fun k hk=>by have:=h0 k hk;rw[xU (by omega)]at this;exact this) (by rw[xU hj]at h1;exact h1);rw[h,xU hj];simp
theorem NR {l:List iU}(h0:∀k:Nat,k<l.length→iK (aX l (k:Int))=0):bad l 0=none:=by
 rw[UN];intro x hx;obtain⟨k,hk,rfl⟩:=List.getElem_of_mem hx;have:=h0 k hk;rw[xU hk]at this;exact this
theorem XW {l:List iU}(h0:∀k:Nat,k<l.length→iK (aX l (k:Int))=0)(h1:4096<l.length):prt l=(⟨#[]⟩,4,0):=by
 unfold prt;rw[NR h0];simp only;rw[if_pos h1]
theorem XV {l:List iU}(h0:∀k:Nat,k<l.length→iK (aX l (k:Int))=0)(h1:¬4096<l.length)(i:Nat)(h2:65536<(lines (l.take i)).length):prt l=(⟨#[]⟩,4,0):=by
 have h3:=EZ l i;unfold prt;rw[NR h0];simp only;rw[if_neg h1,if_pos (by omega)]
theorem XX {l:List iU}(h0:∀k:Nat,k<l.length→iK (aX l (k:Int))=0)(h1:¬4096<l.length)(h2:¬65536<(lines l).length):prt l=(strOfNums (lines l),0,0):=by
 unfold prt;rw[NR h0];simp only;rw[if_neg h1,if_neg h2]
def kn:iU:=⟨1,⟨#[108,101,110,103,116,104]⟩,⟨⟨#[53]⟩,⟨#[49]⟩⟩,⟨⟨#[48]⟩,⟨#[49]⟩⟩,⟨#[109]⟩,3,[],0,false⟩
theorem QC (c:UInt8)(h0:48≤(c.toNat:Int))(h1:(c.toNat:Int)≤57):lU ⟨#[c]⟩:=by
 have hs:(⟨#[c]⟩:ByteArray).size=1:=rfl;refine⟨by rw[hs];omega,by rw[hs];omega,fun _=>by rw[hs];omega,?_⟩;intro x hx;have:bytesOf ⟨#[c]⟩=[(c.toNat:Int)]:=rfl;rw[this]at hx;obtain rfl:=List.mem_singleton.1 hx;exact⟨h0,h1⟩
theorem GH (c:UInt8)(h:(c.toNat:Int)≠45):minus ⟨#[c]⟩=false:=by
 unfold minus;refine decide_eq_false (fun hh=>h ?_);exact hh.2
theorem Iz (c:UInt8):dv ⟨#[c]⟩=(c.toNat:Int)- 48:=by
 have:bytesOf ⟨#[c]⟩=[(c.toNat:Int)]:=rfl;unfold dv;rw[this];simp[dec]
theorem QF (c:UInt8)(h0:48≤(c.toNat:Int))(h1:(c.toNat:Int)≤57):kL ⟨#[c]⟩ ⟨#[49]⟩:=by
 have hm:=GH c (by omega);have hb:body ⟨#[c]⟩=⟨#[c]⟩:=by unfold body;rw[hm];rfl
 have hd:dv ⟨#[49]⟩=1:=by rw[Iz];rfl
 refine⟨⟨by rw[hb];exact QC c h0 h1,fun h=>by rw[hm]at h;cases h⟩,QC 49 (by decide) (by decide),by rw[hd];decide,?_⟩;rw[hb,hd,ja];simp
theorem LV (c:UInt8):mf ⟨#[c]⟩ ⟨#[49]⟩=⟨#[c]⟩:=if_pos (by rw[ByteArray.toList_eq];rfl)
theorem Xw:Small kn:=⟨by show(6:Nat)≤_;omega,by show(1:Nat)≤_;omega,fun t ht=>by cases ht⟩
theorem ahA:iK kn=0:=CQ (by unfold Bounds;decide) ⟨QF 53 (by decide) (by decide),QF 48 (by decide) (by decide)⟩ (by
 show¬minus ⟨#[48]⟩=true
 rw[GH 48 (by decide)]
 decide) (by show¬(8<0);decide)
theorem Ed (n:Nat)(h:n<10):Lib.itoa (n:Int)=[UInt8.ofNat (48+n)]:=by
 unfold Lib.itoa;rw[if_neg (by omega)];simp only[Int.toNat_natCast];exact Lib.decDigits_one h
theorem Qy:line kn=[49,9,48,9,51,9,43,9,108,101,110,103,116,104,9,53,9,48,9,109,10]:=by
 have e1:(⟨(Lib.itoa kn.f0).toArray⟩:ByteArray)=⟨#[49]⟩:=by show(⟨(Lib.itoa ((1:Nat):Int)).toArray⟩:ByteArray)=_;rw[Ed 1 (by omega)];rfl
 have e2:(⟨(Lib.itoa kn.f7).toArray⟩:ByteArray)=⟨#[48]⟩:=by show(⟨(Lib.itoa ((0:Nat):Int)).toArray⟩:ByteArray)=_;rw[Ed 0 (by omega)];rfl
 have e3:(⟨(Lib.itoa kn.f5).toArray⟩:ByteArray)=⟨#[51]⟩:=by show(⟨(Lib.itoa ((3:Nat):Int)).toArray⟩:ByteArray)=_;rw[Ed 3 (by omega)];rfl
 have e4:mf kn.f2.f0 kn.f2.f1=⟨#[53]⟩:=LV 53;have e5:mf kn.f3.f0 kn.f3.f1=⟨#[48]⟩:=LV 48;have e6:esc kn.f1=⟨#[108,101,110,103,116,104]⟩:=by decide+kernel
 have e7:esc kn.f4=⟨#[109]⟩:=by decide+kernel
 unfold line parts;rw[e1,e2,e3,e4,e5,e6,e7];rfl
theorem ads:prt [kn]=(⟨#[49,9,48,9,51,9,43,9,108,101,110,103,116,104,9,53,9,48,9,109,10]⟩,0,0):=by
 have h0:∀k:Nat,k< [kn].length→iK (aX [kn] (k:Int))=0:=by
  intro k hk;obtain rfl:k=0:=by simp at hk;omega
  exact ahA
 have hl:lines [kn]=line kn:=by simp[lines]
 rw[XX h0 (by simp) (by rw[hl,Qy];decide),hl,Qy];rfl
def gK {α:Type}[DecidableEq α](c:α):List α→List (List α)
 | []=>[[]]
 |a::l=>if a=c then[]::gK c l else(a::(gK c l).headD [])::(gK c l).tail
def joinL {α:Type}(c:α):List (List α)→List α
 | []=>[]
 |f::fs=>f++fs.flatMap (fun t=>c::t)
theorem aaH {α:Type}{c:α}(f g:List α)(fs:List (List α)):joinL c (f::g::fs)=f++c::joinL c (g::fs):=by
 simp[joinL]
section
variable {α : Type} [DecidableEq α] {c : α}
theorem GZ (c:α):∀l,gK c l≠[]
 | []=>by simp[gK]
 |a::l=>by unfold gK;split<;>simp
theorem xX:∀{p:List α},c∉p→∀l,gK c (p++l)=(p++(gK c l).headD [])::(gK c l).tail
 | [],_,l=>by
  cases h:gK c l with
  |nil=>exact absurd h (GZ c l)
  |cons a b=>simp[h]
 |a::p,hp,l=>by
  have h1:a≠c:=fun e=>hp (e▸List.mem_cons_self)
  have ih:=xX (fun h=>hp (List.mem_cons_of_mem _ h)) l;rw[List.cons_append,gK,if_neg h1,ih];rfl
theorem qJ {p:List α}(hp:c∉p):gK c p=[p]:=by
 have:=xX hp [];simpa[gK]using this
theorem sV {p:List α}(hp:c∉p)(l:List α):gK c (p++c::l)=p::gK c l:=by
 rw[xX hp (c::l),gK,if_pos rfl];simp
theorem sS (c:α)(l:List α):(c∉l)∨∃p r,l=p++c::r∧c∉p:=by
 by_cases h:c∈l
 ·exact .inr (List.eq_append_cons_of_mem h)
 ·exact .inl h
theorem aeC:∀(n:Nat) (l:List α),l.length≤n→∀f∈gK c l,c∉f:=by
 intro n
 induction n with
 |zero=>
  intro l hl f hf;obtain rfl:l=[]:=List.eq_nil_of_length_eq_zero (by omega);simp only[gK,List.mem_singleton]at hf;subst hf;simp
 |succ n ih=>
  intro l hl f hf;rcases sS c l with h|⟨p,r,rfl,hp⟩
  ·rw[qJ h,List.mem_singleton]at hf;rw[hf];exact h
  ·rw[sV hp]at hf;rcases List.mem_cons.1 hf with rfl|hf
   ·exact hp
   ·exact ih r (by simp at hl;omega) f hf
theorem agE {l f:List α}(h:f∈gK c l):c∉f:=aeC l.length l (Nat.le_refl _) f h
theorem ad3:∀(n:Nat) (l:List α),l.length≤n→∀f∈gK c l,∀x∈f,x∈l:=by
 intro n
 induction n with
 |zero=>
  intro l hl f hf;obtain rfl:l=[]:=List.eq_nil_of_length_eq_zero (by omega);simp only[gK,List.mem_singleton]at hf;subst hf;simp
 |succ n ih=>
  intro l hl f hf x hx;rcases sS c l with h|⟨p,r,rfl,hp⟩
  ·rw[qJ h,List.mem_singleton]at hf;rw[←hf];exact hx
  ·rw[sV hp]at hf;rcases List.mem_cons.1 hf with rfl|hf
   ·exact List.mem_append_left _ hx
   ·exact List.mem_append_right _ (List.mem_cons_of_mem _ (ih r (by simp at hl;omega) f hf x hx))
theorem EG:∀(n:Nat) (l:List α),l.length≤n→(gK c l).length=l.count c+1∧∀f∈gK c l,f.length≤l.length:=by
 intro n
 induction n with
 |zero=>
  intro l hl;obtain rfl:l=[]:=List.eq_nil_of_length_eq_zero (by omega);simp[gK]
 |succ n ih=>
  intro l hl;rcases sS c l with h|⟨p,r,rfl,hp⟩
  ·rw[qJ h];refine⟨by rw[List.count_eq_zero_of_not_mem h];rfl,fun f hf=>?_⟩;rw[List.mem_singleton.1 hf];exact Nat.le_refl _
  ·have h2:=ih r (by simp at hl;omega);rw[sV hp];refine⟨?_,fun f hf=>?_⟩
   ·rw[List.length_cons,h2.1,List.count_append,List.count_eq_zero_of_not_mem hp,List.count_cons_self];omega
   ·rcases List.mem_cons.1 hf with rfl|hf
    ·simp
    ·have:=h2.2 f hf;simp;omega
theorem EH {β:Type}[DecidableEq β](g:α→β)(hg:∀a b,g a=g b→a=b)(c:α):∀l:List α,gK (g c) (l.map g)=(gK c l).map (List.map g)
 | []=>rfl
 |a::l=>by
  rw[List.map_cons,gK,gK,EH g hg c l]
  by_cases h:a=c
  ·rw[if_pos (by rw[h]),if_pos h];rfl
  ·rw[if_neg (fun e=>h (hg _ _ e)),if_neg h];cases hs:gK c l with
   |nil=>exact absurd hs (GZ c l)
   |cons x y=>rfl
theorem abu:∀(n:Nat) (l:List α),l.length≤n→joinL c (gK c l)=l:=by
 intro n
 induction n with
 |zero=>
  intro l hl;obtain rfl:l=[]:=List.eq_nil_of_length_eq_zero (by omega);rfl
 |succ n ih=>
  intro l hl;rcases sS c l with h|⟨p,r,rfl,hp⟩
  ·rw[qJ h];simp[joinL]
  ·rw[sV hp];cases hs:gK c r with
   |nil=>exact absurd hs (GZ c r)
   |cons x y=>
    rw[aaH,←hs,ih r (by simp at hl;omega)]
theorem abL:∀(fs:List (List α)),fs≠[]→(∀f∈fs,c∉f)→gK c (joinL c fs)=fs
 | [],h,_=>absurd rfl h
 | [f],_,h=>by
  rw[show joinL c [f]=f by simp[joinL]];exact qJ (h f List.mem_cons_self)
 |f::g::fs,_,h=>by
  rw[aaH,sV (h f List.mem_cons_self),abL (g::fs) (by simp) (fun x hx=>h x (List.mem_cons_of_mem _ hx))]
end
def eF (c:UInt8)(s:ByteArray):List ByteArray:=(gK (c.toNat:Int) (bytesOf s)).map strOfNums
theorem lN (c:UInt8)(s:ByteArray):eF c s=(gK c s.data.toList).map (fun l=>⟨l.toArray⟩):=by
 unfold eF bytesOf;rw[EH (fun b:UInt8=>(b.toNat:Int)) (fun a b h=>UInt8.toNat_inj.1 (Int.ofNat.inj h)),List.map_map];refine List.map_congr_left (fun l _=>?_)
 show strOfNums (l.map fun b=>(b.toNat:Int))=⟨l.toArray⟩
 have:=iO ⟨l.toArray⟩;simpa[bytesOf]using this
theorem qC (c:UInt8)(s:ByteArray):∀t∈eF c s,t.size≤s.size:=by
 rw[lN];intro t ht;obtain⟨l,hl,rfl⟩:=List.mem_map.1 ht;have:=(EG s.data.toList.length s.data.toList (Nat.le_refl _)).2 l hl;rw[bV]at this;rw[←bV];simpa using this
theorem kZ (c:UInt8)(s:ByteArray):(eF c s).length=Lib.countByte s.data.toList c+1:=by
 rw[lN,List.length_map];exact(EG s.data.toList.length s.data.toList (Nat.le_refl _)).1
theorem Eb (c:UInt8)(r:List UInt8):∀{p:List UInt8},c∉p→Lib.indexByte (p++c::r) c=p.length
 | [],_=>by simp[Lib.indexByte]
 |a::p,hp=>by
  have h1:(a==c)=false:=beq_eq_false_iff_ne.2 (fun e=>hp (e▸List.mem_cons_self));have h2:=Eb c r (fun h=>hp (List.mem_cons_of_mem _ h):c∉p);rw[List.cons_append,Lib.indexByte,h1,h2];have h3:((p.length:Int)== -1)=false:=by rw[beq_eq_false_iff_ne];omega
  rw[h3];simp
theorem Ec (c:UInt8):∀{p:List UInt8},c∉p→Lib.indexByte p c= -1
 | [],_=>rfl
 |a::p,hp=>by
  have h1:(a==c)=false:=beq_eq_false_iff_ne.2 (fun e=>hp (e▸List.mem_cons_self));rw[Lib.indexByte,h1,Ec c (fun h=>hp (List.mem_cons_of_mem _ h))];rfl
theorem Tu (c:UInt8):∀(n:Nat) (l:List UInt8),l.length≤n→Lib.splitK [c] 0 (Lib.count l [c]) l=gK c l∧Lib.count l [c]+1=(gK c l).length:=by
 intro n
 induction n with
 |zero=>
  intro l hl;obtain rfl:l=[]:=List.eq_nil_of_length_eq_zero (by omega);have h0:Lib.count ([]:List UInt8) [c]=0:=Lib.count_miss (by rw[Lib.index_one];rfl);rw[h0];exact⟨rfl,rfl⟩
 |succ n ih=>
  intro l hl;rcases sS c l with h|⟨p,r,rfl,hp⟩
  ·have h0:Lib.count l [c]=0:=Lib.count_miss (by rw[Lib.index_one];exact Ec c h);rw[h0,qJ h];exact⟨rfl,rfl⟩
  ·have hi:Lib.index (p++c::r) [c]=(p.length:Int):=by rw[Lib.index_one];exact Eb c r hp
   have hd:(p++c::r).drop (p.length+[c].length)=r:=by
    rw[List.drop_append];simp
   have hc:Lib.count (p++c::r) [c]=Lib.count r [c]+1:=by
    rw[Lib.count_hit (by simp) hi,hd];omega
   have h2:=ih r (by simp at hl;omega);rw[hc,sV hp];refine⟨?_,by rw[List.length_cons,←h2.2]⟩;unfold Lib.splitK;have hm:¬(Lib.index (p++c::r) [c]== -1)=true:=fun e=>by have:=beq_iff_eq.1 e;omega
   rw[if_neg hm,hi,Int.toNat_natCast,hd,h2.1];simp
theorem Tt (c:UInt8)(s:ByteArray):Lib.splitB ⟨#[c]⟩ 0 (Lib.countB s ⟨#[c]⟩) s=eF c s∧Lib.countB s ⟨#[c]⟩+1=(eF c s).length:=by
 have h:=Tu c s.data.toList.length s.data.toList (Nat.le_refl _);have hb:=Lib.splitB_data ⟨#[c]⟩ 0 (Lib.countB s ⟨#[c]⟩) s;have e:Lib.splitK [c] 0 (Lib.countB s ⟨#[c]⟩) s.data.toList=gK c s.data.toList:=h.1;rw[lN,List.length_map];refine⟨?_,h.2⟩;rw[←e,←show _=Lib.splitK [c] 0 (Lib.countB s ⟨#[c]⟩) s.data.toList from hb,List.map_map];exact(List.map_id' _).symm
theorem Ve (c:UInt8)(s:ByteArray):(c∉s.data.toList∧Lib.cut s.data.toList [c]=(s.data.toList,[],false)∧eF c s=[s])∨
  ∃p r,Lib.cut s.data.toList [c]=(p,r,true)∧s.data.toList=p++c::r∧c∉p∧eF c s=⟨p.toArray⟩::eF c ⟨r.toArray⟩:=by
 rcases sS c s.data.toList with h|⟨p,r,hl,hp⟩
 ·refine .inl ⟨h,?_,?_⟩
  ·unfold Lib.cut;rw[Lib.index_one,Ec c h,if_neg (by decide)]
  ·rw[lN,qJ h];rfl
 ·refine .inr ⟨p,r,?_,hl,hp,?_⟩
  ·unfold Lib.cut;rw[hl,Lib.index_one,Eb c r hp,if_pos (by omega),Int.toNat_natCast];simp
  ·rw[lN,hl,sV hp,List.map_cons,lN]
theorem Iy (s:ByteArray)(i:Nat)(h:i<s.size):(bytesOf s).drop i=bt s (i:Int)::(bytesOf s).drop (i+1):=by
 rw[List.drop_eq_getElem_cons (by rw[bytesOf_length];exact h)]
 congr 1
 have h1:=gW s (i:Int);rw[←h1];unfold rd;rw[List.getD_eq_getElem?_getD,List.getElem?_eq_getElem (by rw[bytesOf_length];simpa using h)];simp
def uH:List Int→Option (List Int)
 | []=>some []
 | [c]=>if c=92 then none else some [c]
 |c::d::r=>if c=92 then(if d=92 then(uH r).map (List.cons 92)else if d=116 then(uH r).map (List.cons 9)else if d=110 then(uH r).map (List.cons 10)else none)else(uH (d::r)).map (List.cons c)
theorem LC {c:Int}(h:c≠92)(l:List Int):uH (c::l)=(uH l).map (List.cons c):=by
 cases l with
 |nil=>simp[uH,h]
 |cons d r=>rw[uH,if_neg h]
theorem acG:∀l:List Int,uH (kS l)=some l
 | []=>rfl
 |c::l=>by
  have ih:=acG l;rw[Gg]
  by_cases h1:c=92
  ·subst h1
   show uH (92::92::kS l)=_
   rw[uH,if_pos rfl,if_pos rfl,ih];rfl
  ·by_cases h2:c=9
   ·subst h2
    show uH (92::116::kS l)=_
    rw[uH,if_pos rfl,if_neg (by decide),if_pos rfl,ih];rfl
   ·by_cases h3:c=10
    ·subst h3
     show uH (92::110::kS l)=_
     rw[uH,if_pos rfl,if_neg (by decide),if_neg (by decide),if_pos rfl,ih];rfl
    ·rw[rZ h1 h2 h3]
     show uH (c::kS l)=_
     rw[LC h1,ih];rfl
theorem afZ:∀(n:Nat) (l r:List Int),l.length≤n→uH l=some r→9∉l→10∉l→kS r=l:=by
 intro n
 induction n with
 |zero=>
  intro l r hl h _ _;obtain rfl:l=[]:=List.eq_nil_of_length_eq_zero (by omega);injection h with h;rw[←h];rfl
 |succ n ih=>
  intro l r hl h h9 h10;cases l with
  |nil=>
   injection h with h;rw[←h];rfl
  |cons c l=>
   by_cases hc:c=92
   ·subst hc;cases l with
    |nil=>simp[uH]at h
    |cons d l=>
     rw[uH,if_pos rfl]at h;have hl2:l.length≤n:=by simp at hl;omega
     have k9:9∉l:=fun e=>h9 (List.mem_cons_of_mem _ (List.mem_cons_of_mem _ e))
     have k10:10∉l:=fun e=>h10 (List.mem_cons_of_mem _ (List.mem_cons_of_mem _ e))
     split at h
     ·next hd=>
      obtain⟨r2,hr,rfl⟩:=Option.map_eq_some_iff.1 h;rw[Gg,ih l r2 hl2 hr k9 k10,hd];rfl
     ·split at h
      ·next hd=>
       obtain⟨r2,hr,rfl⟩:=Option.map_eq_some_iff.1 h;rw[Gg,ih l r2 hl2 hr k9 k10,hd];rfl
      ·split at h
       ·next hd=>
        obtain⟨r2,hr,rfl⟩:=Option.map_eq_some_iff.1 h;rw[Gg,ih l r2 hl2 hr k9 k10,hd];rfl
       ·cases h
   ·rw[LC hc]at h;obtain⟨r2,hr,rfl⟩:=Option.map_eq_some_iff.1 h;rw[Gg,ih l r2 (by simp at hl;omega) hr (fun e=>h9 (List.mem_cons_of_mem _ e)) (fun e=>h10 (List.mem_cons_of_mem _ e)),rZ hc (fun e=>h9 (by rw[e];exact List.mem_cons_self)) (fun e=>h10 (by rw[e];exact List.mem_cons_self))];rfl
def opV (out:List Int):Option (List Int)→ByteArray×Bool
 |none=>(⟨#[]⟩,false)
 |some r=>(strOfNums (out++r),true)
theorem Df (out:List Int)(c:Int)(o:Option (List Int)):opV out (o.map (List.cons c))=opV (out++[c]) o:=by
 cases o with
 |none=>rfl
 |some r=>simp[opV]
theorem aa6 (s:ByteArray)(hs:s.size≤1000000):∀(d i:Nat) (out:List Int),s.size- i≤d→i≤s.size→out.length≤i→Ev (fun k=>cZ.l0 k s out (i:Int)) (opV out (uH ((bytesOf s).drop i))):=by
 intro d
 induction d with
 |zero=>
  intro i out hd hi ho;rw[List.drop_of_length_le (by rw[bytesOf_length];omega)];refine Ev.step (f:=fun _=>some (strOfNums out,true)) (fun k=>?_) (by show Ev _ (strOfNums (out++[]),true);rw[List.append_nil];exact Ev.now _);simp only[cZ.l0];rw[if_neg (by omega)]
 |succ d ih=>
  intro i out hd hi ho
  by_cases hlt:i<s.size
  ·rw[Iy s i hlt]
   by_cases YM:bt s (i:Int)=92
   ·by_cases h1:i+1=s.size
    ·rw[List.drop_of_length_le (by rw[bytesOf_length];omega),YM];refine Ev.step (f:=fun _=>some ((⟨#[]⟩:ByteArray),false)) (fun k=>?_) (Ev.now _);simp only[cZ.l0];rw[if_pos (by omega),if_pos (by omega),if_pos YM,fD (by omega) (by omega),if_pos (by omega)]
    ·have hb:=Iy s (i+1) (by omega)
     have hst:∀k,cZ.l0 (k+1) s out (i:Int)=(if(bt s ((i+1:Nat):Int))=92 then(cZ.l0 k s (out++[92]) ((i+1+1:Nat):Int))else(if(bt s ((i+1:Nat):Int))=116 then(cZ.l0 k s (out++[9]) ((i+1+1:Nat):Int))else(if(bt s ((i+1:Nat):Int))=110 then(cZ.l0 k s (out++[10]) ((i+1+1:Nat):Int))else(some ((⟨#[]⟩:ByteArray),false))))):=fun k=>by
      simp only[cZ.l0];rw[if_pos (by omega),if_pos (by omega),if_pos YM,fD (n:=(i:Int)+1) (by omega) (by omega),if_neg (by omega),if_pos (by omega),if_pos (by omega),fD (n:=(i:Int)+1+1) (by omega) (by omega)];simp only[if_pos (show out.length<140737488355328 by omega)];rfl
     rw[hb,YM,uH,if_pos rfl];have hlen:∀c:Int,(out++[c]).length≤i+1+1:=fun c=>by rw[List.length_append,List.length_singleton];omega
     by_cases e1:bt s ((i+1:Nat):Int)=92
     ·rw[if_pos e1,Df];exact Ev.step (f:=fun k=>cZ.l0 k s (out++[92]) ((i+1+1:Nat):Int)) (fun k=>by rw[hst,if_pos e1]) (ih (i+1+1) _ (by omega) (by omega) (hlen _))
     ·rw[if_neg e1]
      by_cases e2:bt s ((i+1:Nat):Int)=116
      ·rw[if_pos e2,Df];exact Ev.step (f:=fun k=>cZ.l0 k s (out++[9]) ((i+1+1:Nat):Int)) (fun k=>by rw[hst,if_neg e1,if_pos e2]) (ih (i+1+1) _ (by omega) (by omega) (hlen _))
      ·rw[if_neg e2]
       by_cases e3:bt s ((i+1:Nat):Int)=110
       ·rw[if_pos e3,Df];exact Ev.step (f:=fun k=>cZ.l0 k s (out++[10]) ((i+1+1:Nat):Int)) (fun k=>by rw[hst,if_neg e1,if_neg e2,if_pos e3]) (ih (i+1+1) _ (by omega) (by omega) (hlen _))
       ·rw[if_neg e3];exact Ev.step (f:=fun _=>some ((⟨#[]⟩:ByteArray),false)) (fun k=>by rw[hst,if_neg e1,if_neg e2,if_neg e3]) (Ev.now _)
   ·rw[LC YM,Df];refine Ev.step (f:=fun k=>cZ.l0 k s (out++[bt s (i:Int)]) ((i+1:Nat):Int)) (fun k=>?_) (ih (i+1) _ (by omega) (by omega) (by rw[List.length_append,List.length_singleton];omega));simp only[cZ.l0];rw[if_pos (by omega),if_pos (by omega),if_neg YM,if_pos (by omega),fD (by omega) (by omega)];rfl
  ·rw[List.drop_of_length_le (by rw[bytesOf_length];omega)];refine Ev.step (f:=fun _=>some (strOfNums out,true)) (fun k=>?_) (by show Ev _ (strOfNums (out++[]),true);rw[List.append_nil];exact Ev.now _);simp only[cZ.l0];rw[if_neg (by omega)]
def oM (s:ByteArray):ByteArray×Bool:=opV [] (uH (bytesOf s))
theorem Ej (s:ByteArray)(hs:s.size≤1000000):Ev (fun k=>cZ.f k s) (oM s):=aa6 s hs s.size 0 [] (by omega) (by omega) (Nat.le_refl _)
theorem abf (s:ByteArray):oM (esc s)=(s,true):=by
 unfold oM;rw[JQ,acG]
 show(strOfNums ([]++bytesOf s),true)=(s,true)
 rw[List.nil_append,iO]
theorem afn:∀(n:Nat) (l r:List Int),l.length≤n→uH l=some r→Bts l→Bts r:=by
 intro n
 induction n with
 |zero=>
  intro l r hl h _;obtain rfl:l=[]:=List.eq_nil_of_length_eq_zero (by omega);injection h with h;rw[←h];intro x hx;cases hx
 |succ n ih=>
  intro l r hl h hb;cases l with
  |nil=>
   injection h with h;rw[←h];intro x hx;cases hx
  |cons c l=>
   have hcons:∀(c:Int) (r2:List Int),0≤c∧c<256→Bts r2→Bts (c::r2):=fun c r2 h1 h2 x hx=>by
    rcases List.mem_cons.1 hx with rfl|hx
    ·exact h1
    ·exact h2 x hx
   by_cases hc:c=92
   ·subst hc;cases l with
    |nil=>simp[uH]at h
    |cons d l=>
     rw[uH,if_pos rfl]at h;have hl2:l.length≤n:=by simp at hl;omega
     have kb:Bts l:=fun x hx=>hb x (List.mem_cons_of_mem _ (List.mem_cons_of_mem _ hx))
     split at h
     ·obtain⟨r2,hr,rfl⟩:=Option.map_eq_some_iff.1 h;exact hcons _ _ (by omega) (ih l r2 hl2 hr kb)
     ·split at h
      ·obtain⟨r2,hr,rfl⟩:=Option.map_eq_some_iff.1 h;exact hcons _ _ (by omega) (ih l r2 hl2 hr kb)
      ·split at h
       ·obtain⟨r2,hr,rfl⟩:=Option.map_eq_some_iff.1 h;exact hcons _ _ (by omega) (ih l r2 hl2 hr kb)
       ·cases h
   ·rw[LC hc]at h;obtain⟨r2,hr,rfl⟩:=Option.map_eq_some_iff.1 h;exact hcons _ _ (hb c List.mem_cons_self) (ih l r2 (by simp at hl;omega) hr (fun x hx=>hb x (List.mem_cons_of_mem _ hx)))
theorem aho {s t:ByteArray}(h:oM s=(t,true))(h9:(9:Int)∉bytesOf s)(h10:(10:Int)∉bytesOf s):esc t=s:=by
 unfold oM at h;cases ho:uH (bytesOf s)with
 |none=>rw[ho]at h;simp[opV]at h
 |some r=>
  rw[ho]at h;have ht:strOfNums r=t:=by simpa[opV]using h
  have hb:=afn _ _ _ (Nat.le_refl _) ho (JP s);refine AY ?_;rw[JQ,←ht,jo _ hb];exact afZ _ _ _ (Nat.le_refl _) ho h9 h10
theorem strOfNums_size (l:List Int):(strOfNums l).size=l.length:=by
 rw[←bV];simp[strOfNums]
theorem QB {a d m:Int}(ha:0≤a)(hd:0≤d)(hm:0<m):mn (mn a m*10+d) m=mn (a*10+d) m:=by
 unfold mn;omega
theorem abx (a:Int){m:Int}(ha:0≤a)(hm:0<m):0≤mn a m∧mn a m≤m:=by
 unfold mn;omega
theorem MC (s:ByteArray)(i:Nat)(h:i<s.size):dec 0 ((bytesOf s).take (i+1))=dec 0 ((bytesOf s).take i)*10+(bt s (i:Int)- 48):=by
 rw[Dk s i h,JY]
theorem Lu {s:ByteArray}{i:Nat}(h:i<s.size)(hn:Num ((bytesOf s).take i))(hb:48≤bt s (i:Int)∧bt s (i:Int)≤57):Num ((bytesOf s).take (i+1)):=by
 rw[Dk s i h];intro c hc;rcases List.mem_append.1 hc with hc|hc
 ·exact hn c hc
 ·rw[List.mem_singleton.1 hc];exact hb
theorem qB {s:ByteArray}{i:Nat}(h:i<s.size)(hb:¬(48≤bt s (i:Int)∧bt s (i:Int)≤57)):¬Canon s:=fun hc=>hb ((C9 s).1 hc.2.2 i h)
theorem Yv (s:ByteArray)(hs:s.size≤1000000):∀(d i:Nat),i+d=s.size→Num ((bytesOf s).take i)→
  ∃v b,Ev (fun k=>dS.l0 k s (mn (dec 0 ((bytesOf s).take i)) 1099511627776) (s.size:Int) (i:Int)) (v,b)∧(b=true↔Canon s)∧(Canon s→v=mn (dv s) 1099511627776):=by
 intro d
 induction d with
 |zero=>
  intro i hi hn;have e:(bytesOf s).take i=bytesOf s:=List.take_of_length_le (by rw[bytesOf_length];omega);rw[e]at hn⊢
  have hst:∀k,dS.l0 (k+1) s (mn (dec 0 (bytesOf s)) 1099511627776) (s.size:Int) (i:Int)=(if s.toList=([]:List UInt8)then(some (mn (dec 0 (bytesOf s)) 1099511627776,false))else(if 0<(s.size:Int)then(if(bt s 0)=48 then(some (mn (dec 0 (bytesOf s)) 1099511627776,((s.size:Int)==1)))else(some (mn (dec 0 (bytesOf s)) 1099511627776,true)))else(none))):=fun k=>by
   simp only[dS.l0];rw[if_neg (by omega)]
  by_cases h0:s.size=0
  ·have hl:s.toList=([]:List UInt8):=by
    rw[ByteArray.toList_eq];exact List.eq_nil_of_length_eq_zero (by rw[bV];exact h0)
   refine⟨_,false,Ev.step (f:=fun _=>some (mn (dec 0 (bytesOf s)) 1099511627776,false)) (fun k=>by rw[hst,if_pos hl]) (Ev.now _),?_,fun h=>rfl⟩;exact⟨fun h=>Bool.noConfusion h,fun h=>absurd h.1 (by omega)⟩
  ·have hl:¬s.toList=([]:List UInt8):=by
    rw[ByteArray.toList_eq];intro h;have:=bV s;rw[h]at this;simp at this;omega
   by_cases hb:bt s 0=48
   ·refine⟨_,((s.size:Int)==1),Ev.step (f:=fun _=>some (mn (dec 0 (bytesOf s)) 1099511627776,((s.size:Int)==1))) (fun k=>by rw[hst,if_neg hl,if_pos (by omega),if_pos hb]) (Ev.now _),?_,fun h=>rfl⟩;rw[beq_iff_eq];exact⟨fun h=>⟨by omega,fun _=>by omega,hn⟩,fun h=>by have:=h.2.1 hb;have:=h.1;omega⟩
   ·refine⟨_,true,Ev.step (f:=fun _=>some (mn (dec 0 (bytesOf s)) 1099511627776,true)) (fun k=>by rw[hst,if_neg hl,if_pos (by omega),if_neg hb]) (Ev.now _),?_,fun h=>rfl⟩;exact⟨fun _=>⟨by omega,fun h=>absurd h hb,hn⟩,fun _=>rfl⟩
 |succ d ih=>
  intro i hi hn;have hr:=jh hn;have hm:=abx (dec 0 ((bytesOf s).take i)) (m:=1099511627776) hr.1 (by omega)
  by_cases h1:bt s (i:Int)<48
  ·refine⟨0,false,Ev.step (f:=fun _=>some (0,false)) (fun k=>?_) (Ev.now _),?_,fun h=>absurd h (qB (i:=i) (by omega) (by omega))⟩
   ·simp only[dS.l0];rw[if_pos (by omega),if_pos (by omega),if_pos (by omega),if_pos h1]
   ·exact⟨fun h=>Bool.noConfusion h,fun h=>absurd h (qB (i:=i) (by omega) (by omega))⟩
  ·by_cases h2:bt s (i:Int)>57
   ·refine⟨0,false,Ev.step (f:=fun _=>some (0,false)) (fun k=>?_) (Ev.now _),?_,fun h=>absurd h (qB (i:=i) (by omega) (by omega))⟩
    ·simp only[dS.l0];rw[if_pos (by omega),if_pos (by omega),if_pos (by omega),if_neg h1,if_pos h2]
    ·exact⟨fun h=>Bool.noConfusion h,fun h=>absurd h (qB (i:=i) (by omega) (by omega))⟩
   ·obtain⟨v,b,he,hb,hv⟩:=ih (i+1) (by omega) (Lu (by omega) hn ⟨by omega,by omega⟩);refine⟨v,b,Ev.step (f:=fun k=>dS.l0 k s (mn (dec 0 ((bytesOf s).take (i+1))) 1099511627776) (s.size:Int) ((i+1:Nat):Int)) (fun k=>?_) he,hb,hv⟩;simp only[dS.l0];rw[if_pos (by omega),if_pos (by omega),if_pos (by omega),if_neg h1,if_neg h2,fD (n:=(i:Int)+1) (by omega) (by omega),MC s i (by omega),←QB (d:=bt s (i:Int)- 48) hr.1 (by omega) (by omega)];obtain⟨q,hq⟩:∃q,mn (dec 0 ((bytesOf s).take i)) 1099511627776=q:=⟨_,rfl⟩;rw[hq]at hm⊢;rw[fD (n:=10*q) (by omega) (by omega),fD (by omega) (by omega),show 10*q+(bt s (i:Int)- 48)%256=q*10+(bt s (i:Int)- 48)by omega];rfl
theorem MR (s:ByteArray)(hs:s.size≤1000000):∃v b,Ev (fun k=>dS.f k s) (v,b)∧(b=true↔Canon s)∧(Canon s→v=mn (dv s) 1099511627776):=
 Yv s hs s.size 0 (by omega) (by intro c hc;simp at hc)
end Go.Proofs.YthbdjmopolpjmaaGreatDoor.M
