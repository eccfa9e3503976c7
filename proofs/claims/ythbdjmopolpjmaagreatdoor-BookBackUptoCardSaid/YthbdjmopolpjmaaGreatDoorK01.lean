/- Part 1 of the proof. -/
import Derived.Test.YthbdjmopolpjmaaGreatDoorProg
import Derived.Test.YthbdjmopolpjmaaGreatDoorK00
set_option linter.unusedVariables false
set_option linter.unusedSimpArgs false
set_option maxHeartbeats 8000000
set_option maxRecDepth 100000
namespace Go.Proofs.YthbdjmopolpjmaaGreatDoorW.PrintLast
section
variable {P : Program} {ops : Array Oper} {Q : Exit → Act → World → Prop} {md : Region.Mode} {S : World → Prop} {ds : List Nat}
def Region.oJ (md:Region.Mode)(ops:Array Oper)(i:Nat):Nat→Nat→Bool
 |0,_=>false
 |fuel+1,d=>match ops[d]? with
  |some o=>o.after.any fun e=>Region.binds md e&&(e.on==i||Region.oJ md ops i fuel e.on)
  |none=>false
def Region.yE (md:Region.Mode)(ops:Array Oper)(listed:Array Bool):Bool:=
 (List.range ops.size).all fun j=> !listed.getD j false||match ops[j]? with
  |some o=>o.after.all fun e=> !Region.binds md e||listed.getD e.on false
  |none=>true
def Region.lastB (md:Region.Mode)(ops:Array Oper)(listed:Array Bool)(ds:List Nat)(i:Nat):Bool:=
 ds.all fun d=>listed.getD d true||Region.oJ md ops i ops.size d
def jQ (md:Region.Mode)(ops:Array Oper)(listed:Array Bool):Prop:=
 ∀j oj,ops[j]?=some oj→listed.getD j false=true→∀e∈oj.after,Region.binds md e=true→listed.getD e.on false=true
theorem Region.Iq {listed:Array Bool}(h:Region.yE md ops listed=true):jQ md ops listed:=by
 intro j oj hj hl e he hb;have hlt:j<ops.size:=(Array.getElem?_eq_some_iff.1 hj).1;have h1:=List.all_eq_true.1 h j (List.mem_range.2 hlt);simp only[hl,hj,Bool.not_true,Bool.false_or]at h1;have h2:=Array.all_eq_true_iff_forall_mem.1 h1 e he;simpa[hb]using h2
theorem jQ.set {listed:Array Bool}{i:Nat}(h:jQ md ops listed)(hi:i∈Region.ready md ops listed):jQ md ops (listed.setIfInBounds i true):=by
 obtain⟨_,oi,hoi,hall⟩:=mem_ready.1 hi;intro j oj hj hl e he hb
 by_cases hij:i=j
 ·subst hij;have:oj=oi:=Option.some.inj (hj.symm.trans hoi);subst this;exact getD_set_true (hall e he hb)
 ·rw[getD_set_ne false hij]at hl;exact getD_set_true (h j oj hj hl e he hb)
theorem Region.yT {listed:Array Bool}{i:Nat}(hc:jQ md ops listed):∀(fuel d:Nat),Region.oJ md ops i fuel d=true→listed.getD d false=true→listed.getD i false=true
 |0,_,h,_=>by simp[Region.oJ]at h
 |fuel+1,d,h,hl=>by
  unfold Region.oJ at h;cases ho:ops[d]? with
  |none=>rw[ho]at h;simp at h
  |some o=>
   rw[ho]at h;obtain⟨e,he,h1⟩:=Array.any_eq_true'.1 h;simp only[Bool.and_eq_true,Bool.or_eq_true,beq_iff_eq]at h1;have hle:=hc d o ho hl e he h1.1;rcases h1.2 with h2|h2
   ·rw[←h2];exact hle
   ·exact Region.yT hc fuel e.on h2 hle
theorem Region.CB {listed:Array Bool}{i d fuel:Nat}(hc:jQ md ops listed)(hr:Region.oJ md ops i fuel d=true)(hun:listed.getD i true=false):d∉Region.ready md ops listed:=by
 intro hd;obtain⟨_,o,ho,hall⟩:=mem_ready.1 hd
 have hi:listed.getD i false=true:=by
  cases fuel with
  |zero=>simp[Region.oJ]at hr
  |succ n=>
   unfold Region.oJ at hr;rw[ho]at hr;obtain⟨e,he,h1⟩:=Array.any_eq_true'.1 hr;simp only[Bool.and_eq_true,Bool.or_eq_true,beq_iff_eq]at h1;have hle:=hall e he h1.1;rcases h1.2 with h2|h2
   ·rw[←h2];exact hle
   ·exact Region.yT hc n e.on h2 hle
 rcases Nat.lt_or_ge i listed.size with h'|h'
 ·simp[h']at hun hi;rw[hun]at hi;cases hi
 ·simp[Array.getElem?_eq_none h']at hun
def eH (P:Program)(md:Region.Mode)(ops:Array Oper)(Q:Exit→Act→World→Prop)(S:World→Prop)(ds:List Nat):Nat→Array Bool→Act→World→Prop
 |0,listed,a,w=>Region.ready md ops listed=[]∧Q .normal a w
 |fuel+1,listed,a,w=>
  (Region.ready md ops listed=[]→Q .normal a w)∧
  ∀i∈Region.ready md ops listed,wpOp P ops Q i (fun a' w'=>(i∉ds→S w→S w')∧eH P md ops Q S ds fuel (listed.setIfInBounds i true) a' w') a w
theorem wZ:∀(fuel:Nat) (listed:Array Bool) (a:Act) (w:World),eH P md ops Q S ds fuel listed a w→wpAny P md ops Q fuel listed a w
 |0,_,_,_,h=>h
 |fuel+1,_,_,_,h=>⟨h.1,fun i hi=>wpOp_mono (fun a' w' h'=>wZ fuel _ a' w' h'.2) (h.2 i hi)⟩
theorem CO {i:Nat}{oi:Oper}{v:Value}(hi:ops[i]?=some oi)(hsel:∀(j:Nat) (o:Oper) cs b,ops[j]?=some o→o.op≠ .select cs b)
  (hQ:∀c a w,Q (.panic c) (a.put oi.dst v) w→Q (.panic c) a w) (n:Nat):
  ∀(fuel:Nat) (listed:Array Bool) (a:Act) (w:World),
   (∀j oj,ops[j]?=some oj→j≠i→listed.getD j true=false→(∀e∈oj.after,Region.binds md e=true→e.on≠i)→oi.apart ops oj=true)→
   jQ md ops listed→(∀d∈ds,listed.getD d true=false→Region.oJ md ops i n d=true)→
   i∈Region.ready md ops listed→YieldsIf P ops S oi v a→S w→
   eH P md ops Q S ds fuel (listed.setIfInBounds i true) (a.put oi.dst v) w→eH P md ops Q S ds (fuel+1) listed a w:=by
 intro fuel
 induction fuel with
 |zero=>
  intro listed a w _ _ _ hr hy hS H;refine⟨fun h=>(by rw[h]at hr;cases hr),fun j hj=>?_⟩
  by_cases hji:j=i
  ·subst hji;exact hy.wpOp hi hS ⟨fun _ h=>h,H⟩
  ·have:=ready_mono hj hji;rw[H.1]at this;cases this
 |succ fuel ih=>
  intro listed a w hfree hc hd hr hy hS H;refine⟨fun h=>(by rw[h]at hr;cases hr),fun j hj=>?_⟩
  by_cases hji:j=i
  ·subst hji;exact hy.wpOp hi hS ⟨fun _ h=>h,H⟩
  ·have h1:=H.2 j (ready_mono hj hji);obtain⟨hjun,oj,hoj,hall⟩:=mem_ready.1 hj;have RN:=(mem_ready.1 hr).1
   have hnot:∀e∈oj.after,Region.binds md e=true→e.on≠i:=fun e he hb heq=>by
    have h1:=hall e he hb;rw[heq]at h1;rcases Nat.lt_or_ge i listed.size with h'|h'
    ·simp[h']at RN h1;rw[RN]at h1;cases h1
    ·simp[Array.getElem?_eq_none h']at h1
   have hjd:j∉ds:=fun hm=>Region.CB hc (hd j hm hjun) RN hj
   have h2:=wpOp_putIf hoj (hfree j oj hoj hji hjun hnot) (fun cs b=>hsel i oi cs b hi) (fun cs b=>hsel j oj cs b hoj) hQ hy h1
   have hfree':∀k ok,ops[k]?=some ok→k≠i→(listed.setIfInBounds j true).getD k true=false→
     (∀e∈ok.after,Region.binds md e=true→e.on≠i)→oi.apart ops ok=true:=fun k ok hk hki hun hno=>by
    refine hfree k ok hk hki ?_ hno
    by_cases hjk:j=k
    ·subst hjk;exact hjun
    ·rw[getD_set_ne true hjk]at hun;exact hun
   have hd':∀d∈ds,(listed.setIfInBounds j true).getD d true=false→Region.oJ md ops i n d=true:=fun d hm hun=>by
    refine hd d hm ?_
    by_cases hjk:j=d
    ·subst hjk;exact hjun
    ·rw[getD_set_ne true hjk]at hun;exact hun
   refine wpOp_mono (fun a' w' h3=>⟨h3.2.1,ih (listed.setIfInBounds j true) a' w' hfree' (hc.set hj) hd' (ready_mono hr (Ne.symm hji)) h3.1 (h3.2.1 hjd hS) ?_⟩) h2;rw[Array.setIfInBounds_comm _ _ hji];exact h3.2.2
theorem Fz {i:Nat}{oi:Oper}{v:Value}(hi:ops[i]?=some oi)(hsel:∀(j:Nat) (o:Oper) cs b,ops[j]?=some o→o.op≠ .select cs b)
  (hQ:∀c a w,Q (.panic c) (a.put oi.dst v) w→Q (.panic c) a w):
  ∀(fuel:Nat) (listed:Array Bool) (a:Act) (w:World),
   (∀j oj,ops[j]?=some oj→j≠i→listed.getD j true=false→(∀e∈oj.after,Region.binds md e=true→e.on≠i)→oi.apart ops oj=true)→
   i∈Region.ready md ops listed→Yields P ops oi v a→
   eH P md ops Q S ds fuel (listed.setIfInBounds i true) (a.put oi.dst v) w→eH P md ops Q S ds (fuel+1) listed a w:=by
 intro fuel
 induction fuel with
 |zero=>
  intro listed a w _ hr hy H;refine⟨fun h=>(by rw[h]at hr;cases hr),fun j hj=>?_⟩
  by_cases hji:j=i
  ·subst hji;exact(hy.yieldsIf (S:=fun _=>True)).wpOp hi trivial ⟨fun _ h=>h,H⟩
  ·have:=ready_mono hj hji;rw[H.1]at this;cases this
 |succ fuel ih=>
  intro listed a w hfree hr hy H;refine⟨fun h=>(by rw[h]at hr;cases hr),fun j hj=>?_⟩
  by_cases hji:j=i
  ·subst hji;exact(hy.yieldsIf (S:=fun _=>True)).wpOp hi trivial ⟨fun _ h=>h,H⟩
  ·have h1:=H.2 j (ready_mono hj hji);obtain⟨hjun,oj,hoj,hall⟩:=mem_ready.1 hj;have RN:=(mem_ready.1 hr).1
   have hnot:∀e∈oj.after,Region.binds md e=true→e.on≠i:=fun e he hb heq=>by
    have h1:=hall e he hb;rw[heq]at h1;rcases Nat.lt_or_ge i listed.size with h'|h'
    ·simp[h']at RN h1;rw[RN]at h1;cases h1
    ·simp[Array.getElem?_eq_none h']at h1
   have h2:=wpOp_put hoj (hfree j oj hoj hji hjun hnot) (fun cs b=>hsel i oi cs b hi) (fun cs b=>hsel j oj cs b hoj) hQ hy h1
   have hfree':∀k ok,ops[k]?=some ok→k≠i→(listed.setIfInBounds j true).getD k true=false→
     (∀e∈ok.after,Region.binds md e=true→e.on≠i)→oi.apart ops ok=true:=fun k ok hk hki hun hno=>by
    refine hfree k ok hk hki ?_ hno
    by_cases hjk:j=k
    ·subst hjk;exact hjun
    ·rw[getD_set_ne true hjk]at hun;exact hun
   refine wpOp_mono (fun a' w' h3=>⟨h3.2.1,ih (listed.setIfInBounds j true) a' w' hfree' (ready_mono hr (Ne.symm hji)) h3.1 ?_⟩) h2;rw[Array.setIfInBounds_comm _ _ hji];exact h3.2.2
theorem EM {i:Nat}{oi:Oper}{v:Value}{fuel:Nat}{listed:Array Bool}{a:Act}{w:World}(hi:ops[i]?=some oi)
  (hs:Region.noSelect ops=true) (hf:Region.free md ops listed i=true) (hr:(Region.ready md ops listed).contains i=true)
  (hc:Region.yE md ops listed=true) (hl:Region.lastB md ops listed ds i=true)
  (hQ:∀c a w,Q (.panic c) (a.put oi.dst v) w→Q (.panic c) a w) (hy:YieldsIf P ops S oi v a) (hS:S w)
  (h:eH P md ops Q S ds fuel (listed.setIfInBounds i true) (a.put oi.dst v) w):eH P md ops Q S ds (fuel+1) listed a w:=
 CO hi (Region.noSelect_spec hs) hQ ops.size fuel listed a w (Region.free_spec hi hf) (Region.Iq hc)
  (fun d hm hun=>by have:=List.all_eq_true.1 hl d hm;rw[hun]at this;simpa using this) (by simpa using hr) hy hS h
theorem Fv {rs:List Nat}{fuel:Nat}{listed:Array Bool}{a:Act}{w:World}(hr:Region.ready md ops listed=rs)(hne:rs≠[])
  (h:∀i∈rs,wpOp P ops Q i (fun a' w'=>(i∉ds→S w→S w')∧eH P md ops Q S ds fuel (listed.setIfInBounds i true) a' w') a w):eH P md ops Q S ds (fuel+1) listed a w:=
 ⟨fun h0=>absurd (hr▸h0) hne,hr▸h⟩
theorem EL {listed:Array Bool}{a:Act}{w:World}(hr:Region.ready md ops listed=[])(h:Q .normal a w):
  ∀fuel,eH P md ops Q S ds fuel listed a w
 |0=>⟨hr,h⟩
 |_+1=>⟨fun _=>h,by rw[hr];simp⟩
theorem EN {id:Nat}{a:Act}{w:World}(hm:P.follows .mixedOrders=true)
  (h:eH P .any ops Q S ds ops.size (Array.replicate ops.size false) a {w with drawn:=w.drawn+1}):(Code.region id ops true).wp P Q a w:=
 wp_region_any hm (wZ _ _ _ _ h)
def jG (P:Program)(md:Region.Mode)(ops:Array Oper)(Q:Exit→Act→World→Prop)(S:World→Prop)(ds:List Nat)(fuel:Nat)(listed:Array Bool)(a:Act)(w:World)(rs:List Nat):Prop:=
 ∀i∈rs,wpOp P ops Q i (fun a' w'=>(i∉ds→S w→S w')∧eH P md ops Q S ds fuel (listed.setIfInBounds i true) a' w') a w
theorem jG.nil {fuel:Nat}{listed:Array Bool}{a:Act}{w:World}:jG P md ops Q S ds fuel listed a w []:=fun _ h=>by cases h
theorem jG.cons {fuel:Nat}{listed:Array Bool}{a:Act}{w:World}{i:Nat}{o:Oper}{rs:List Nat}(ho:ops[i]?=some o)(hd:i∉ds)
  (h:∀K':Act→World→Prop,Shut (∀a w,S w→(S w→eH P md ops Q S ds fuel (listed.setIfInBounds i true) a w)→K' a w)→if Region.wanted o (yielded ops a.tmps)=true then Oper.wp P o a w K' Q else K' (a.put o.dst undef) w)
  (hs:jG P md ops Q S ds fuel listed a w rs):jG P md ops Q S ds fuel listed a w (i::rs):=fun j hj=>by
 rcases List.mem_cons.1 hj with rfl|hj
 ·exact wpOp_step ho (fun K' hK=>h K' (fun a w hS hW=>hK a w ⟨fun _ _=>hS,hW hS⟩))
 ·exact hs j hj
theorem jG.Ri {fuel:Nat}{listed:Array Bool}{a:Act}{w:World}{i:Nat}{o:Oper}{rs:List Nat}(ho:ops[i]?=some o)(hd:i∈ds)
  (h:∀K':Act→World→Prop,Shut (∀a w,eH P md ops Q S ds fuel (listed.setIfInBounds i true) a w→K' a w)→if Region.wanted o (yielded ops a.tmps)=true then Oper.wp P o a w K' Q else K' (a.put o.dst undef) w)
  (hs:jG P md ops Q S ds fuel listed a w rs):jG P md ops Q S ds fuel listed a w (i::rs):=fun j hj=>by
 rcases List.mem_cons.1 hj with rfl|hj
 ·exact wpOp_step ho (fun K' hK=>h K' (fun a w hW=>hK a w ⟨fun hn=>absurd hd hn,hW⟩))
 ·exact hs j hj
theorem CP {rs:List Nat}{fuel:Nat}{listed:Array Bool}{a:Act}{w:World}(hr:Region.ready md ops listed=rs)(hne:rs≠[])
  (h:jG P md ops Q S ds fuel listed a w rs):eH P md ops Q S ds (fuel+1) listed a w:=Fv hr hne h
theorem ae5 {id n:Nat}{a:Act}{w:World}(l:Array Bool)(hm:P.follows .mixedOrders=true)(hn:ops.size=n)(hl:Array.replicate n false=l)(hS:S w.drew)
  (h:S w.drew→eH P .any ops Q S ds n l a w.drew):(Code.region id ops true).wp P Q a w:=by
 subst hn;subst hl;exact EN hm (h hS)
def takeB (md:Region.Mode)(ops:Array Oper)(ds:List Nat)(l l':Array Bool)(i:Nat):Bool:=
 Region.noSelect ops&&Region.free md ops l i&&(Region.ready md ops l).contains i&&Region.yE md ops l&&Region.lastB md ops l ds i&&(l.setIfInBounds i true==l')
theorem QI {i:Nat}{N:Option Tmp}{oi:Oper}{v:Value}{fuel:Nat}{l:Array Bool}{a:Act}{w:World}(l':Array Bool)(hi:ops[i]?=some oi)(hN:oi.dst=N)(hc:takeB md ops ds l l' i=true)
  (hQ:∀c a w,Q (.panic c) (a.put oi.dst v) w→Q (.panic c) a w) (hy:YieldsIf P ops S oi v a) (hS:S w) {a':Act} (ha:a.put N v=a')
  (h:eH P md ops Q S ds fuel l' a' w):eH P md ops Q S ds (fuel+1) l a w:=by
 subst ha;subst hN;simp only[takeB,Bool.and_eq_true,beq_iff_eq]at hc;obtain⟨⟨⟨⟨⟨h1,h2⟩,h3⟩,h4⟩,h5⟩,h6⟩:=hc;subst h6;exact EM hi h1 h2 h3 h4 h5 hQ hy hS h
def Zd (md:Region.Mode)(ops:Array Oper)(l l':Array Bool)(i:Nat):Bool:=
 Region.noSelect ops&&Region.free md ops l i&&(Region.ready md ops l).contains i&&(l.setIfInBounds i true==l')
theorem tK {i:Nat}{N:Option Tmp}{oi:Oper}{v:Value}{fuel:Nat}{l:Array Bool}{a:Act}{w:World}(l':Array Bool)(hi:ops[i]?=some oi)(hN:oi.dst=N)(hc:Zd md ops l l' i=true)
  (hQ:∀c a w,Q (.panic c) (a.put oi.dst v) w→Q (.panic c) a w) (hy:Yields P ops oi v a) {a':Act} (ha:a.put N v=a')
  (h:eH P md ops Q S ds fuel l' a' w):eH P md ops Q S ds (fuel+1) l a w:=by
 subst ha;subst hN;simp only[Zd,Bool.and_eq_true,beq_iff_eq]at hc;obtain⟨⟨⟨h1,h2⟩,h3⟩,h6⟩:=hc;subst h6;exact Fz hi (Region.noSelect_spec h1) hQ fuel l a w (Region.free_spec hi h2) (by simpa using h3) hy h
def Jg (md:Region.Mode)(ops:Array Oper)(l l':Array Bool)(i:Nat):Bool:=(Region.ready md ops l==[i])&&(l.setIfInBounds i true==l')
theorem abw {i:Nat}{N:Option Tmp}{oi:Oper}{fuel:Nat}{l:Array Bool}{a:Act}{w:World}(l':Array Bool)(hi:ops[i]?=some oi)(hN:oi.dst=N)(hc:Jg md ops l l' i=true)(hd:i∈ds)
  (h:∀K:Act→World→Prop,Shut (∀a' w',eH P md ops Q S ds fuel l' a' w'→K a' w')→if Region.wanted oi (yielded ops a.tmps)=true then Oper.wp P oi a w K Q else K (a.put N undef) w):
  eH P md ops Q S ds (fuel+1) l a w:=by
 subst hN;simp only[Jg,Bool.and_eq_true,beq_iff_eq]at hc;obtain⟨h1,h2⟩:=hc;subst h2;exact CP h1 (by simp) (jG.Ri hi hd (fun K hK=>h K hK) jG.nil)
theorem agw {l:Array Bool}{a:Act}{w:World}{n:Nat}(hr:(Region.ready md ops l==[])=true)(h:Q .normal a w):eH P md ops Q S ds n l a w:=EL (by simpa using hr) h n
theorem Zr {f:FuncId}{fn:Func}(hf:P.funcs[f]?=some fn)(hname:(fn.name== "runtime.NumGoroutine")=false)(hb:fn.body.isSome=true)(args:Array Value)(w:World):(callFunc f args).run P w= .ok (.enter f args) w:=by
 have h1:fn.name≠ "runtime.NumGoroutine" :=by simpa using hname
 obtain⟨c,hc⟩:=Option.isSome_iff_exists.1 hb;simp[callFunc,hf,h1,hc]
theorem pO {rest:List Oper}{oi:Oper}{a:Act}{w:World}(N:Option Tmp)(hd:oi.dst=N)(hg:oi.guard=none){f:FuncId}{fn:Func}{as_:Array Operand}{ts:Array TypeId}(hf:P.funcs[f]?=some fn)(hname:(fn.name== "runtime.NumGoroutine")=false)(hb:fn.body.isSome=true)(args:Array Value)
  (hop:oi.op= .call {callee:= .value (.func f),args:=as_,argTypes:=ts}) (hargs:as_.map a.eval=args)
  (h:Calls P f args w fun e w'=>∃v,e= .returned v∧wpList P ops Q rest (a.put N v) w'):wpList P ops Q (oi::rest) a w:=by
 refine wpList_plain hg fun K hK=>?_
 have he:=Zr hf hname hb args w
 have hrun:(execOp a.eval oi).run P w= .ok (.enter f args) w:=by
  unfold execOp;simp[hop,resolve,Deferred.ofValue,invoke,Act.eval,hargs,he]
 unfold Oper.wp;rw[hrun,Oper.upon_enter];refine h.mono fun e w'' hh=>?_
 obtain⟨v,rfl,hk⟩:=hh;subst hd;exact hK _ _ hk
theorem abz {oi:Oper}{a:Act}{w w1:World}{K:Act→World→Prop}(hw:Region.wanted oi (yielded ops a.tmps)=true)(hN:oi.dst=none)(hrun:(execOp a.eval oi).run P w= .ok .skip w1)
  (h:K a w1):if Region.wanted oi (yielded ops a.tmps)=true then Oper.wp P oi a w K Q else K (a.put none undef) w:=by
 rw[if_pos hw];unfold Oper.wp;rw[hrun]
 show K (a.put oi.dst undef) w1
 rw[hN];exact h
theorem dL (n:Int):IntKind.i64.wrap n=Go.RowKit.wrap64 n:=by unfold Go.RowKit.wrap64;exact IntKind.wrap_i64 n
theorem jK (n:Int):IntKind.i32.wrap n=Go.RowKit.wrap32 n:=by unfold Go.RowKit.wrap32;exact IntKind.wrap_i32 n
end
open Go.Proofs.YthbdjmopolpjmaaGreatDoorW.PrintWords (Aside0)
def vJ (md:Region.Mode)(o:Oper):List Nat:=(o.after.toList.filter (fun e=>Region.binds md e)).map (fun e=>e.on)
def Ip (md:Region.Mode)(ops:Array Oper)(i:Nat)(oi:Oper):List Nat:=(List.range ops.size).filter fun j=> !(j==i)&&match ops[j]? with
 |some oj=> !(oj.after.any (fun e=>Region.binds md e&&e.on==i)||oi.apart ops oj)
 |none=>false
def qQ (md:Region.Mode)(ops:Array Oper):Bool×List (List Nat×List Nat):=(Region.noSelect ops,(List.range ops.size).map fun i=>match ops[i]? with
 |some o=>(vJ md o,Ip md ops i o)
 |none=>([],[]))
def qF (T:List (List Nat×List Nat))(l:List Bool)(i:Nat):Bool:= !l.getD i true&&match T[i]? with
 |some r=>r.1.all (fun j=>l.getD j false)
 |none=>false
def Ez (T:List (List Nat×List Nat))(l:List Bool):List Nat:=(List.range T.length).filter (qF T l)
def KE (T:List (List Nat×List Nat))(l:List Bool)(i:Nat):Bool:=match T[i]? with
 |some r=>r.2.all (fun j=>l.getD j true)
 |none=>false
def CS (T:List (List Nat×List Nat))(l:List Bool):Bool:=(List.range T.length).all fun j=> !l.getD j false||match T[j]? with
 |some r=>r.1.all (fun k=>l.getD k false)
 |none=>true
def Ae (T:List (List Nat×List Nat))(i:Nat):Nat→Nat→Bool
 |0,_=>false
 |fuel+1,d=>match T[d]? with
  |some r=>r.1.any fun j=>j==i||Ae T i fuel j
  |none=>false
def lastT (T:List (List Nat×List Nat))(l:List Bool)(ds:List Nat)(i:Nat):Bool:=ds.all fun d=>l.getD d true||Ae T i T.length d
section
variable {md : Region.Mode} {ops : Array Oper} {T : Bool × List (List Nat × List Nat)} {l l' li lj lk : Array Bool} {ds : List Nat} {i j k : Nat}
theorem gd (l:Array Bool)(j:Nat)(b:Bool):l.getD j b=l.toList.getD j b:=by simp[Array.getD_eq_getD_getElem?,List.getD_eq_getElem?_getD]
theorem GK (o:Oper)(p:Nat→Bool):o.after.all (fun e=> !Region.binds md e||p e.on)=(vJ md o).all p:=by
 unfold vJ;rw[←Array.all_toList]
 induction o.after.toList with
 |nil=>rfl
 |cons e r ih=>
  rw[List.all_cons,ih,List.filter_cons];cases h:Region.binds md e<;>simp
theorem Sr (o:Oper)(p:Nat→Bool):o.after.any (fun e=>Region.binds md e&&p e.on)=(vJ md o).any p:=by
 unfold vJ;rw[←Array.any_toList]
 induction o.after.toList with
 |nil=>rfl
 |cons e r ih=>
  rw[List.any_cons,ih,List.filter_cons];cases h:Region.binds md e<;>simp
theorem qG:(qQ md ops).2.length=ops.size:=by simp[qQ]
theorem vN {o:Oper}(h:ops[i]?=some o):(qQ md ops).2[i]?=some (vJ md o,Ip md ops i o):=by
 have hi:=(Array.getElem?_eq_some_iff.1 h).1;unfold qQ;rw[List.getElem?_map,List.getElem?_range hi,Option.map_some,h]
theorem vM (h:ops[i]?=none):(qQ md ops).2[i]?=none:=by
 have hi:ops.size≤i:=Array.getElem?_eq_none_iff.1 h;exact List.getElem?_eq_none (by rw[qG];exact hi)
theorem Px:qF (qQ md ops).2 l.toList i=(!l.getD i true&&((ops[i]?).map (·.after.all fun e=> !Region.binds md e||l.getD e.on false)).getD false):=by
 unfold qF;rw[gd];cases h:ops[i]? with
 |none=>rw[vM h];rfl
 |some o=>
  rw[vN h];simp only[Option.map_some,Option.getD_some];rw[←GK];simp only[gd]
theorem ready_eq:Region.ready md ops l=Ez (qQ md ops).2 l.toList:=by
 unfold Region.ready Ez;rw[qG];refine List.filter_congr (fun i _=>?_);rw[Px]
theorem free_eq:Region.free md ops l i=KE (qQ md ops).2 l.toList i:=by
 unfold Region.free KE;cases h:ops[i]? with
 |none=>rw[vM h]
 |some oi=>
  rw[vN h];simp only[Ip];rw[List.all_filter]
  congr 1
  funext j;rw[gd];cases hj:ops[j]? with
  |none=>cases(j==i)<;>cases(l.toList.getD j true)<;>simp
  |some oj=>
   cases(j==i)<;>cases(l.toList.getD j true)<;>cases(oj.after.any (fun e=>Region.binds md e&&e.on==i)||oi.apart ops oj)<;>simp_all
theorem Rh:Region.yE md ops l=CS (qQ md ops).2 l.toList:=by
 unfold Region.yE CS;rw[qG]
 congr 1
 funext j;rw[gd];cases h:ops[j]? with
 |none=>rw[vM h]
 |some o=>
  rw[vN h];simp only;rw[←GK];simp only[gd]
theorem reach_eq:∀(fuel d:Nat),Region.oJ md ops i fuel d=Ae (qQ md ops).2 i fuel d
 |0,_=>rfl
 |fuel+1,d=>by
  unfold Region.oJ Ae;cases h:ops[d]? with
  |none=>rw[vM h]
  |some o=>
   rw[vN h];simp only;rw[←Sr]
   congr 1
   funext e;rw[reach_eq fuel]
theorem Z7:Region.lastB md ops l ds i=lastT (qQ md ops).2 l.toList ds i:=by
 unfold Region.lastB lastT;rw[qG]
 congr 1
 funext d;rw[gd,reach_eq]
theorem BB (h:qF T.2 l.toList i=true)(hT:qQ md ops=T):(Region.ready md ops l).contains i=true:=by
 subst hT;rw[ready_eq];unfold Ez;rw[List.contains_iff_mem,List.mem_filter,List.mem_range];refine⟨?_,h⟩;unfold qF at h;rw[Bool.and_eq_true]at h;cases hq:(qQ md ops).2[i]? with
 |none=>rw[hq]at h;simp at h
 |some r=>exact(List.getElem?_eq_some_iff.1 hq).1
theorem Pz (h:(l.toList.set i true==l'.toList)=true):(l.setIfInBounds i true==l')=true:=by
 rw[beq_iff_eq]at h⊢;apply Array.ext';rw[Array.toList_setIfInBounds];exact h
def agn (T:Bool×List (List Nat×List Nat))(l l':List Bool)(i:Nat):Bool:=T.1&&KE T.2 l i&&qF T.2 l i&&(l.set i true==l')
theorem nY (hT:qQ md ops=T)(h:agn T l.toList l'.toList i=true):Zd md ops l l' i=true:=by
 simp only[agn,Bool.and_eq_true]at h;obtain⟨⟨⟨h1,h2⟩,h3⟩,h4⟩:=h;have h5:=BB h3 hT;have h6:=Pz h4;subst hT;simp only[Zd,Bool.and_eq_true];exact⟨⟨⟨h1,by rw[free_eq];exact h2⟩,h5⟩,h6⟩
def Yk (T:Bool×List (List Nat×List Nat))(ds:List Nat)(l l':List Bool)(i:Nat):Bool:=T.1&&KE T.2 l i&&qF T.2 l i&&CS T.2 l&&lastT T.2 l ds i&&(l.set i true==l')
theorem aav (hT:qQ md ops=T)(h:Yk T ds l.toList l'.toList i=true):takeB md ops ds l l' i=true:=by
 simp only[Yk,Bool.and_eq_true]at h;obtain⟨⟨⟨⟨⟨h1,h2⟩,h3⟩,h4⟩,h5⟩,h6⟩:=h;have h7:=BB h3 hT;have h8:=Pz h6;subst hT;simp only[takeB,Bool.and_eq_true];exact⟨⟨⟨⟨⟨h1,by rw[free_eq];exact h2⟩,h7⟩,by rw[Rh];exact h4⟩,by rw[Z7];exact h5⟩,h8⟩
theorem XL (hT:qQ md ops=T)(h:(Ez T.2 l.toList==[i]&&l.toList.set i true==l'.toList)=true):Jg md ops l l' i=true:=by
 simp only[Bool.and_eq_true]at h;obtain⟨h1,h2⟩:=h;subst hT;simp only[Jg,Bool.and_eq_true];exact⟨by rw[ready_eq];exact h1,Pz h2⟩
theorem Zo (hT:qQ md ops=T)(h:(Ez T.2 l.toList==[])=true):(Region.ready md ops l==[])=true:=by
 subst hT;rw[ready_eq];exact h
def upM (B:List Nat)(d:Nat):List Nat→Nat
 | []=>0
 |n::r=>(2^n|||(if n<d then B.getD n 0 else 0))|||upM B d r
def zo (T:List (List Nat×List Nat))(B:List Nat):Bool:=(List.range T.length).all fun d=>match T[d]? with
 |some r=>(B.getD d 0|||upM B d r.1)==upM B d r.1
 |none=>false
theorem QO {B:List Nat}{d i:Nat}:∀{ns:List Nat},(upM B d ns).testBit i=true→∃n∈ns,n=i∨(n<d∧(B.getD n 0).testBit i=true)
 | [],h=>by simp[upM]at h
 |n::r,h=>by
  unfold upM at h;rw[Nat.testBit_or,Nat.testBit_or,Bool.or_eq_true,Bool.or_eq_true]at h;rcases h with(h|h)|h
  ·rw[Nat.testBit_two_pow]at h;exact⟨n,List.mem_cons_self,.inl (by simpa using h)⟩
  ·by_cases hn:n<d
   ·rw[if_pos hn]at h;exact⟨n,List.mem_cons_self,.inr ⟨hn,h⟩⟩
   ·rw[if_neg hn]at h;simp at h
  ·obtain⟨m,hm,h2⟩:=QO h;exact⟨m,List.mem_cons_of_mem _ hm,h2⟩
theorem GR {T:List (List Nat×List Nat)}{B:List Nat}(hB:zo T B=true):∀(fuel d:Nat),d<fuel→d<T.length→(B.getD d 0).testBit i=true→Ae T i fuel d=true
 |0,d,h,_,_=>by omega
 |fuel+1,d,h,hd,hb=>by
  have h1:=List.all_eq_true.1 hB d (List.mem_range.2 hd);cases hr:T[d]? with
  |none=>rw[hr]at h1;simp at h1
  |some r=>
   rw[hr]at h1;simp only[beq_iff_eq]at h1;have h2:(upM B d r.1).testBit i=true:=by rw[←h1,Nat.testBit_or,hb,Bool.true_or]
   obtain⟨n,hn,h3⟩:=QO h2;unfold Ae;rw[hr];simp only;rw[List.any_eq_true];refine⟨n,hn,?_⟩;rcases h3 with rfl|⟨h4,h5⟩
   ·simp
   ·rw[GR hB fuel n (by omega) (by omega) h5,Bool.or_true]
def abv (T:List (List Nat×List Nat))(B:List Nat)(l:List Bool)(ds:List Nat)(i:Nat):Bool:=ds.all fun d=>l.getD d true||(decide (d<T.length)&&(B.getD d 0).testBit i)
def abA (T:Bool×List (List Nat×List Nat))(B:List Nat)(ds:List Nat)(l l':List Bool)(i:Nat):Bool:=T.1&&KE T.2 l i&&qF T.2 l i&&CS T.2 l&&abv T.2 B l ds i&&(l.set i true==l')
theorem MF {B:List Nat}(hT:qQ md ops=T)(hB:zo T.2 B=true)(h:abA T B ds l.toList l'.toList i=true):takeB md ops ds l l' i=true:=by
 refine aav hT ?_;simp only[abA,Yk,Bool.and_eq_true]at h⊢;obtain⟨⟨⟨⟨⟨h1,h2⟩,h3⟩,h4⟩,h5⟩,h6⟩:=h;refine⟨⟨⟨⟨⟨h1,h2⟩,h3⟩,h4⟩,?_⟩,h6⟩;unfold abv at h5;unfold lastT;rw[List.all_eq_true]at h5⊢;intro d hd;have h7:=h5 d hd;rw[Bool.or_eq_true,Bool.and_eq_true,decide_eq_true_eq]at h7;rcases h7 with h7|⟨h8,h9⟩
 ·rw[h7,Bool.true_or]
 ·rw[GR hB _ d h8 h8 h9,Bool.or_true]
theorem TI {P:Program}{Q:Exit→Act→World→Prop}{S:World→Prop}{n:Nat}{a:Act}{w:World}{B:List Nat}(hT:qQ md ops=T)(hB:zo T.2 B=true)(h:Aside0 (qQ md ops=T)→Aside0 (zo T.2 B=true)→eH P md ops Q S ds n l a w):eH P md ops Q S ds n l a w:=h ⟨hT⟩ ⟨hB⟩
end
def wR:Code→Nat→Option (Array Oper)
 | .region id ops _,k=>if id==k then some ops else none
 | .seq a b,k=>match wR a k with
  |some o=>some o
  |none=>wR b k
 | .cond _ a b,k=>match wR a k with
  |some o=>some o
  |none=>wR b k
 | .block _ c,k=>wR c k
 | .loop c,k=>wR c k
 | .scope c,k=>wR c k
 | .rangeFunc _ _ a b,k=>match wR a k with
  |some o=>some o
  |none=>wR b k
 |_,_=>none
def opsOf (f:Func)(k:Nat):Array Oper:=((f.body.bind fun c=>wR c k)).getD #[]
end Go.Proofs.YthbdjmopolpjmaaGreatDoorW.PrintLast
namespace Go.Proofs.YthbdjmopolpjmaaGreatDoorW.PrintWords
open Go.RowKit
namespace Kd
def tag {α:Type}(f:Nat→Nat)(d:Kd α):Kd (α×Nat) where
 sz:=d.sz
 E:=d.E
 K:=fun w x cs=>d.K w x.1 cs
 M:=fun w base ok x cs=>d.M w base (fun k=>ok k∧f k=x.2) x.1 cs
 mi:=fun h=>d.mi h
 mr:=fun h=>d.mr h
 jC:=fun hb h=>d.jC hb h
 iY:=fun h=>d.iY h
 gZ:=fun hok h=>d.gZ (fun k hk=>⟨hok k hk.1,hk.2⟩) h
 iM:=fun h=>d.gZ (fun _ hk=>⟨⟨hk.1.1,hk.2⟩,hk.1.2⟩) (d.iM h)
 jR:=fun hm h=>d.jR (fun k hk=>hm k hk.1) h
 jD:=fun hb h=>d.jD hb h
def bare {α:Type}(d:Kd α):Kd α where
 sz:=d.sz
 E:=d.E
 K:=d.K
 M:=fun w base _ x cs=>d.M w base (fun _=>False) x cs
 mi:=fun h=>d.mi h
 mr:=fun h=>d.mr h
 jC:=fun hb h=>d.jC hb h
 iY:=fun h=>d.iY h
 gZ:=fun _ h=>h
 iM:=fun h=>h
 jR:=fun _ h=>d.jR (fun _ hk=>hk.elim) h
 jD:=fun hb h=>d.jD hb h
def raw (sz:Nat):Kd (List Value) where
 sz:=sz
 E:=[]
 K:=fun _ x cs=>cs=x∧cs.length=sz∧∀u∈cs,u.oneCell'=true
 M:=fun _ _ _ x cs=>cs=x∧cs.length=sz∧∀u∈cs,u.oneCell'=true
 mi:=fun h=>h.2.1
 mr:=fun h=>h.2.2
 jC:=fun _ h=>h
 iY:=fun h=>h
 gZ:=fun _ h=>h
 iM:=fun h=>h
 jR:=fun _ h=>h
 jD:=fun _ h=>h
def S {α:Type}(d:Kd α)(e:Nat)(w:World)(base:Nat)(ok:Nat→Prop)(v:Value)(xs:List α):Prop:=∃f,(tag f d).R e w base ok v xs.zipIdx
section
variable {α β : Type} {d : Kd α} {d' : Kd β} {e e' : Nat} {w w1 W : World} {base b : Nat} {ok ok' wQ oku : Nat → Prop} {u v : Value} {xs : List α} {ys : List β}
theorem aem {xs:List α}{j:Nat}{p:α}(h:xs[j]?=some p):xs.zipIdx[j]?=some (p,j):=by rw[List.getElem?_zipIdx,h,Nat.zero_add];rfl
theorem S_R (h:S d e w base ok v xs):d.R e w base ok v xs:=by
 obtain⟨f,h0,inner,ho,hr⟩:=h;rw[List.length_zipIdx]at ho;exact⟨h0,inner,ho,by have:=hr.1;rw[List.length_zipIdx]at this;exact this,fun j p hj=>d.gZ (fun _ hk=>hk.1) (hr.2 j (p,j) (aem hj))⟩
theorem uU (hE:d.E=[])(h:d.R e w base ok v xs):d.R e w base (fun k=>some k=v.ownBlock) v xs:=by
 obtain⟨h0,inner,ho,hr⟩:=h;refine⟨fun k hk=>hk.symm,inner,ho,hr.xI (fun p c hp=>d.gZ (fun k hk=>?_) (d.iM hp))⟩;obtain⟨_,_,_,q,hq,_⟩:=hk;rw[hE]at hq;cases hq
theorem tH (d:Kd α)(e:Nat)(w:World)(base:Nat)(ok:Nat→Prop):S d e w base ok (.slice none 0 0) []:=⟨fun _=>0,jB _ _ _ _ _⟩
theorem Ii (h:S d e w base ok v xs)(hok:∀k,ok k→ok' k):S d e w base ok' v xs:=by
 obtain⟨f,h⟩:=h;exact⟨f,gI h hok⟩
theorem Ih (h:S d e w base ok v xs):S d e w base (fun k=>ok k∧base≤k∧k<w.heap.size∧∃q,q∈e::d.E∧∃cells,w.heap[k]?=some (.cells cells q (0,0))) v xs:=by
 obtain⟨f,h⟩:=h;exact⟨f,jS h⟩
theorem ac4 (h:S d e w base ok v xs)(hm:∀k,ok k→w1.heap[k]?=w.heap[k]?):S d e w1 base ok v xs:=by
 obtain⟨f,h⟩:=h;exact⟨f,Dx h hm⟩
theorem ac5 (h:S d e w base ok v xs)(hm:∀k,ok k→k<w.heap.size→w1.heap[k]?=w.heap[k]?):S d e w1 base ok v xs:=
 Ii (ac4 (Ih h) (fun k hk=>hm k hk.1 hk.2.2.1)) (fun _ hk=>hk.1)
theorem PY (h:S d e w base ok v xs)(hb:Below w.heap.size w w1):S d e w1 base ok v xs:=ac5 h (fun k _ hk=>hb.block k hk)
theorem akn (h:S d e w base ok v xs):∀k,v.ownBlock=some k→k<w.heap.size:=Dw (S_R h)
theorem ag0 (h:S d e W base ok u xs)(hb:Below W.heap.size W w1):S d e w1 base (fun k=>ok k∧k<W.heap.size) u xs:=
 Ii (PY (Ih h) hb) (fun _ hk=>⟨hk.1,hk.2.2.1⟩)
theorem afY {f f':Nat→Nat}{zs:List (α×Nat)}(h:(tag f d).R e w base ok v zs)(hf:∀k,ok k→k<w.heap.size→f' k=f k):(tag f' d).R e w base ok v zs:=by
 obtain⟨h0,inner,ho,hr⟩:=jS h;exact⟨fun k hk=>(h0 k hk).1,inner,ho,hr.1,fun j p hj=>d.gZ (fun k hk=>⟨⟨hk.1.1.1,hk.1.2⟩,(hf k hk.1.1.1 hk.1.1.2.2.1).trans hk.2⟩) (hr.2 j p hj)⟩
end
section
variable {α β : Type} {d : Kd α} {d' : Kd β} {e e' g : Nat} {w w1 W : World} {base b : Nat} {ok ok' wQ oku : Nat → Prop} {u v : Value} {xs : List α} {ys : List β}
theorem Ij (h:S d e w base ok v xs):∃A c,v= .slice A xs.length c:=fO (S_R h)
theorem YF (xs:List α)(p:α):(xs++[p]).zipIdx=xs.zipIdx++[(p,xs.length)]:=by rw[List.zipIdx_append];simp
end
section
open Classical in
theorem ag1 {α:Type}{d:Kd α}{e base:Nat}{wQ:Nat→Prop}{w:World}{v:Value}{xs:List α}(h:S d e w base wQ v xs)(m:Nat)(mO:Nat→Prop)(hap:∀k,mO k→¬wQ k):∃f,(∀k,mO k→f k=m)∧(tag f d).R e w base wQ v xs.zipIdx:=by
 obtain⟨f,h⟩:=h;exact⟨fun k=>if mO k then m else f k,fun k hk=>if_pos hk,afY h (fun k hk _=>if_neg (fun h2=>hap k h2 hk))⟩
variable {P : Program} {ops : Array Oper} {rest : List Oper} {o : Oper} {a : Act} {Q : Exit → Act → World → Prop} {Kc : Act → World → Prop} {α : Type}
theorem UC (d:Kd α){w0 W:World}(base:Nat)(hgd:o.guard=none)(s x:Operand)(t e:TypeId)(z:Value)(bytes:Nat)
  (ho:o.op= .call {callee:= .builtin .append,args:= #[s,x],argTypes:= #[t,t]})
  (ht:P.underlying t=some (.slice e)) (hinfo:(P.info? e).map (fun i=>(i.zero,i.size,i.bytes))=some (some z,d.sz,bytes)) (hz:z.cells.size=d.sz) (hs0:0<d.sz) (hb0:0<bytes)
  (v:Value) (xs:List α) (p:α) (cs:List Value) (ok mO:Nat→Prop) (hs:a.eval s=v) (hx:a.eval x= .slice (some ⟨W.heap.size,0,none⟩) 1 1) (hp:d.M W base mO p cs) (Ou:∀k,mO k→ok k∧some k≠v.ownBlock) (hfresh:∀k,W.heap.size≤k→ok k)
  (HO:S d e W base (fun k=>ok k∧¬mO k) v xs) (HB:Below base w0 W) (hbase:base≤W.heap.size) (hl:(xs.length+1)*bytes≤140737488355328)
  (h:∀v1 w1,S d e w1 base ok v1 (xs++[p])→Below base w0 w1→W.grownBy w1 v.ownBlock→(v1.ownBlock=v.ownBlock∨∃b,v1.ownBlock=some b∧W.heap.size≤b)→wpList P ops Q rest (a.put o.dst v1) w1):
  wpList P ops Q (o::rest) a (W.alloc (.cells cs.toArray e)):=by
 obtain⟨f,hf,hR⟩:=ag1 HO xs.length mO (fun _ hk h2=>h2.2 hk);refine dZ (tag f d) base hgd s x t e z bytes ho ht hinfo hz hs0 hb0 v xs.zipIdx (p,xs.length) cs ok mO hs hx (d.gZ (fun k hk=>⟨hk,hf k hk⟩) hp) Ou hfresh (gI hR (fun _ hk=>hk.1)) HB hbase (by rw[List.length_zipIdx];exact hl) ?_;intro v1 w1 hr;rw[←YF]at hr;exact h v1 w1 ⟨f,hr⟩
end
def gap {α:Type}(f:Nat→Nat)(d:Kd α)(i:Nat)(c:List Value):Kd (α×Nat) where
 sz:=d.sz
 E:=d.E
 K:=fun w x cs=>(x.2=i→cs=c∧cs.length=d.sz∧∀u∈cs,u.oneCell'=true)∧(x.2≠i→d.K w x.1 cs)
 M:=fun w base ok x cs=>(x.2=i→cs=c∧cs.length=d.sz∧∀u∈cs,u.oneCell'=true)∧(x.2≠i→d.M w base (fun k=>ok k∧f k=x.2) x.1 cs)
 mi:=fun{w x cs} h=>by
  by_cases hx:x.2=i
  ·exact(h.1 hx).2.1
  ·exact d.mi (h.2 hx)
 mr:=fun{w x cs} h=>by
  by_cases hx:x.2=i
  ·exact(h.1 hx).2.2
  ·exact d.mr (h.2 hx)
 jC:=fun hb h=>⟨h.1,fun hx=>d.jC hb (h.2 hx)⟩
 iY:=fun h=>⟨h.1,fun hx=>d.iY (h.2 hx)⟩
 gZ:=fun hok h=>⟨h.1,fun hx=>d.gZ (fun k hk=>⟨hok k hk.1,hk.2⟩) (h.2 hx)⟩
 iM:=fun h=>⟨h.1,fun hx=>d.gZ (fun _ hk=>⟨⟨hk.1.1,hk.2⟩,hk.1.2⟩) (d.iM (h.2 hx))⟩
 jR:=fun hm h=>⟨h.1,fun hx=>d.jR (fun k hk=>hm k hk.1) (h.2 hx)⟩
 jD:=fun hb h=>⟨h.1,fun hx=>d.jD hb (h.2 hx)⟩
def H {α:Type}(d:Kd α)(e:Nat)(w:World)(base:Nat)(ok:Nat→Prop)(v:Value)(xs:List α)(i:Int)(oki:Nat→Prop)(c:List Value):Prop:=
 (∀k,oki k→ok k)∧∃f,(gap f d i.toNat c).R e w base (fun k=>ok k∧¬oki k) v xs.zipIdx
structure Heap {α:Type}(d:Kd α):Prop where
 K:∀{w w1:World} {x:α} {cs:List Value},(∀k,k<w.heap.size→w1.heap[k]?=w.heap[k]?)→d.K w x cs→d.K w1 x cs
theorem Q9 {w w1:World}(hb:∀k,k<w.heap.size→w1.heap[k]?=w.heap[k]?){a:Addr}{v:Value}(h:w.cell? a=some v):w1.cell? a=some v:=by
 have:=hb a.block (World.block_lt_of_cell? w a h);simpa[World.cell?,this]using h
theorem Heap.C {α:Type}{d:Kd α}(hd:Heap d){w w1:World}{A:Option Addr}{n:Nat}{xs:List α}(hb:∀k,k<w.heap.size→w1.heap[k]?=w.heap[k]?)(h:d.C w A n xs):d.C w1 A n xs:=
 ⟨h.1,h.2.1,fun hn=>by
  obtain⟨ad,e,hc⟩:=h.2.2 hn;refine⟨ad,e,fun j p hj=>?_⟩;obtain⟨c,hs,hr,hcell⟩:=hc j p hj
  exact⟨c,hs,hd.K hb hr,fun i u hu=>Q9 hb (hcell i u hu)⟩⟩
theorem KP (k:IntKind):Heap (Kd.int k):=⟨fun _ h=>h⟩
end Kd
def Kept (w W:World)(S:Nat→Prop):Prop:=w.heap.size≤W.heap.size∧∀i,i<w.heap.size→¬S i→W.heap[i]?=w.heap[i]?
section
variable {w W W2 : World} {S S2 S' : Nat → Prop}
theorem Kept.refl (w:World)(S:Nat→Prop):Kept w w S:=⟨Nat.le_refl _,fun _ _ _=>rfl⟩
theorem Kept.of_below (h:Below w.heap.size w W)(S:Nat→Prop):Kept w W S:=⟨h.size,fun i hi _=>h.block i hi⟩
theorem Kept.mono (h:Kept w W S)(hs:∀k,S k→S' k):Kept w W S':=⟨h.1,fun i hi hn=>h.2 i hi (fun hk=>hn (hs i hk))⟩
theorem Kept.QL (h:Kept w W S)(k:Kept W W2 S2)(hs:∀k,S2 k→S k∨w.heap.size≤k):Kept w W2 S:=
 ⟨Nat.le_trans h.1 k.1,fun i hi hn=>(k.2 i (Nat.lt_of_lt_of_le hi h.1) (fun h2=>(hs i h2).elim hn (fun h3=>by omega))).trans (h.2 i hi hn)⟩
theorem Kept.gq {row:Option Nat}(hg:W.grownBy W2 row)(h:Kept w W S)(hr:∀k,row=some k→S k∨w.heap.size≤k):Kept w W2 S:=
 h.QL (S2:=fun k=>row=some k) ⟨hg.size,fun i hi hn=>hg.block i hi (fun he=>hn he.symm)⟩ hr
theorem Kept.below (h:Kept w W S)(hb:Below W.heap.size W W2):Kept w W2 S:=h.QL (Kept.of_below hb (fun _=>False)) (fun _ hk=>hk.elim)
theorem Kept.alloc (h:Kept w W S)(o:Obj):Kept w (W.alloc o) S:=h.below (ag (Below.refl _ _) o)
theorem Kept.drew (h:Kept w W S):Kept w W.drew S:=h
theorem Kept.drewN (h:Kept w W S)(m:Nat):Kept w (W.drewN m) S:=h
theorem Kept.setCell (h:Kept w W S){p:Addr}(hp:S p.block∨w.heap.size≤p.block)(u:Value):Kept w (W.setCell p u) S:=
 h.QL (S2:=fun k=>k=p.block) ⟨by simp[World.setCell],fun i _ hn=>Below.heap_setCell W p u i hn⟩ (fun k hk=>by rw[hk];exact hp)
theorem Kept.keep {g:Nat}(h:iL w W g none)(k:Kept W W2 S2)(hs:∀k,S2 k→w.heap.size≤k):iL w W2 g none:=
 ⟨Nat.le_trans h.1 k.1,fun i hi hg hr=>(k.2 i (Nat.lt_of_lt_of_le hi h.1) (fun h2=>by have:=hs i h2;omega)).trans (h.2 i hi hg hr)⟩
theorem JM {g:Nat}{o:Obj}(hb:W.heap[g]?=some o)(hk:Kept W W2 S)(hne:¬S g):W2.heap[g]?=some o:=(hk.2 g (dV hb) hne).trans hb
end
namespace Kd
section
variable {α : Type} {d : Kd α} {e base n c : Nat} {ok oki S S2 : Nat → Prop} {w w0 W W1 W2 : World} {v : Value} {A : Option Addr} {xs : List α} {i : Int} {cs : List Value}
theorem o7 (h:∀W',Kept w W' S→d.C W' A n xs)(hk:Kept w W S):d.C W A n xs:=h W hk
end
end Kd
def Foot (P:World→Prop)(W:World)(ok:Nat→Prop):Prop:=∀W':World,(∀k,ok k→k<W.heap.size→W'.heap[k]?=W.heap[k]?)→P W'
theorem ZB {W W1:World}{k:Nat}(h:W1.heap[k]?=W.heap[k]?)(hlt:k<W.heap.size):k<W1.heap.size:=by
 rw[Array.getElem?_eq_getElem hlt]at h;exact(Array.getElem?_eq_some_iff.1 h).1
namespace Foot
variable {P Q : World → Prop} {W W1 : World} {ok ok' : Nat → Prop}
theorem now (h:Foot P W ok):P W:=h W (fun _ _ _=>rfl)
theorem mono (h:Foot P W ok)(hok:∀k,ok k→ok' k):Foot P W ok':=fun W' hW=>h W' (fun k hk hlt=>hW k (hok k hk) hlt)
theorem bound (h:Foot P W ok):Foot P W (fun k=>ok k∧k<W.heap.size):=fun W' hW=>h W' (fun k hk hlt=>hW k ⟨hk,hlt⟩ hlt)
theorem step (h:Foot P W ok)(hm:∀k,ok k→k<W.heap.size→W1.heap[k]?=W.heap[k]?):Foot P W1 ok:=fun W' hW=>h W' (fun k hk hlt=>(hW k hk (ZB (hm k hk hlt) hlt)).trans (hm k hk hlt))
theorem imp (h:Foot P W ok)(hi:∀W',P W'→Q W'):Foot Q W ok:=fun W' hW=>hi W' (h W' hW)
theorem old (h:Foot P W ok)(hb:Below W.heap.size W W1):Foot P W1 (fun k=>ok k∧k<W.heap.size):=(h.bound).step (fun k _ hlt=>hb.block k hlt)
end Foot
namespace Kd
def F {α:Type}(d:Kd α)(W:World)(ok:Nat→Prop)(A:Option Addr)(n:Nat)(xs:List α):Prop:=Foot (fun W=>d.C W A n xs) W ok
def FK {α:Type}(d:Kd α)(W:World)(ok:Nat→Prop)(x:α)(c:List Value):Prop:=Foot (fun W=>d.K W x c) W ok
section
variable {α β : Type} {d : Kd α} {e base n n' cc g N : Nat} {ok ok' mO S : Nat → Prop} {w w0 w1 W W1 : World} {A A' : Option Addr} {u v v1 : Value} {xs : List α} {xs' : List β} {d' : Kd β} {x : α} {c : List Value}
theorem aaD (h:F d W ok A n xs):d.C W A n xs:=Foot.now h
theorem Np (h:F d W ok A n xs)(hok:∀k,ok k→ok' k):F d W ok' A n xs:=Foot.mono h hok
theorem TW (h:F d W ok A n xs)(hm:∀k,ok k→k<W.heap.size→W1.heap[k]?=W.heap[k]?):F d W1 ok A n xs:=Foot.step h hm
theorem aeM (h:F d W ok A n xs)(hi:∀W',d.C W' A n xs→d'.C W' A' n' xs'):F d' W ok A' n' xs':=Foot.imp h hi
theorem uT (h:F d W ok A n xs)(hb:Below W.heap.size W W1):F d W1 ok A n xs:=TW h (fun k _ hlt=>hb.block k hlt)
theorem YV (h:F d W ok A n xs)(o:Obj):F d (W.alloc o) ok A n xs:=uT h (ag (Below.refl _ _) o)
theorem abE (h:F d W ok A n xs):F d W.drew ok A n xs:=uT h (dB (Below.refl _ _))
theorem YW (h:F d W ok A n xs)(m:Nat):F d (W.drewN m) ok A n xs:=uT h (ai (Below.refl _ _) m)
theorem aaC (d:Kd α)(W:World)(ok:Nat→Prop):F d W ok none ([]:List α).length []:=fun W' _=>aeL d W'
theorem C_F (hd:Heap d)(h:d.C w A n xs):F d w (fun k=>k<w.heap.size) A n xs:=fun _ hW=>hd.C (fun k hlt=>hW k hlt hlt) h
theorem R_F (h:d.R e W base ok (.slice A n cc) xs):F d W ok A n xs:=fun W' hW=>by
 have h2:=dA (ui h hW);rw[h2.1];exact h2.2.2
theorem YU (h:d.M W base ok x c):FK d W ok x c:=fun _ hW=>d.iY (Us h hW)
end
def chunks (sz:Nat)(n:Nat)(inner:List Value):List (List Value):=(List.range n).map fun j=>(inner.drop (j*sz)).take sz
theorem kX (sz n:Nat)(inner:List Value):(chunks sz n inner).length=n:=by simp[chunks]
theorem Rf {sz n:Nat}{inner:List Value}{j:Nat}(hj:j<n):(chunks sz n inner)[j]?=some ((inner.drop (j*sz)).take sz):=by simp[chunks,hj]
theorem DN {sz n:Nat}{inner:List Value}{j:Nat}{c:List Value}(h:(chunks sz n inner)[j]?=some c):c=(inner.drop (j*sz)).take sz:=by
 have hj:j<n:=by have:=(List.getElem?_eq_some_iff.1 h).1;rwa [kX]at this
 rw[Rf hj]at h;injection h with h;exact h.symm
theorem X7 {α:Type}{Rr:α→List Value→Prop}{sz:Nat}{xs:List α}{inner:List Value}(h:fF Rr sz xs inner)(hR:∀x c,Rr x c→c.length=sz∧∀u∈c,u.oneCell'=true):fF (fun x cs=>cs=x∧cs.length=sz∧∀u∈cs,u.oneCell'=true) sz (chunks sz xs.length inner) inner:=by
 refine⟨by rw[kX];exact h.1,fun j p hj=>?_⟩;have hjl:j<xs.length:=by have:=(List.getElem?_eq_some_iff.1 hj).1;rwa [kX]at this
 have hp:=DN hj;exact⟨hp.symm,hR _ _ (h.2 j _ (List.getElem?_eq_getElem hjl))⟩
section
variable {α : Type} {d : Kd α} {e base n cc g : Nat} {ok ok' mO S : Nat → Prop} {w w1 W W1 : World} {A : Option Addr} {u v v1 : Value} {xs : List α} {x : α} {c : List Value}
def N {α:Type}(d:Kd α)(e:Nat)(w:World)(base:Nat)(ok:Nat→Prop)(v:Value)(xs:List α):Prop:=
 (∀k,v.ownBlock=some k→ok k)∧∃rows:List (List Value),rows.length=xs.length∧(raw d.sz).R e w base (fun k=>some k=v.ownBlock) v rows∧∀(j:Nat) (x:α) (c:List Value),xs[j]?=some x→rows[j]?=some c→FK d w (fun k=>ok k∧some k≠v.ownBlock) x c
theorem R_N (h:d.R e w base ok v xs):N d e w base ok v xs:=by
 obtain⟨h0,inner,ho,hr⟩:=h;refine⟨h0,chunks d.sz xs.length inner,kX _ _ _,⟨fun k hk=>hk.symm,inner,by rw[kX];exact ho,X7 hr (fun x c hp=>⟨d.mi (d.iY hp),d.mr (d.iY hp)⟩)⟩,fun j x c hx hc=>?_⟩;rw[DN hc];exact YU (hr.2 j x hx)
theorem FN (d:Kd α)(e:Nat)(w:World)(base:Nat)(ok:Nat→Prop):N d e w base ok (.slice none 0 0) []:=R_N (jB _ _ _ _ _)
end
end Kd
section
variable {w w' u : World} {m B g : Nat} {o : Obj} {row : Option Nat} {S : Nat → Prop} {a : Addr} {v : Value}
theorem iC (hq:w.drewN m=w')(h:Below B u w):Below B u w':=by subst hq;exact ai h m
theorem lC (hq:w.drewN m=w')(h:Kept u w S):Kept u w' S:=by subst hq;exact Kept.drewN h m
end
namespace Kd
section
variable {α : Type} {d : Kd α} {e base n m : Nat} {ok : Nat → Prop} {w w' : World} {v : Value} {A : Option Addr} {xs : List α}
theorem tV (hq:w.drewN m=w')(h:d.R e w base ok v xs):d.R e w' base ok v xs:=by subst hq;exact dD h m
end
end Kd
section
variable {P : Program} {d : Nat} {xs ys : Array Value} {f : Field} {fs : List Field} {a b : Value} {r s : Bool} {w : World}
theorem Vr (hn:(f.name== "_")=false)(ha:(part f.type xs f.offset).run P w= .ok a w)(hb:(part f.type ys f.offset).run P w= .ok b w)(he:(Op.equalIn d f.type a b).run P w= .ok r w):(Op.eqFields d xs ys [f]).run P w= .ok r w:=by
 have hn':f.name≠ "_" :=by simpa using hn
 simp only[Op.eqFields,if_pos hn',Sem.run_bind,ha,hb,he,Result.andThen_ok];cases r<;>simp
theorem Vq (hn:(f.name== "_")=false)(ha:(part f.type xs f.offset).run P w= .ok a w)(hb:(part f.type ys f.offset).run P w= .ok b w)(he:(Op.equalIn d f.type a b).run P w= .ok r w)(hr:(Op.eqFields d xs ys fs).run P w= .ok s w):(Op.eqFields d xs ys (f::fs)).run P w= .ok (r&&s) w:=by
 have hn':f.name≠ "_" :=by simpa using hn
 rw[Op.eqFields];simp only[if_pos hn',Sem.run_bind,ha,hb,he,Result.andThen_ok];cases r
 ·simp
 ·simpa using hr
theorem acz {t:TypeId}{fs:Array Field}(hu:P.underlying t=some (.struct fs))(hp:P.stoodInHeld t=false)(h:(Op.eqFields d xs ys fs.toList).run P w= .ok r w):(Op.equalIn (d+1) t (.agg xs) (.agg ys)).run P w= .ok r w:=by
 have hf:P.fieldsOf t=fs:=by simp[Program.fieldsOf,hu]
 rw[run_equalIn_struct (P:=P) w d t xs ys (by rw[hf];exact hu) hp,hf];exact h
end
end Go.Proofs.YthbdjmopolpjmaaGreatDoorW.PrintWords
namespace Go.Proofs.YthbdjmopolpjmaaGreatDoorW.PrintWords
theorem fF.one {α:Type}{R:α→List Value→Prop}{ps:List α}{cs:List Value}{p:α}{v:Value}(hp:R p [v])(h:fF R 1 ps cs):fF R 1 (p::ps) (v::cs):=by
 refine⟨by simp[h.1],fun j q hq=>?_⟩;cases j with
 |zero=>
  simp only[List.getElem?_cons_zero,Option.some.injEq]at hq;subst hq;simpa using hp
 |succ j=>
  simp only[List.getElem?_cons_succ]at hq;have h1:=h.2 j q hq;simpa[Nat.mul_one]using h1
theorem fF.front {α:Type}{R:α→List Value→Prop}{size:Nat}{ps:List α}{cs c all:List Value}{p:α}(hp:R p c)(hc:c.length=size)(h:fF R size ps cs)(ha:c++cs=all):fF R size (p::ps) all:=by
 subst ha;refine⟨by rw[List.length_append,hc,h.1,List.length_cons,Nat.succ_mul,Nat.add_comm],fun j q hq=>?_⟩;cases j with
 |zero=>
  simp only[List.getElem?_cons_zero,Option.some.injEq]at hq;subst hq;rw[Nat.zero_mul,List.drop_zero,List.take_append_of_le_length (by omega),List.take_of_length_le (by omega)];exact hp
 |succ j=>
  simp only[List.getElem?_cons_succ]at hq;have h1:=h.2 j q hq;rw[Nat.succ_mul,List.drop_append,List.drop_of_length_le (by rw[hc];exact Nat.le_add_left _ _),List.nil_append,hc,Nat.add_sub_cancel];exact h1
theorem fF.c2 {α:Type}{R:α→List Value→Prop}{ps:List α}{cs:List Value}{p:α}{va vb:Value}(hp:R p [va,vb])(h:fF R 2 ps cs):fF R 2 (p::ps) (va::vb::cs):=fF.front hp rfl h rfl
theorem fF.c3 {α:Type}{R:α→List Value→Prop}{ps:List α}{cs:List Value}{p:α}{va vb vc:Value}(hp:R p [va,vb,vc])(h:fF R 3 ps cs):fF R 3 (p::ps) (va::vb::vc::cs):=fF.front hp rfl h rfl
theorem fF.c4 {α:Type}{R:α→List Value→Prop}{ps:List α}{cs:List Value}{p:α}{va vb vc vd:Value}(hp:R p [va,vb,vc,vd])(h:fF R 4 ps cs):fF R 4 (p::ps) (va::vb::vc::vd::cs):=fF.front hp rfl h rfl
theorem fF.c5 {α:Type}{R:α→List Value→Prop}{ps:List α}{cs:List Value}{p:α}{va vb vc vd ve:Value}(hp:R p [va,vb,vc,vd,ve])(h:fF R 5 ps cs):fF R 5 (p::ps) (va::vb::vc::vd::ve::cs):=fF.front hp rfl h rfl
theorem fF.c6 {α:Type}{R:α→List Value→Prop}{ps:List α}{cs:List Value}{p:α}{va vb vc vd ve vf:Value}(hp:R p [va,vb,vc,vd,ve,vf])(h:fF R 6 ps cs):fF R 6 (p::ps) (va::vb::vc::vd::ve::vf::cs):=fF.front hp rfl h rfl
theorem fF.c7 {α:Type}{R:α→List Value→Prop}{ps:List α}{cs:List Value}{p:α}{va vb vc vd ve vf vg:Value}(hp:R p [va,vb,vc,vd,ve,vf,vg])(h:fF R 7 ps cs):fF R 7 (p::ps) (va::vb::vc::vd::ve::vf::vg::cs):=fF.front hp rfl h rfl
theorem fF.c8 {α:Type}{R:α→List Value→Prop}{ps:List α}{cs:List Value}{p:α}{va vb vc vd ve vf vg vh:Value}(hp:R p [va,vb,vc,vd,ve,vf,vg,vh])(h:fF R 8 ps cs):fF R 8 (p::ps) (va::vb::vc::vd::ve::vf::vg::vh::cs):=fF.front hp rfl h rfl
theorem fF.c9 {α:Type}{R:α→List Value→Prop}{ps:List α}{cs:List Value}{p:α}{va vb vc vd ve vf vg vh vi:Value}(hp:R p [va,vb,vc,vd,ve,vf,vg,vh,vi])(h:fF R 9 ps cs):fF R 9 (p::ps) (va::vb::vc::vd::ve::vf::vg::vh::vi::cs):=fF.front hp rfl h rfl
theorem fF.c10 {α:Type}{R:α→List Value→Prop}{ps:List α}{cs:List Value}{p:α}{va vb vc vd ve vf vg vh vi vj:Value}(hp:R p [va,vb,vc,vd,ve,vf,vg,vh,vi,vj])(h:fF R 10 ps cs):fF R 10 (p::ps) (va::vb::vc::vd::ve::vf::vg::vh::vi::vj::cs):=fF.front hp rfl h rfl
end Go.Proofs.YthbdjmopolpjmaaGreatDoorW.PrintWords
namespace Go.Proofs.YthbdjmopolpjmaaGreatDoorW.PrintLast
def up (b:Nat→Bool)(i:Nat):Nat→Bool:=fun j=>if j=i then true else b j
end Go.Proofs.YthbdjmopolpjmaaGreatDoorW.PrintLast
namespace Go.Proofs.YthbdjmopolpjmaaGreatDoorW.PrintWords
open Go.RowKit
section
variable {P : Program} {ops : Array Oper} {rest : List Oper} {o : Oper} {a : Act} {Q : Exit → Act → World → Prop} {W : World}
theorem D6 (hw:Region.wanted o (yielded ops a.tmps)=true)(h:wpList P ops Q ({o with guard:=none}::rest) a W):wpList P ops Q (o::rest) a W:=by
 have h1:Region.wanted {o with guard:=none} (yielded ops a.tmps)=true:=rfl;unfold wpList at h⊢;rw[if_pos h1]at h;rw[if_pos hw];exact h
end
end Go.Proofs.YthbdjmopolpjmaaGreatDoorW.PrintWords
namespace Go.Proofs.YthbdjmopolpjmaaGreatDoorW.PrintMore
open Go.RowKit Go.Proofs.YthbdjmopolpjmaaGreatDoorW.PrintWords
theorem max2_int (k k':IntKind)(x y:Int):Builtin.max2 (.int k x) (.int k' y)=pure (.int k (if x<y then y else x)):=by simp only[Builtin.max2,gt_iff_lt]
theorem min2_int (k k':IntKind)(x y:Int):Builtin.min2 (.int k x) (.int k' y)=pure (.int k (if y<x then y else x)):=by simp only[Builtin.min2]
theorem max_two (ats:Array TypeId)(ty:TypeId)(a b:Value):Builtin.max_ ats ty #[a,b]=(Builtin.max2 a b>>=fun s=>pure s):=by simp only[Builtin.max_,List.foldlM_cons,List.foldlM_nil]
theorem min_two (ats:Array TypeId)(ty:TypeId)(a b:Value):Builtin.min_ ats ty #[a,b]=(Builtin.min2 a b>>=fun s=>pure s):=by simp only[Builtin.min_,List.foldlM_cons,List.foldlM_nil]
theorem max_three (ats:Array TypeId)(ty:TypeId)(a b c:Value):Builtin.max_ ats ty #[a,b,c]=(Builtin.max2 a b>>=fun s=>Builtin.max2 s c>>=fun s=>pure s):=by simp only[Builtin.max_,List.foldlM_cons,List.foldlM_nil]
theorem min_three (ats:Array TypeId)(ty:TypeId)(a b c:Value):Builtin.min_ ats ty #[a,b,c]=(Builtin.min2 a b>>=fun s=>Builtin.min2 s c>>=fun s=>pure s):=by simp only[Builtin.min_,List.foldlM_cons,List.foldlM_nil]
theorem max_four (ats:Array TypeId)(ty:TypeId)(a b c d:Value):Builtin.max_ ats ty #[a,b,c,d]=(Builtin.max2 a b>>=fun s=>Builtin.max2 s c>>=fun s=>Builtin.max2 s d>>=fun s=>pure s):=by simp only[Builtin.max_,List.foldlM_cons,List.foldlM_nil]
theorem min_four (ats:Array TypeId)(ty:TypeId)(a b c d:Value):Builtin.min_ ats ty #[a,b,c,d]=(Builtin.min2 a b>>=fun s=>Builtin.min2 s c>>=fun s=>Builtin.min2 s d>>=fun s=>pure s):=by simp only[Builtin.min_,List.foldlM_cons,List.foldlM_nil]
end Go.Proofs.YthbdjmopolpjmaaGreatDoorW.PrintMore
namespace Go.Proofs.YthbdjmopolpjmaaGreatDoorW.PrintWords
open Go.RowKit
section
variable {P : Program} {ops : Array Oper} {rest : List Oper} {o : Oper} {a : Act} {Q : Exit → Act → World → Prop} {W : World}
theorem iJ {f:FuncId}{as_:Array Operand}{ts:Array TypeId}(_ho:o.op= .call {callee:= .value (.func f),args:=as_,argTypes:=ts})(h:wpList P ops Q (o::rest) a W):wpList P ops Q (o::rest) a W:=h
theorem bK {b:Builtin}{xs:Array Operand}{ts:Array TypeId}(_ho:o.op= .call {callee:= .builtin b,args:=xs,argTypes:=ts})(h:wpList P ops Q (o::rest) a W):wpList P ops Q (o::rest) a W:=h
end
def mn (a b:Int):Int:=if b<a then b else a
def shl (k:IntKind)(x y:Int):Int:=k.wrap (x*2^min y.toNat k.bits)
def shr (k:IntKind)(x y:Int):Int:=x/2^min y.toNat k.bits
theorem Tn {k:IntKind}{x y j:Int}(h:shl k x y=j)(hy:y≤k.bits):k.wrap (x*2^y.toNat)=j:=by rw[←h];unfold shl;rw[Nat.min_eq_left (by omega)]
theorem GY {k:IntKind}{x y j:Int}(h:shr k x y=j)(hy:y≤k.bits):x/2^y.toNat=j:=by rw[←h];unfold shr;rw[Nat.min_eq_left (by omega)]
theorem fU (w:World)(n:Nat):w.drewN n=w.drewN n:=rfl
namespace Kd
def V {α:Type}(d:Kd α)(_e:Nat)(W:World)(_base:Nat)(ok:Nat→Prop)(v:Value)(xs:List α):Prop:=∃A c,v= .slice A xs.length c∧xs.length≤c∧F d W ok A xs.length xs
section
variable {α β : Type} {d : Kd α} {e base base' n m c g N' lo hi : Nat} {ok ok' S : Nat → Prop} {w W w1 : World} {A : Option Addr} {ad : Addr} {u v v1 : Value} {xs : List α}
theorem JJ (h:V d e W base ok v xs)(hF:∀A,F d W ok A xs.length xs→F d w1 ok' A xs.length xs):V d e w1 base' ok' v xs:=by
 obtain⟨A,c,hv,hl,hf⟩:=h;exact⟨A,c,hv,hl,hF A hf⟩
theorem Zc (hl:xs.length≤c)(hf:F d W ok A xs.length xs):V d e W base ok (.slice A xs.length c) xs:=⟨A,c,rfl,hl,hf⟩
theorem nH (h:V d e W base ok v xs):∃A c,v= .slice A xs.length c:=by
 obtain⟨A,c,hv,_⟩:=h;exact⟨A,c,hv⟩
theorem UF (h:V d e W base ok (.slice A n c) xs):n=xs.length∧n≤c∧F d W ok A xs.length xs:=by
 obtain⟨A',c',hv,hl,hf⟩:=h;injection hv with ha hn hc;subst ha;subst hc;exact⟨hn,by rw[hn];exact hl,hf⟩
theorem jl (h:V d e W base ok (.slice A n c) xs):n=xs.length∧n≤c∧d.C W A xs.length xs:=⟨(UF h).1,(UF h).2.1,aaD (UF h).2.2⟩
theorem FT (d:Kd α)(e:Nat)(W:World)(base:Nat)(ok:Nat→Prop):V d e W base ok (.slice none 0 0) []:=⟨none,0,rfl,Nat.le_refl _,aaC d W ok⟩
theorem R_V (h:d.R e W base ok v xs):V d e W base' ok v xs:=by
 obtain⟨A,c,rfl⟩:=fO h;exact⟨A,c,rfl,(dA h).2.1,R_F h⟩
theorem qK (h:V d e W base ok v xs)(hok:∀k,ok k→ok' k):V d e W base ok' v xs:=JJ h (fun _ hf=>Np hf hok)
theorem qp (h:V d e W base ok v xs)(_:base'≤base):V d e W base' ok v xs:=h
theorem PZ (h:V d e W base ok v xs)(hb:Below W.heap.size W w1):V d e w1 base ok v xs:=JJ h (fun _ hf=>uT hf hb)
theorem lq (h:V d e W base ok v xs)(o:Obj):V d e (W.alloc o) base ok v xs:=JJ h (fun _ hf=>YV hf o)
theorem nX (h:V d e W base ok v xs):V d e W.drew base ok v xs:=JJ h (fun _ hf=>abE hf)
theorem lu (h:V d e W base ok v xs)(m:Nat):V d e (W.drewN m) base ok v xs:=JJ h (fun _ hf=>YW hf m)
theorem Nq (h:F d W ok A xs.length xs)(hm:m≤xs.length):F d W ok A (xs.take m).length (xs.take m):=aeM h (fun _ hC=>Dl hC hm)
theorem VR {k:IntKind}{l:List Int}(h:(Kd.int k).C w (some ad) n l)(i:Int)(h0:0≤i)(h1:i<n):w.cell? (ad.add i.toNat)=some (.int k (rd l i)):=by
 obtain⟨ad',he,hc⟩:=dM h i h0 h1;injection he with he;subst he;exact hc
theorem NK {M:Nat→Prop}(h:d.R e w1 W.heap.size ok v xs)(hle:w.heap.size≤W.heap.size)(hM:∀k,w.heap.size≤k→M k):d.R e w1 W.heap.size (fun k=>M k∧ok k) v xs:=gI (jS h) (fun k hk=>⟨hM k (Nat.le_trans hle hk.2.1),hk.1⟩)
end
end Kd
end Go.Proofs.YthbdjmopolpjmaaGreatDoorW.PrintWords
namespace Go.Proofs.YthbdjmopolpjmaaGreatDoor.F
open Go.RowKit Go.Proofs.YthbdjmopolpjmaaGreatDoorW.PrintWords Go.Proofs.YthbdjmopolpjmaaGreatDoorW.PrintLast Go.Proofs.YthbdjmopolpjmaaGreatDoorW.PrintMore
attribute [local go_sem] max2_int min2_int max_two min_two max_three min_three max_four min_four
def agC:Option Int→Value
 |none=> .nilIface
 |some c=> .iface 330 (.int .i64 c)
theorem bg:agC none= .nilIface:=rfl
theorem bn (c:Int):agC (some c)= .iface 330 (.int .i64 c):=rfl
theorem info3:(Tryz.prog.info? 3).map (fun i=>(i.zero,i.size,i.bytes))=some (some (.int .i64 0),1,8):=by kernel_rfl
theorem info5:(Tryz.prog.info? 5).map (fun i=>(i.zero,i.size,i.bytes))=some (some (.int .u8 0),1,1):=by kernel_rfl
theorem info9:(Tryz.prog.info? 9).map (fun i=>(i.zero,i.size,i.bytes))=some (some (.string ⟨#[]⟩),1,16):=by kernel_rfl
theorem Xp:(Tryz.prog.info? 41).map (fun i=>(i.zero,i.size,i.bytes))=some (some (.agg #[(.int .i64 0),(.string ⟨#[]⟩),(.string ⟨#[]⟩),(.string ⟨#[]⟩),(.string ⟨#[]⟩),(.string ⟨#[]⟩),(.string ⟨#[]⟩),(.int .i64 0),(.slice none 0 0),(.int .i64 0),(.bool false)]),11,152):=by kernel_rfl
theorem kQ:(Tryz.prog.info? 131).map (fun i=>(i.zero,i.size,i.bytes))=some (some (.int .u32 0),1,4):=by kernel_rfl
structure Za where
 f0:ByteArray
 f1:ByteArray
def z39:Za:=⟨(⟨#[]⟩:ByteArray),(⟨#[]⟩:ByteArray)⟩
def k39:Kd Za:=Kd.iso (Kd.pair Kd.string Kd.string) (fun x:Za=>(x.f0,x.f1))
theorem KW {w:World}{x:Za}{cs:List Value}(h:k39.K w x cs):cs=[.string x.f0,.string x.f1]:=by
 obtain⟨_,_,rfl,rfl,rfl⟩:=h;exact rfl
theorem Xt (w:World)(x:Za):k39.K w x [.string x.f0,.string x.f1]:=⟨[.string x.f0],[.string x.f1],rfl,rfl,rfl⟩
theorem Qw (w:World)(base:Nat)(ok:Nat→Prop)(x:Za):k39.M w base ok x [.string x.f0,.string x.f1]:=⟨[.string x.f0],[.string x.f1],rfl,rfl,rfl⟩
structure iU where
 f0:Int
 f1:ByteArray
 f2:Za
 f3:Za
 f4:ByteArray
 f5:Int
 f6:(List ByteArray)
 f7:Int
 f8:Bool
def z41:iU:=⟨(0:Int),(⟨#[]⟩:ByteArray),z39,z39,(⟨#[]⟩:ByteArray),(0:Int),([]:List ByteArray),(0:Int),false⟩
def EP:Kd iU:=Kd.iso (Kd.pair (Kd.int .i64) (Kd.pair Kd.string (Kd.pair k39 (Kd.pair k39 (Kd.pair Kd.string (Kd.pair (Kd.int .i64) (Kd.pair (Kd.slice 9 Kd.string) (Kd.pair (Kd.int .i64) Kd.bool)))))))) (fun x:iU=>(x.f0,x.f1,x.f2,x.f3,x.f4,x.f5,x.f6,x.f7,x.f8))
theorem Xu {w:World}{x:iU}{cs:List Value}(h:EP.K w x cs):∃A8 c8,cs=[.int .i64 x.f0,.string x.f1,.string x.f2.f0,.string x.f2.f1,.string x.f3.f0,.string x.f3.f1,.string x.f4,.int .i64 x.f5,.slice A8 x.f6.length c8,.int .i64 x.f7,.bool x.f8]∧x.f6.length≤c8∧Kd.string.C w A8 x.f6.length x.f6:=by
 obtain⟨_,_,rfl,rfl,⟨_,_,rfl,rfl,⟨_,_,rfl,s2,⟨_,_,rfl,s4,⟨_,_,rfl,rfl,⟨_,_,rfl,rfl,⟨_,_,rfl,⟨A8,c8,rfl,l8,g8⟩,⟨_,_,rfl,rfl,rfl⟩⟩⟩⟩⟩⟩⟩⟩:=h;obtain rfl:=KW s2;obtain rfl:=KW s4;exact⟨A8,c8,rfl,l8,g8⟩
theorem adn (w:World)(x:iU){A8:Option Addr}{c8:Nat}(l8:x.f6.length≤c8)(g8:Kd.string.C w A8 x.f6.length x.f6):EP.K w x [.int .i64 x.f0,.string x.f1,.string x.f2.f0,.string x.f2.f1,.string x.f3.f0,.string x.f3.f1,.string x.f4,.int .i64 x.f5,.slice A8 x.f6.length c8,.int .i64 x.f7,.bool x.f8]:=⟨[.int .i64 x.f0],[.string x.f1,.string x.f2.f0,.string x.f2.f1,.string x.f3.f0,.string x.f3.f1,.string x.f4,.int .i64 x.f5,.slice A8 x.f6.length c8,.int .i64 x.f7,.bool x.f8],rfl,rfl,⟨[.string x.f1],[.string x.f2.f0,.string x.f2.f1,.string x.f3.f0,.string x.f3.f1,.string x.f4,.int .i64 x.f5,.slice A8 x.f6.length c8,.int .i64 x.f7,.bool x.f8],rfl,rfl,⟨[.string x.f2.f0,.string x.f2.f1],[.string x.f3.f0,.string x.f3.f1,.string x.f4,.int .i64 x.f5,.slice A8 x.f6.length c8,.int .i64 x.f7,.bool x.f8],rfl,(Xt w x.f2),⟨[.string x.f3.f0,.string x.f3.f1],[.string x.f4,.int .i64 x.f5,.slice A8 x.f6.length c8,.int .i64 x.f7,.bool x.f8],rfl,(Xt w x.f3),⟨[.string x.f4],[.int .i64 x.f5,.slice A8 x.f6.length c8,.int .i64 x.f7,.bool x.f8],rfl,rfl,⟨[.int .i64 x.f5],[.slice A8 x.f6.length c8,.int .i64 x.f7,.bool x.f8],rfl,rfl,⟨[.slice A8 x.f6.length c8],[.int .i64 x.f7,.bool x.f8],rfl,⟨A8,c8,rfl,l8,g8⟩,⟨[.int .i64 x.f7],[.bool x.f8],rfl,rfl,rfl⟩⟩⟩⟩⟩⟩⟩⟩
theorem Qx (w:World)(base:Nat)(ok:Nat→Prop)(x:iU){v8:Value}(g8:Kd.string.R 9 w base ok v8 x.f6):EP.M w base ok x [.int .i64 x.f0,.string x.f1,.string x.f2.f0,.string x.f2.f1,.string x.f3.f0,.string x.f3.f1,.string x.f4,.int .i64 x.f5,v8,.int .i64 x.f7,.bool x.f8]:=⟨[.int .i64 x.f0],[.string x.f1,.string x.f2.f0,.string x.f2.f1,.string x.f3.f0,.string x.f3.f1,.string x.f4,.int .i64 x.f5,v8,.int .i64 x.f7,.bool x.f8],rfl,rfl,⟨[.string x.f1],[.string x.f2.f0,.string x.f2.f1,.string x.f3.f0,.string x.f3.f1,.string x.f4,.int .i64 x.f5,v8,.int .i64 x.f7,.bool x.f8],rfl,rfl,⟨[.string x.f2.f0,.string x.f2.f1],[.string x.f3.f0,.string x.f3.f1,.string x.f4,.int .i64 x.f5,v8,.int .i64 x.f7,.bool x.f8],rfl,(Qw w base ok x.f2),⟨[.string x.f3.f0,.string x.f3.f1],[.string x.f4,.int .i64 x.f5,v8,.int .i64 x.f7,.bool x.f8],rfl,(Qw w base ok x.f3),⟨[.string x.f4],[.int .i64 x.f5,v8,.int .i64 x.f7,.bool x.f8],rfl,rfl,⟨[.int .i64 x.f5],[v8,.int .i64 x.f7,.bool x.f8],rfl,rfl,⟨[v8],[.int .i64 x.f7,.bool x.f8],rfl,⟨v8,rfl,g8⟩,⟨[.int .i64 x.f7],[.bool x.f8],rfl,rfl,rfl⟩⟩⟩⟩⟩⟩⟩⟩
def aX (xs:List iU)(i:Int):iU:=xs.getD i.toNat z41
theorem Il {w:World}{A:Option Addr}{n:Nat}{xs:List iU}(h:Kd.C EP w A n xs)(i:Int)(h0:0≤i)(h1:i<n):∃ad A8 c8,A=some ad∧w.cell? (ad.add (i.toNat *11))=some (.int .i64 (aX xs i).f0)∧w.cell? ⟨(ad.add (i.toNat *11)).block,(ad.add (i.toNat *11)).off+1,none⟩=some (.string (aX xs i).f1)∧w.cell? ⟨(ad.add (i.toNat *11)).block,(ad.add (i.toNat *11)).off+2,none⟩=some (.string (aX xs i).f2.f0)∧w.cell? ⟨(ad.add (i.toNat *11)).block,(ad.add (i.toNat *11)).off+3,none⟩=some (.string (aX xs i).f2.f1)∧w.cell? ⟨(ad.add (i.toNat *11)).block,(ad.add (i.toNat *11)).off+4,none⟩=some (.string (aX xs i).f3.f0)∧w.cell? ⟨(ad.add (i.toNat *11)).block,(ad.add (i.toNat *11)).off+5,none⟩=some (.string (aX xs i).f3.f1)∧w.cell? ⟨(ad.add (i.toNat *11)).block,(ad.add (i.toNat *11)).off+6,none⟩=some (.string (aX xs i).f4)∧w.cell? ⟨(ad.add (i.toNat *11)).block,(ad.add (i.toNat *11)).off+7,none⟩=some (.int .i64 (aX xs i).f5)∧w.cell? ⟨(ad.add (i.toNat *11)).block,(ad.add (i.toNat *11)).off+8,none⟩=some (.slice A8 (aX xs i).f6.length c8)∧w.cell? ⟨(ad.add (i.toNat *11)).block,(ad.add (i.toNat *11)).off+9,none⟩=some (.int .i64 (aX xs i).f7)∧w.cell? ⟨(ad.add (i.toNat *11)).block,(ad.add (i.toNat *11)).off+10,none⟩=some (.bool (aX xs i).f8)∧(aX xs i).f6.length≤c8∧Kd.string.C w A8 (aX xs i).f6.length (aX xs i).f6:=by
 obtain⟨ad,c,e,_,hK,hc0⟩:=Kd.aeK h z41 i h0 h1;have hc:∀j u,c[j]?=some u→w.cell? (ad.add (i.toNat *11+j))=some u:=hc0;obtain⟨A8,c8,rfl,l8,g8⟩:=Xu hK;exact⟨ad,A8,c8,e,hc 0 _ rfl,by rw[←jY _ _ 1 (by omega)];exact hc 1 _ rfl,by rw[←jY _ _ 2 (by omega)];exact hc 2 _ rfl,by rw[←jY _ _ 3 (by omega)];exact hc 3 _ rfl,by rw[←jY _ _ 4 (by omega)];exact hc 4 _ rfl,by rw[←jY _ _ 5 (by omega)];exact hc 5 _ rfl,by rw[←jY _ _ 6 (by omega)];exact hc 6 _ rfl,by rw[←jY _ _ 7 (by omega)];exact hc 7 _ rfl,by rw[←jY _ _ 8 (by omega)];exact hc 8 _ rfl,by rw[←jY _ _ 9 (by omega)];exact hc 9 _ rfl,by rw[←jY _ _ 10 (by omega)];exact hc 10 _ rfl,l8,g8⟩
def dh.l0:Nat→List Int→Option (List Int)
 |0,_=>none
 |k+1,x0=>if(x0.length:Int)>0 then(if 0≤(wrap64 ((x0.length:Int)- 1))then(if(wrap64 ((x0.length:Int)- 1))<(x0.length:Int)then(if(rd x0 (wrap64 ((x0.length:Int)- 1)))=0 then(if(wrap64 ((x0.length:Int)- 1))≤(x0.length:Int)then(dh.l0 k (x0.take ((wrap64 ((x0.length:Int)- 1)):Int).toNat))else(none))else(some x0))else(none))else(none))else(some x0)
def dh.f (k:Nat)(l0:List Int):Option (List Int):=dh.l0 k l0
theorem dh.cO:∀k,(∀y0,bT (dh.l0 k y0) (dh.l0 (k+1) y0))
 |0=>fun _ r h=>by simp[dh.l0]at h
 |k+1=>by
  have gU:=dh.cO k
  ·intro y0;unfold dh.l0
   repeat' first
   |exact gU _
   |exact bT.refl _
   |exact bT.none _
   |refine bT.ite ?_ ?_
   |refine bT.bind ?_ (fun _=>?_)
theorem dh.mono:∀a0 k,bT (dh.f k a0) (dh.f (k+1) a0):=by
 intro a0 k;have gU:=dh.cO k;unfold dh.f
 repeat' first
   |exact gU _
   |exact bT.refl _
   |exact bT.none _
   |refine bT.ite ?_ ?_
   |refine bT.bind ?_ (fun _=>?_)
theorem dh.calls (k:Nat)(iG:Nat→Prop)(A0:Option Addr)(c0:Nat)(l0:List Int)(r:List Int)(w:World)(hs0:Kd.V (Kd.int .u32) 131 w w.heap.size (fun k_=>iG k_) (.slice A0 l0.length c0) l0)(h:dh.f k l0=some r):
  Calls Tryz.prog 206 #[.slice A0 l0.length c0] w fun e w'=>∃BH:Value,e= .returned (BH)∧Kd.V (Kd.int .u32) 131 w' w.heap.size (fun k_=>(iG k_∨w.heap.size≤k_)) BH r∧Below w.heap.size w w':=by
 have zC:=zM (show Kd.V (Kd.int .u32) 131 w w.heap.size (fun k_=>(iG k_∨w.heap.size≤k_)) (.slice A0 l0.length c0) l0 from Kd.qK hs0 (fun k_ hk=> .inl hk));have HB:=zM (Below.refl w.heap.size w);have H:(dh.l0 k l0)=some r:=h;clear h;have H':=zM H;clear H;go_enter Tryz.func206,Tryz.ntmps206;go_wp2;go_loopg [0] k (fun kq v0 w'=>∃(aU:List Int),Aside0 (dh.l0 kq aU=some r)∧Aside0 (kq≤k)∧Aside0 (Kd.V (Kd.int .u32) 131 w' w.heap.size (fun k_=>(iG k_∨w.heap.size≤k_)) v0 aU)∧Aside0 (Below w.heap.size w w'))
 case atStart=>exact⟨(l0),H',⟨Nat.le_refl _⟩,⟨by(with_reducible repeat(first|apply Kd.lq|apply Kd.lu|apply Kd.nX));exact zC.out⟩,⟨zB⟩⟩
 case round=>
  clear H';obtain⟨aU,HA,fM,bF,HB⟩:=hrel;cases gk with
  |zero=>exact absurd HA.out (by simp[dh.l0])
  |succ k1=>
   have H:=HA.out;clear HA;simp only[dh.l0]at H
   by_cases c2:(aU.length:Int)>0
   ·rw[if_pos c2]at H;have kE:=zT c2;have xw:decide (0<aU.length)=true:=decide_eq_true (by omega);clear c2;obtain⟨gX,kz⟩:=zI (wrap64 ((aU.length:Int)- 1));replace H:(if 0≤(gX)then(if(gX)<(aU.length:Int)then(if(rd aU (gX))=0 then(if(gX)≤(aU.length:Int)then(dh.l0 k1 (aU.take ((gX):Int).toNat))else(none))else(some aU))else(none))else(none))=some r:=by first|(rw[kz]at H;exact H)|(simp only[kz]at H⊢;exact H)
    have Gv:(IntKind.i64.wrap ((aU.length:Int)- 1))=gX:=(dL _).trans kz
    by_cases c4:0≤(gX)
    ·rw[if_pos c4]at H;have ig:=zT c4;clear c4
     by_cases c5:(gX)<(aU.length:Int)
     ·rw[if_pos c5]at H;have jJ:=zT c5;clear c5
      by_cases c6:(rd aU (gX))=0
      ·rw[if_pos c6]at H;have iP:((rd aU (gX))==0)=true:=beq_iff_eq.mpr c6;have og:((rd aU (gX)) !=0)=false:=bne_eq_false_iff_eq.mpr c6;clear c6;have lZ:=eq_true (zD:0≤(gX))
       by_cases c8:(gX)≤(aU.length:Int)
       ·rw[if_pos c8]at H;have nP:=eq_true c8;have UY:=zT c8;clear c8;obtain⟨tY,pR⟩:∃y_:List Int,y_=(aU.take ((gX):Int).toNat):=⟨_,rfl⟩;replace H:(dh.l0 k1 tY)=some r:=zY pR H;have uh:=zM pR;clear pR;have H':=zM H;clear H;obtain⟨Ao9,Zj,eo9⟩:=Kd.nH bF.out;subst eo9;have l9:0≤((gX):Int):=zD;have oI:(gX)<(aU.length:Int):=zD;obtain⟨wH,IA,CW⟩:=Kd.dM (Kd.jl bF.out).2.2 (gX) l9 oI;cases IA;replace l9:=eq_true l9;replace oI:=eq_true oI;have q10:((gX):Int)≤((aU.length:Int):Int):=zD;obtain⟨Xo,oL,_,wO,_⟩:=info_parts kQ;have yL:aU.length≤Zj:=(Kd.jl bF.out).2.1;have V5:Kd.F (Kd.int .u32) _ _ (some wH) aU.length aU:=(Kd.UF (base:=w.heap.size) bF.out).2.2;have sD:=xy (P:=Tryz.prog) 171 131 .i64 Tryz.underlying171 oL (some wH) aU.length Zj (gX) (zD) q10 yL;have vZ:=Kd.Nq (m:=((gX):Int).toNat) V5 (by omega);have sN:tY.length=((gX):Int).toNat:=(by rw[uh.out,List.length_take];omega);rw[←uh.out]at vZ;rw[←sN]at sD;have af1:=zM (show Kd.V (Kd.int .u32) 131 _ w.heap.size _ (.slice (some wH) tY.length Zj) tY from Kd.Zc (by omega) vZ);have FD:=zM (show tY.length≤Zj from by omega);clear vZ V5 yL oL wO;have Y6:=zM sN;clear sN;replace q10:=eq_true q10;go_wp2;go_roundg k1
        case measure=>have:=fM.out;omega
        case rel=>exact⟨(tY),H',⟨by have:=fM.out;omega⟩,⟨by(with_reducible repeat(first|apply Kd.lq|apply Kd.lu|apply Kd.nX));exact af1.out⟩,⟨zB⟩⟩
       ·rw[if_neg c8]at H;exact absurd H (by simp)
      ·rw[if_neg c6]at H;have iP:((rd aU (gX))==0)=false:=beq_eq_false_iff_ne.mpr c6;have og:((rd aU (gX)) !=0)=true:=bne_iff_ne.mpr c6;obtain rfl:=Option.some.inj H;obtain⟨aeI,uy,Vm⟩:=Kd.nH bF.out;subst Vm;have l9:0≤((gX):Int):=zD;have oI:(gX)<(aU.length:Int):=zD;obtain⟨wH,IA,CW⟩:=Kd.dM (Kd.jl bF.out).2.2 (gX) l9 oI;cases IA;replace l9:=eq_true l9;replace oI:=eq_true oI;go_wp2;go_ret;exact⟨_,by first|rfl|(simp[bg,bn]<;>rfl)|(simp only[←kz];first|rfl|(simp[bg,bn]<;>rfl))|(simp[*,bg,bn]<;>rfl),by(with_reducible repeat(first|apply Kd.lq|apply Kd.lu|apply Kd.nX));exact bF.out,zB⟩
     ·rw[if_neg c5]at H;exact absurd H (by simp)
    ·rw[if_neg c4]at H;exact absurd H (by simp)
   ·rw[if_neg c2]at H;have kE:=zF c2;have xw:decide (0<aU.length)=false:=decide_eq_false (by omega);clear c2;obtain rfl:=Option.some.inj H;obtain⟨Nj,ET,zQ⟩:=Kd.nH bF.out;subst zQ;go_wp2;go_ret;exact⟨_,by first|rfl|(simp[bg,bn]<;>rfl)|(simp[*,bg,bn]<;>rfl),by(with_reducible repeat(first|apply Kd.lq|apply Kd.lu|apply Kd.nX));exact bF.out,zB⟩
def bY.l0:Nat→List Int→List Int→Int→Option (Int)
 |0,_,_,_=>none
 |k+1,x0,x1,x5=>if x5≥0 then(if 0≤x5 then(if x5<(x0.length:Int)then(if x5<(x1.length:Int)then(if(rd x0 x5)=(rd x1 x5)then(bY.l0 k x0 x1 (wrap64 (x5- 1)))else(if(rd x0 x5)<(rd x1 x5)then(some (-1))else(some 1)))else(none))else(none))else(none))else(some 0)
def bY.f (k:Nat)(l0:List Int)(l1:List Int):Option (Int):=if(l0.length:Int)=(l1.length:Int)then(bY.l0 k l0 l1 (wrap64 ((l0.length:Int)- 1)))else(some (wrap64 ((l0.length:Int)- (l1.length:Int))))
theorem bY.cO:∀k,(∀y0 y1 y2,bT (bY.l0 k y0 y1 y2) (bY.l0 (k+1) y0 y1 y2))
 |0=>fun _ _ _ r h=>by simp[bY.l0]at h
 |k+1=>by
  have gU:=bY.cO k
  ·intro y0 y1 y2;unfold bY.l0
   repeat' first
   |exact gU _ _ _
   |exact bT.refl _
   |exact bT.none _
   |refine bT.ite ?_ ?_
   |refine bT.bind ?_ (fun _=>?_)
theorem bY.mono:∀a0 a1 k,bT (bY.f k a0 a1) (bY.f (k+1) a0 a1):=by
 intro a0 a1 k;have gU:=bY.cO k;unfold bY.f
 repeat' first
   |exact gU _ _ _
   |exact bT.refl _
   |exact bT.none _
   |refine bT.ite ?_ ?_
   |refine bT.bind ?_ (fun _=>?_)
theorem bY.calls (k:Nat)(A0:Option Addr)(c0:Nat)(l0:List Int)(A1:Option Addr)(c1:Nat)(l1:List Int)(r:Int)(w:World)(hr0:Kd.C (Kd.int .u32) w A0 l0.length l0)(hc0:l0.length≤c0)(hr1:Kd.C (Kd.int .u32) w A1 l1.length l1)(hc1:l1.length≤c1)(h:bY.f k l0 l1=some r):
  Calls Tryz.prog 162 #[.slice A0 l0.length c0,.slice A1 l1.length c1] w fun e w'=>e= .returned (.int .i64 r)∧aJ w w':=by
 have HR0:=zM hr0;have Hw:=zM hc0;clear hr0 hc0;have HR1:=zM hr1;have MV:=zM hc1;clear hr1 hc1;have H:(if(l0.length:Int)=(l1.length:Int)then(bY.l0 k l0 l1 (wrap64 ((l0.length:Int)- 1)))else(some (wrap64 ((l0.length:Int)- (l1.length:Int)))))=some r:=h;clear h
 by_cases c3:(l0.length:Int)=(l1.length:Int)
 ·rw[if_pos c3]at H;have iI:((l0.length:Int)==(l1.length:Int))=true:=beq_iff_eq.mpr c3;have kW:((l0.length:Int) !=(l1.length:Int))=false:=bne_eq_false_iff_eq.mpr c3;have DK:(l0.length==l1.length)=true:=by first|simpa using c3|(simp at c3⊢;omega)
  clear c3;have H':=zM H;clear H;go_enter Tryz.func162,Tryz.ntmps162;go_wp2
  repeat(go_quiet (fail);try go_wp2)
  go_loopg [5] k (fun kq v5 w'=>∃(aV:Int),v5= .int .i64 aV∧Aside0 (bY.l0 kq l0 l1 aV=some r)∧Aside0 (kq≤k)∧aJ w w')
  case atStart=>exact⟨(wrap64 ((l0.length:Int)- 1)),zR,H',⟨Nat.le_refl _⟩,by repeat(first|exact aJ.refl _|apply aJ.step)⟩
  case round=>
   clear H';try clear c1
   try clear p2
   try clear c3
   try clear iI
   try clear kW
   try clear DK
   obtain⟨aV,rfl,HA,fM,⟨m1,rfl⟩⟩:=hrel;cases gk with
   |zero=>exact absurd HA.out (by simp[bY.l0])
   |succ k1=>
    have H:=HA.out;clear HA;simp only[bY.l0]at H
    by_cases c4:aV≥0
    ·rw[if_pos c4]at H;have ig:=zT c4;clear c4
     by_cases c5:0≤aV
     ·rw[if_pos c5]at H;have jJ:=zT c5;clear c5
      by_cases c6:aV<(l0.length:Int)
      ·rw[if_pos c6]at H;have iP:=zT c6;clear c6
       by_cases c7:aV<(l1.length:Int)
       ·rw[if_pos c7]at H;have lZ:=zT c7;clear c7
        by_cases c8:(rd l0 aV)=(rd l1 aV)
        ·rw[if_pos c8]at H;have nP:((rd l0 aV)==(rd l1 aV))=true:=beq_iff_eq.mpr c8;have UY:((rd l0 aV) !=(rd l1 aV))=false:=bne_eq_false_iff_eq.mpr c8;clear c8;have H':=zM H;clear H;have En:0≤(aV:Int):=zD;have Et:aV<(l0.length:Int):=zD;obtain⟨P5,e137,Qr⟩:=Kd.dM HR0.out aV En Et;cases e137;replace En:=eq_true En;replace Et:=eq_true Et;have Eo:0≤(aV:Int):=zD;have Eu:aV<(l1.length:Int):=zD;obtain⟨P6,e138,Qs⟩:=Kd.dM HR1.out aV Eo Eu;cases e138;replace Eo:=eq_true Eo;replace Eu:=eq_true Eu;go_wp2
         repeat(go_quiet (fail);try go_wp2)
         go_roundg k1
         case measure=>have:=fM.out;omega
         case rel=>exact⟨(wrap64 (aV- 1)),zR,H',⟨by have:=fM.out;omega⟩,by repeat(first|exact aJ.refl _|apply aJ.step)⟩
        ·rw[if_neg c8]at H;have nP:((rd l0 aV)==(rd l1 aV))=false:=beq_eq_false_iff_ne.mpr c8;have UY:((rd l0 aV) !=(rd l1 aV))=true:=bne_iff_ne.mpr c8
         by_cases c9:(rd l0 aV)<(rd l1 aV)
         ·rw[if_pos c9]at H;have qL:=zT c9;clear c9;obtain rfl:=Option.some.inj H;have En:0≤(aV:Int):=zD;have Et:aV<(l0.length:Int):=zD;obtain⟨P5,e137,Qr⟩:=Kd.dM HR0.out aV En Et;cases e137;replace En:=eq_true En;replace Et:=eq_true Et;have Eo:0≤(aV:Int):=zD;have Eu:aV<(l1.length:Int):=zD;obtain⟨P6,e138,Qs⟩:=Kd.dM HR1.out aV Eo Eu;cases e138;replace Eo:=eq_true Eo;replace Eu:=eq_true Eu;have OI:0≤(aV:Int):=zD;have O3:aV<(l0.length:Int):=zD;obtain⟨UG,acg,ZH⟩:=Kd.dM HR0.out aV OI O3;obtain rfl:P5=UG:=(by injection acg);replace OI:=eq_true OI;replace O3:=eq_true O3;have OJ:0≤(aV:Int):=zD;have O4:aV<(l1.length:Int):=zD;obtain⟨UH,ach,ZI⟩:=Kd.dM HR1.out aV OJ O4;obtain rfl:P6=UH:=(by injection ach);replace OJ:=eq_true OJ;replace O4:=eq_true O4;go_wp2
          repeat(go_quiet (fail);try go_wp2)
          go_ret;exact⟨zR,by repeat(first|exact aJ.refl _|apply aJ.step)⟩
         ·rw[if_neg c9]at H;have qL:=zF c9;clear c9;obtain rfl:=Option.some.inj H;have En:0≤(aV:Int):=zD;have Et:aV<(l0.length:Int):=zD;obtain⟨P5,e137,Qr⟩:=Kd.dM HR0.out aV En Et;cases e137;replace En:=eq_true En;replace Et:=eq_true Et;have Eo:0≤(aV:Int):=zD;have Eu:aV<(l1.length:Int):=zD;obtain⟨P6,e138,Qs⟩:=Kd.dM HR1.out aV Eo Eu;cases e138;replace Eo:=eq_true Eo;replace Eu:=eq_true Eu;have OI:0≤(aV:Int):=zD;have O3:aV<(l0.length:Int):=zD;obtain⟨UG,acg,ZH⟩:=Kd.dM HR0.out aV OI O3;obtain rfl:P5=UG:=(by injection acg);replace OI:=eq_true OI;replace O3:=eq_true O3;have OJ:0≤(aV:Int):=zD;have O4:aV<(l1.length:Int):=zD;obtain⟨UH,ach,ZI⟩:=Kd.dM HR1.out aV OJ O4;obtain rfl:P6=UH:=(by injection ach);replace OJ:=eq_true OJ;replace O4:=eq_true O4;go_wp2
          repeat(go_quiet (fail);try go_wp2)
          go_ret;exact⟨zR,by repeat(first|exact aJ.refl _|apply aJ.step)⟩
       ·rw[if_neg c7]at H;exact absurd H (by simp)
      ·rw[if_neg c6]at H;exact absurd H (by simp)
     ·rw[if_neg c5]at H;exact absurd H (by simp)
    ·rw[if_neg c4]at H;have ig:=zF c4;clear c4;obtain rfl:=Option.some.inj H;go_wp2
     repeat(go_quiet (fail);try go_wp2)
     go_ret;exact⟨zR,by repeat(first|exact aJ.refl _|apply aJ.step)⟩
 ·rw[if_neg c3]at H;have iI:((l0.length:Int)==(l1.length:Int))=false:=beq_eq_false_iff_ne.mpr c3;have kW:((l0.length:Int) !=(l1.length:Int))=true:=bne_iff_ne.mpr c3;have DK:(l0.length==l1.length)=false:=by first|simpa using c3|(simp at c3⊢;omega)
  obtain rfl:=Option.some.inj H;go_enter Tryz.func162,Tryz.ntmps162;go_wp2
  repeat(go_quiet (fail);try go_wp2)
  go_ret;exact⟨zR,by repeat(first|exact aJ.refl _|apply aJ.step)⟩
end Go.Proofs.YthbdjmopolpjmaaGreatDoor.F
