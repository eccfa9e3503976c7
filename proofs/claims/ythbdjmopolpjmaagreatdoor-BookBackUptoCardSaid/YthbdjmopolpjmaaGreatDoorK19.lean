/- Part 19 of the proof. -/
import Derived.Deep.DeepWitnessRowRef
import Derived.Deep.Slices
import Derived.Lay
import Derived.OpenShut
import Derived.ProofKit
import Derived.Stop.LaidErr
import Derived.Test.YthbdjmopolpjmaaGreatDoorCards
import Derived.Test.YthbdjmopolpjmaaGreatDoorTie
import Derived.Test.YthbdjmopolpjmaaGreatDoorK18
set_option linter.unusedVariables false
set_option linter.unusedSimpArgs false
set_option maxHeartbeats 8000000
set_option maxRecDepth 100000
namespace Go.Proofs.YthbdjmopolpjmaaGreatDoor.C
open Go.RowKit Go.Deep Go.Proofs.YthbdjmopolpjmaaGreatDoorW.PrintWords Go.Proofs.YthbdjmopolpjmaaGreatDoorW.PrintLast Go.Proofs.YthbdjmopolpjmaaGreatDoor.F Go.Proofs.YthbdjmopolpjmaaGreatDoor.M
theorem cells3:Tryz.prog.cellsOf 3=1:=by kernel_rfl
theorem cells4:Tryz.prog.cellsOf 4=1:=by kernel_rfl
theorem cells9:Tryz.prog.cellsOf 9=1:=by kernel_rfl
theorem cells30:Tryz.prog.cellsOf 30=1:=by kernel_rfl
theorem cells39:Tryz.prog.cellsOf 39=2:=by kernel_rfl
theorem cells41:Tryz.prog.cellsOf 41=11:=by kernel_rfl
section
variable {H : Type} {enc : TypeId × Value → H} {w : World} {base : Nat} {spare : Nat → Bool} {held : Bool}
theorem abK {α:Type}{k:Kd α}{Q:α→DataW H→Prop}{t e:TypeId}{fuel:Nat}{cs:List Value}{x:DataW H×List MemPlace}(ht:Tryz.prog.underlying t=some (.slice e))(hc:Tryz.prog.cellsOf e=k.sz)
  (hel:∀n cs y,DataW.trod enc Tryz.prog w base spare held n e cs=some y→∃p:α,k.K w p cs∧Q p y.1) (h:DataW.trod enc Tryz.prog w base spare held fuel t cs=some x):
  ∃A c l,cs=[.slice A l.length c]∧l.length≤c∧k.C w A l.length l∧l.length≤Rows.uptoBulk x.1∧∀p∈l,∃d,Q p d∧Rows.uptoBulk d≤Rows.uptoBulk x.1:=by
 rcases open_slice ht h with⟨rfl,rfl⟩|⟨a,len,cap,m,n,D,Pl,rfl,hb,hl,hm,hmm,rfl,hi⟩
 ·exact⟨none,0,[],rfl,Nat.le_refl _,Kd.aeL k w,Nat.zero_le _,fun p hp=>by cases hp⟩
 have hle:len≤m:=by rw[hmm];split<;>omega
 have hall:∀j,j≤len→∃l:List α,l.length=j∧(∀(i:Nat) p,l[i]?=some p→(∃c,c.length=k.sz∧k.K w p c∧∀q u,c[q]?=some u→w.cell? (a.add (i*k.sz+q))=some u)∧Q p (D i)):=by
  intro j
  induction j with
  |zero=>exact fun _=>⟨[],rfl,fun i p hp=>by simp at hp⟩
  |succ j ih=>
   intro hj;obtain⟨l,hl1,hl2⟩:=ih (by omega);obtain⟨cs',h1,h2⟩:=hi j (by omega);obtain⟨p,hp1,hp2⟩:=hel _ _ _ h2;obtain⟨_,hlen,hcell⟩:=World.cells?_some h1;rw[hc]at hlen hcell;refine⟨l++[p],by simp[hl1],fun i q hq=>?_⟩
   by_cases hij:i<j
   ·rw[List.getElem?_append_left (by omega)]at hq;exact hl2 i q hq
   ·have hij2:i=j:=by
     have:=(List.getElem?_eq_some_iff.1 hq).1;rw[List.length_append,List.length_singleton]at this;omega
    subst hij2;rw[List.getElem?_append_right (by omega),hl1,Nat.sub_self]at hq;obtain rfl:p=q:=by simpa using hq
    refine⟨⟨cs',hlen,hp1,fun q u hq=>?_⟩,hp2⟩;have hq2:=(List.getElem?_eq_some_iff.1 hq).1;rw[←Go.Deep.add_add,hcell q (by omega),hq]
 obtain⟨l,hl1,hl2⟩:=hall len (Nat.le_refl _);have hsl:=bulks.ahe ((List.range len).map D) ((List.range (m- len)).map fun j=>D (len+j));have hse:=bulks.aes ((List.range len).map D) ((List.range (m- len)).map fun j=>D (len+j));refine⟨some a,cap,l,by rw[hl1],by omega,⟨rfl,?_,fun _=>⟨a,rfl,fun j p hj=>(hl2 j p hj).1⟩⟩,?_,fun p hp=>?_⟩
 ·have:maxLen≤9223372036854775807:=by decide
  omega
 ·rw[List.length_map,List.length_range]at hsl
  show l.length≤Rows.uptoBulk (DataW.slice _ _)
  omega
 ·obtain⟨i,hi1,hi2⟩:=List.getElem_of_mem hp;refine⟨D i,(hl2 i p (by rw[List.getElem?_eq_getElem hi1,hi2])).2,?_⟩;have:=bulks.abm (d:=D i) (l:=(List.range len).map D) (List.mem_map.2 ⟨i,List.mem_range.2 (by omega),rfl⟩)
  show _≤Rows.uptoBulk (DataW.slice _ _)
  omega
theorem aaB {n:Nat}{cs:List Value}{y:DataW H×List MemPlace}(h:DataW.trod enc Tryz.prog w base spare held n 9 cs=some y):∃s:ByteArray,cs=[.string s]∧s.size+1=Rows.uptoBulk y.1:=by
 obtain⟨s,rfl,rfl,_⟩:=DataW.trod_string Tryz.underlying9 h;exact⟨s,rfl,by rw[bulks.agF,Array.length_toList];rfl⟩
theorem aer {n:Nat}{cs:List Value}{y:DataW H×List MemPlace}(h:DataW.trod enc Tryz.prog w base spare held n 39 cs=some y):∃s1 s2:ByteArray,cs=[.string s1,.string s2]:=by
 have hS:=DataW.trod_struct Tryz.underlying39 h;obtain⟨xs,m,_,hy,hl,hx,hf⟩:=hS;clear hy;rw[cells39]at hl
 match cs,hl with
 | [c0,c1],_=>
  match xs,hx with
  | [x0,x1],_=>
   have f0:DataW.trod enc Tryz.prog w base spare held m 9 [c0]=some x0:=by simpa[cells9]using hf 0 _ rfl
   have f1:DataW.trod enc Tryz.prog w base spare held m 9 [c1]=some x1:=by simpa[cells9]using hf 1 _ rfl
   obtain⟨s1,e1,_⟩:=aaB f0;obtain⟨s2,e2,_⟩:=aaB f1;obtain rfl:=List.singleton_inj.1 e1;obtain rfl:=List.singleton_inj.1 e2;exact⟨s1,s2,rfl⟩
theorem aez {n:Nat}{cs:List Value}{y:DataW H×List MemPlace}(h:DataW.trod enc Tryz.prog w base spare held n 41 cs=some y):
  ∃x:iU,EP.K w x cs∧(Wf x.f0∧x.f1.size≤Rows.uptoBulk y.1∧x.f4.size≤Rows.uptoBulk y.1∧x.f6.length≤Rows.uptoBulk y.1∧∀t∈x.f6,t.size≤Rows.uptoBulk y.1):=by
 have hS:=DataW.trod_struct Tryz.underlying41 h;obtain⟨xs,m,_,hy,hl,hx,hf⟩:=hS;subst hy;rw[cells41]at hl
 match cs,hl with
 | [c0,c1,c2,c3,c4,c5,c6,c7,c8,c9,c10],_=>
  match xs,hx with
  | [x0,x1,x2,x3,x4,x5,x6,x7,x8],_=>
   have f0:DataW.trod enc Tryz.prog w base spare held m 3 [c0]=some x0:=by simpa[cells3]using hf 0 _ rfl
   have f1:DataW.trod enc Tryz.prog w base spare held m 9 [c1]=some x1:=by simpa[cells9]using hf 1 _ rfl
   have f2:DataW.trod enc Tryz.prog w base spare held m 39 [c2,c3]=some x2:=by simpa[cells39]using hf 2 _ rfl
   have f3:DataW.trod enc Tryz.prog w base spare held m 39 [c4,c5]=some x3:=by simpa[cells39]using hf 3 _ rfl
   have f4:DataW.trod enc Tryz.prog w base spare held m 9 [c6]=some x4:=by simpa[cells9]using hf 4 _ rfl
   have f5:DataW.trod enc Tryz.prog w base spare held m 3 [c7]=some x5:=by simpa[cells3]using hf 5 _ rfl
   have f6:DataW.trod enc Tryz.prog w base spare held m 30 [c8]=some x6:=by simpa[cells30]using hf 6 _ rfl
   have f7:DataW.trod enc Tryz.prog w base spare held m 3 [c9]=some x7:=by simpa[cells3]using hf 7 _ rfl
   have f8:DataW.trod enc Tryz.prog w base spare held m 4 [c10]=some x8:=by simpa[cells4]using hf 8 _ rfl
   obtain⟨n0,e0,_,hw0⟩:=DataW.trod_int Tryz.underlying3 f0;obtain⟨s1,e1,l1⟩:=aaB f1;obtain⟨s2,s3,e2⟩:=aer f2;obtain⟨s4,s5,e3⟩:=aer f3;obtain⟨s6,e4,l4⟩:=aaB f4;obtain⟨n7,e5,_,_⟩:=DataW.trod_int Tryz.underlying3 f5
   obtain⟨A,c,l,e6,hc6,hC6,hl6,hp6⟩:=abK (k:=Kd.string) (Q:=fun(p:ByteArray) d=>p.size+1=Rows.uptoBulk d) Tryz.underlying30 cells9 (fun n cs y hy=>by
    obtain⟨s,rfl,hs⟩:=aaB hy
    exact⟨s,rfl,hs⟩) f6
   obtain⟨n9,e7,_,_⟩:=DataW.trod_int Tryz.underlying3 f7;obtain⟨b,e8,_⟩:=DataW.trod_bool Tryz.underlying4 f8;have e2a:c2= .string s2∧c3= .string s3:=by simpa using e2
   have e3a:c4= .string s4∧c5= .string s5:=by simpa using e3
   obtain⟨rfl,rfl⟩:=e2a;obtain⟨rfl,rfl⟩:=e3a;obtain rfl:=List.singleton_inj.1 e0;obtain rfl:=List.singleton_inj.1 e1;obtain rfl:=List.singleton_inj.1 e4;obtain rfl:=List.singleton_inj.1 e5;obtain rfl:=List.singleton_inj.1 e6;obtain rfl:=List.singleton_inj.1 e7;obtain rfl:=List.singleton_inj.1 e8;have b1:=bulks.abm (d:=x1.1) (l:=[x0.1,x1.1,x2.1,x3.1,x4.1,x5.1,x6.1,x7.1,x8.1]) (by simp);have b4:=bulks.abm (d:=x4.1) (l:=[x0.1,x1.1,x2.1,x3.1,x4.1,x5.1,x6.1,x7.1,x8.1]) (by simp);have b6:=bulks.abm (d:=x6.1) (l:=[x0.1,x1.1,x2.1,x3.1,x4.1,x5.1,x6.1,x7.1,x8.1]) (by simp);have hB:Rows.uptoBulk (DataW.agg [x0.1,x1.1,x2.1,x3.1,x4.1,x5.1,x6.1,x7.1,x8.1])=Rows.uptoBulkAll [x0.1,x1.1,x2.1,x3.1,x4.1,x5.1,x6.1,x7.1,x8.1]+1:=by rw[Rows.uptoBulk]
   refine⟨⟨n0,s1,⟨s2,s3⟩,⟨s4,s5⟩,s6,n7,l,n9,b⟩,adn w ⟨n0,s1,⟨s2,s3⟩,⟨s4,s5⟩,s6,n7,l,n9,b⟩ hc6 hC6,?_⟩
   show Wf n0∧s1.size≤Rows.uptoBulk (DataW.agg [x0.1,x1.1,x2.1,x3.1,x4.1,x5.1,x6.1,x7.1,x8.1])∧s6.size≤Rows.uptoBulk (DataW.agg [x0.1,x1.1,x2.1,x3.1,x4.1,x5.1,x6.1,x7.1,x8.1])∧l.length≤Rows.uptoBulk (DataW.agg [x0.1,x1.1,x2.1,x3.1,x4.1,x5.1,x6.1,x7.1,x8.1])∧∀t∈l,t.size≤Rows.uptoBulk (DataW.agg [x0.1,x1.1,x2.1,x3.1,x4.1,x5.1,x6.1,x7.1,x8.1])
   rw[hB];refine⟨hw0,by omega,by omega,by omega,fun t ht=>?_⟩;obtain⟨d,hd1,hd2⟩:=hp6 t ht;omega
theorem In.ahz {v:Value}{d:DataW H}{p:List MemPlace}(h:DataW.Trod enc Tryz.prog w base spare held 22 v d p)(hd:Rows.uptoBulk d≤1048576):∃A c l,v.cells.toList=[Value.slice A l.length c]∧In A c l w∧∀x∈l,Wf x.f0:=by
 obtain⟨fuel,hf⟩:=h;obtain⟨A,c,l,e,hc,hC,hl,hp⟩:=abK (k:=EP) (Q:=fun(x:iU) d=>Wf x.f0∧x.f1.size≤Rows.uptoBulk d∧x.f4.size≤Rows.uptoBulk d∧x.f6.length≤Rows.uptoBulk d∧∀t∈x.f6,t.size≤Rows.uptoBulk d) Tryz.underlying22 cells41 (fun n cs y hy=>aez hy) hf;have hl:l.length≤Rows.uptoBulk d:=hl;have hp:∀x∈l,∃d2,(Wf x.f0∧x.f1.size≤Rows.uptoBulk d2∧x.f4.size≤Rows.uptoBulk d2∧x.f6.length≤Rows.uptoBulk d2∧∀t∈x.f6,t.size≤Rows.uptoBulk d2)∧Rows.uptoBulk d2≤Rows.uptoBulk d:=hp;refine⟨A,c,l,e,⟨hC,hc,by omega,fun x hx=>?_,fun x hx=>?_⟩,fun x hx=>?_⟩
 ·obtain⟨d2,⟨_,h1,h4,h6,ht⟩,hb⟩:=hp x hx;exact⟨by omega,by omega,fun t htm=>by have:=ht t htm;omega⟩
 ·obtain⟨d2,⟨_,h1,h4,h6,ht⟩,hb⟩:=hp x hx;omega
 ·obtain⟨d2,⟨hw,_⟩,_⟩:=hp x hx;exact hw
end
end Go.Proofs.YthbdjmopolpjmaaGreatDoor.C
namespace Go.Proofs.YthbdjmopolpjmaaGreatDoor.C
open Go.RowKit
theorem al5:Tryz.prog.globalNamed "internal/strconv.uint64pow10" =some 3:=by kernel_rfl
theorem VU:(Tryz.prog.globals[3]?).map (·.type)=some 271:=by kernel_rfl
theorem al4:Tryz.prog.globalNamed "errors.errorType" =some 1:=by kernel_rfl
theorem ab6:Tryz.prog.globalNamed "cubit/book.errLine" =some 0:=by kernel_rfl
theorem RH:(Tryz.prog.globals[0]?).map (·.type)=some 44:=by kernel_rfl
theorem U3:Tryz.prog.cellsOf 271=20:=by kernel_rfl
theorem U2:Tryz.prog.cellsOf 162=1:=by kernel_rfl
theorem U4:Tryz.prog.cellsOf 349=1:=by kernel_rfl
theorem Zg:Tryz.prog.cellsOf 9=1:=by kernel_rfl
theorem star: "*" ++ "errors.errorString" = "*errors.errorString" :=by decide
theorem ae2 (u:TypeId)(h:Tryz.prog.typeName? 3 u=some "*errors.errorString"):u=347:=
 typeName_ptr_named (nm:= "errors.errorString") (by rw[star];kernel_rfl) (by kernel_rfl) (by decide) u (by rw[star];exact h)
theorem rtype:(Tryz.prog.cutTypes.find? (·.1== "internal/reflectlite.rtype")).map (·.2)=some 182:=by kernel_rfl
theorem oneRow:((List.range 390).filter fun t=>Tryz.prog.rowNamed t [101,114,114,111,114])=[44]:=by kernel_rfl
theorem TA:Tryz.prog.types.size=390:=by kernel_rfl
theorem V7:typeHandle Tryz.prog 44= .pointer (some ⟨10,44,none⟩):=by kernel_rfl
def Oj:List (String×DataW Unit):=[("errors.errorType",Rows.laid_errors_errorType)]
end Go.Proofs.YthbdjmopolpjmaaGreatDoor.C
namespace Go.Proofs.YthbdjmopolpjmaaGreatDoor.C
open Go.RowKit Go.Extern.Stop Go.Stop Go.Extern Go.Proofs.YthbdjmopolpjmaaGreatDoorW.PrintWords Go.Proofs.YthbdjmopolpjmaaGreatDoorW.PrintLast Go.Proofs.YthbdjmopolpjmaaGreatDoorW.PrintMore Go.Proofs.YthbdjmopolpjmaaGreatDoor.F Go.Proofs.YthbdjmopolpjmaaGreatDoor.M
namespace As
theorem Qd:(Tryz.prog.info? 347).map (·.comparable)=some true:=by kernel_rfl
theorem aat:(Tryz.prog.info? 349).isSome=true:=by kernel_rfl
theorem aap (b:Addr)(w:World):(binOp .eql 44 (.iface 347 (.pointer (some b))) (.iface 347 (.pointer (some b)))).run Tryz.prog w= .ok (.bool true) w:=by
 obtain⟨i,hi,hc⟩:∃i,Tryz.prog.info? 347=some i∧i.comparable=true:=by
  cases h:Tryz.prog.info? 347 with
  |none=>have:=Qd;rw[h]at this;cases this
  |some i=>exact⟨i,rfl,by have:=Qd;rw[h]at this;exact Option.some.inj this⟩
 obtain⟨j,hj⟩:=Option.isSome_iff_exists.1 aat;exact run_eql_iface_ptr_same w b Tryz.underlying44 Tryz.underlying347 hi hc hj
theorem adm (v1:Value)(b:Addr)(w:World):
  Calls Tryz.prog 45 #[.iface 49 (.agg #[.iface 347 (.pointer (some b)),v1]),.iface 347 (.pointer (some b))] w fun e w'=>e= .returned (.bool true)∧Below w.heap.size w w':=by
 have x84:= @run_callFunc_extern Tryz.prog 84 _ ReflectliteType.typeOf Tryz.func84 (by kernel_rfl) (by kernel_rfl) (by kernel_rfl) (by kernel_rfl);have anJ:= @run_callFunc_extern Tryz.prog 294 _ (ReflectliteType.method fun t=>do Rtype.noPackHeld "Comparable" t;pure (.bool (←typeInfo t).comparable)) Tryz.func294 (by kernel_rfl) (by kernel_rfl) (by kernel_rfl) (by kernel_rfl);have y1:=He;have y2:=wL;have y3:=rD;have y4:=XI;have y6:=uC;have y9:=methodUnwrap;have q1:=run_eql_iface_types (P:=Tryz.prog) 49 347 (.agg #[.iface 347 (.pointer (some b)),v1]) (.pointer (some b)) Tryz.underlying44 (by decide);have q2:=aap b;go_enter Tryz.func45,Tryz.ntmps45;go_wp2;refine wp_loop_rounds 2 ?_;rw[rounds_succ];go_wp2;rw[rounds_succ];go_wp2;go_ret;exact⟨rfl,ag (Below.refl _ _) _⟩
end As
theorem wY (b:Addr)(at_:Int)(w:World)(hg:BI w)(hb:w.cell? ⟨0,0,none⟩=some (.iface 347 (.pointer (some b)))):
  Calls Tryz.prog 21 #[.iface 49 (.agg #[.iface 347 (.pointer (some b)),.int .i64 at_])] w fun e w'=>e= .returned (.tuple #[.int .i64 170,.int .i64 at_])∧Below w.heap.size w w':=by
 have HG:=zM (zA hg hb);clear hg hb;go_enter Tryz.func21,Tryz.ntmps21;go_wp2_with fail;refine(FU (.iface 347 (.pointer (some b))) (.int .i64 at_) w _ rfl rfl rfl HG.out.1).mono ?_;rintro e w1 ⟨rfl,h1,h2⟩;have hE:=cell_later h2 HG.out.2;have H1:=zM h2;clear h2;go_wp2_with fail;refine(As.adm (.int .i64 at_) b _).mono ?_;rintro e w2 ⟨rfl,h3⟩;have hc1:=cell_later h3 h1;have H2:=zM (ah H1.out H1.out.size h3);clear h3 hE h1;go_wp2_with fail;go_ret2;exact⟨rfl,H2.out⟩
end Go.Proofs.YthbdjmopolpjmaaGreatDoor.C
namespace Go.Proofs.YthbdjmopolpjmaaGreatDoor.C
open Go.RowKit Go.Proofs.YthbdjmopolpjmaaGreatDoorW.PrintWords Go.Proofs.YthbdjmopolpjmaaGreatDoorW.PrintLast Go.Proofs.YthbdjmopolpjmaaGreatDoorW.PrintMore Go.Proofs.YthbdjmopolpjmaaGreatDoor.F Go.Proofs.YthbdjmopolpjmaaGreatDoor.M
attribute [local go_sem] max2_int min2_int max_two min_two max_three min_three max_four min_four
def Kq (b:Addr)(n:Int):Value:=if n=170 then .iface 347 (.pointer (some b))else yH n
theorem zS {b:Addr}{n:Int}(h0:n≠0)(h:n≠170):Kq b n= .iface 83 (.agg #[.int .i64 n]):=by
 unfold Kq yH;rw[if_neg h,if_neg h0]
theorem xY (s:ByteArray)(w:World)(hs:s.size≤1000000):Calls Tryz.prog 70 #[.string s] w fun e w'=>∃v b,e= .returned (.tuple #[.int .i64 v,.bool b])∧(b=true↔Canon s)∧(Canon s→v=mn (dv s) 1099511627776)∧Below w.heap.size w w':=by
 obtain⟨v,b,he,h1,h2⟩:=MR s hs;obtain⟨k,hk⟩:=he.rounds;exact(dS.calls k s v b w hk).mono fun e w' h=>⟨v,b,h.1,h1,h2,h.2⟩
theorem SA (s:ByteArray)(w:World)(hs:s.size≤1000000):Calls Tryz.prog 72 #[.string s] w fun e w'=>e= .returned (.tuple #[.string (oM s).1,.bool (oM s).2])∧Below w.heap.size w w':=by
 obtain⟨k,hk⟩:=(Ej s hs).rounds;exact cZ.calls k s (oM s).1 (oM s).2 w hk
theorem Rj (b0 b1 b2:Bool):eu.f 9 [b0,b1,b2] false=some (!(b0&&b1&&b2)):=by
 cases b0<;>cases b1<;>cases b2<;>kernel_rfl
theorem Qe (A:Option Addr)(n c:Nat)(j:Int)(h0:0≤j)(h1:j≤n):
  ∀W:World,(Instr.slice 30 (.slice A n c) (some (.int .i64 j)) none none).run Tryz.prog W= .ok (.slice (if c=j.toNat then A else A.map (·.add (j.toNat *1))) (n- j.toNat) (c- j.toNat)) W:=by
 intro W;obtain⟨i0,hi0,hz,hs,_⟩:=info_parts info9;have hel:Tryz.prog.elem 30=9:=by simp[Program.elem,Tryz.underlying30]
 have hu:Tryz.prog.underlying 30=some (.slice (Tryz.prog.elem 30)):=by rw[hel];exact Tryz.underlying30
 rw[run_slice_l W 30 A n c hu .i64 j h0 h1,hel];simp[sizeOf,typeInfo,hi0,hs,sliced,Result.andThen]
theorem info4:(Tryz.prog.info? 4).map (fun i=>(i.zero,i.size,i.bytes))=some (some (.bool false),1,1):=by kernel_rfl
theorem ahB (W:World):(Instr.makeSlice 101 (.int .i64 3) (.int .i64 3)).run Tryz.prog W= .ok (.slice (some ⟨W.heap.size,0,none⟩) 3 3) (W.alloc (.cells #[.bool false,.bool false,.bool false] 4)):=by
 obtain⟨i,hi,hz,hs,hb⟩:=info_parts info4;have h:=run_makeSlice W 101 4 i (.bool false) Tryz.underlying101 hi hz .i64 .i64 3 3 (by decide) (by decide) (by rw[hs];decide) (by rw[hb];decide) (by decide);have e:madeCells (Value.bool false).cells (Int.toNat 3*1)= #[.bool false,.bool false,.bool false]:=by kernel_rfl
 rw[hs,e]at h;exact h
structure jH (w:World)(eb xb kb:Nat)(W:World)(f0 f7 f5:Int)(b0 b1 b2:Bool):Prop where
 bel:Below w.heap.size w W
 e:W.heap[eb]?=some (.cells #[.int .i64 0,.string ⟨#[]⟩,.string ⟨#[]⟩,.string ⟨#[]⟩,.string ⟨#[]⟩,.string ⟨#[]⟩,.string ⟨#[]⟩,.int .i64 0,.slice none 0 0,.int .i64 0,.bool false] 41 (0,0))
 x:W.heap[xb]?=some (.cells #[.int .i64 f0,.string ⟨#[]⟩,.string ⟨#[]⟩,.string ⟨#[]⟩,.string ⟨#[]⟩,.string ⟨#[]⟩,.string ⟨#[]⟩,.int .i64 f5,.slice none 0 0,.int .i64 f7,.bool false] 41 (0,0))
 k:W.heap[kb]?=some (.cells #[.bool b0,.bool b1,.bool b2] 4 (0,0))
theorem jH.below {w W W2:World}{eb xb kb:Nat}{f0 f7 f5:Int}{b0 b1 b2:Bool}(h:jH w eb xb kb W f0 f7 f5 b0 b1 b2)(hb:Below W.heap.size W W2):jH w eb xb kb W2 f0 f7 f5 b0 b1 b2:=
 ⟨ah h.bel h.bel.size hb,aT h.e hb,aT h.x hb,aT h.k hb⟩
structure Ia (w:World)(eb xb kb:Nat):Prop where
 ex:eb≠xb
 ek:eb≠kb
 xk:xb≠kb
 x:w.heap.size≤xb
 k:w.heap.size≤kb
theorem jH.one {w W:World}{eb xb kb:Nat}{f0 f7 f5:Int}{b0 b1 b2:Bool}(h:jH w eb xb kb W f0 f7 f5 b0 b1 b2)(hn:Ia w eb xb kb)(n:Int)(b:Bool):jH w eb xb kb ((W.setCell ⟨xb,0,none⟩ (.int .i64 n)).setCell ⟨kb,0,none⟩ (.bool b)) n f7 f5 b b1 b2:=
 ⟨(h.bel.setCell (p:=⟨xb,0,none⟩) hn.x _).setCell (p:=⟨kb,0,none⟩) hn.k _,jm (p:=⟨kb,0,none⟩) (jm (p:=⟨xb,0,none⟩) h.e hn.ex _) hn.ek _,jm (p:=⟨kb,0,none⟩) (aN h.x 0 (.int .i64 n)) hn.xk _,aN (jm (p:=⟨xb,0,none⟩) h.k (Ne.symm hn.xk) _) 0 (.bool b)⟩
theorem jH.two {w W:World}{eb xb kb:Nat}{f0 f7 f5:Int}{b0 b1 b2:Bool}(h:jH w eb xb kb W f0 f7 f5 b0 b1 b2)(hn:Ia w eb xb kb)(n:Int)(b:Bool):jH w eb xb kb ((W.setCell ⟨xb,9,none⟩ (.int .i64 n)).setCell ⟨kb,1,none⟩ (.bool b)) f0 n f5 b0 b b2:=
 ⟨(h.bel.setCell (p:=⟨xb,9,none⟩) hn.x _).setCell (p:=⟨kb,1,none⟩) hn.k _,jm (p:=⟨kb,1,none⟩) (jm (p:=⟨xb,9,none⟩) h.e hn.ex _) hn.ek _,jm (p:=⟨kb,1,none⟩) (aN h.x 9 (.int .i64 n)) hn.xk _,aN (jm (p:=⟨xb,9,none⟩) h.k (Ne.symm hn.xk) _) 1 (.bool b)⟩
theorem jH.three {w W:World}{eb xb kb:Nat}{f0 f7 f5:Int}{b0 b1 b2:Bool}(h:jH w eb xb kb W f0 f7 f5 b0 b1 b2)(hn:Ia w eb xb kb)(n:Int)(b:Bool):jH w eb xb kb ((W.setCell ⟨xb,7,none⟩ (.int .i64 n)).setCell ⟨kb,2,none⟩ (.bool b)) f0 f7 n b0 b1 b:=
 ⟨(h.bel.setCell (p:=⟨xb,7,none⟩) hn.x _).setCell (p:=⟨kb,2,none⟩) hn.k _,jm (p:=⟨kb,2,none⟩) (jm (p:=⟨xb,7,none⟩) h.e hn.ex _) hn.ek _,jm (p:=⟨kb,2,none⟩) (aN h.x 7 (.int .i64 n)) hn.xk _,aN (jm (p:=⟨xb,7,none⟩) h.k (Ne.symm hn.xk) _) 2 (.bool b)⟩
theorem jH.IV {w W:World}{eb xb kb:Nat}{f0 f7 f5:Int}{b0 b1 b2:Bool}(h:jH w eb xb kb W f0 f7 f5 b0 b1 b2):W.cell? ⟨kb,0,none⟩=some (.bool b0)∧W.cell? ⟨kb,1,none⟩=some (.bool b1)∧W.cell? ⟨kb,2,none⟩=some (.bool b2)∧W.frozen? ⟨kb,0,none⟩=false∧W.frozen? ⟨kb,1,none⟩=false∧W.frozen? ⟨kb,2,none⟩=false:=
 ⟨(zi h.k).1,(zi h.k).2.1,(zi h.k).2.2,au h.k 0,au h.k 1,au h.k 2⟩
theorem jH.bools {w W:World}{eb xb kb:Nat}{f0 f7 f5:Int}{b0 b1 b2:Bool}(h:jH w eb xb kb W f0 f7 f5 b0 b1 b2):Kd.C Kd.bool W (some ⟨kb,0,none⟩) 3 [b0,b1,b2]:=by
 obtain⟨h0,h1,h2,_⟩:=h.IV;refine⟨rfl,by decide,fun _=>⟨_,rfl,fun j p hj=>?_⟩⟩;have hj3:=(List.getElem?_eq_some_iff.1 hj).1;refine⟨[.bool p],rfl,rfl,fun q u hu=>?_⟩
 obtain rfl:q=0:=by
  have:=(List.getElem?_eq_some_iff.1 hu).1;simp at this;omega
 obtain rfl:Value.bool p=u:=by simpa using hu
 have e:∀m,(⟨kb,0,none⟩:Addr).add m=⟨kb,m,none⟩:=fun m=>add_plain kb m
 rw[e]
 match j,hj3 with
 |0,_=>obtain rfl:b0=p:=(by simpa using hj);exact h0
 |1,_=>obtain rfl:b1=p:=(by simpa using hj);exact h1
 |2,_=>obtain rfl:b2=p:=(by simpa using hj);exact h2
structure ug (w:World)(eb xb:Nat)(W:World)(f0:Int)(f1 n d n2 d2 f4:ByteArray)(f5:Int)(v8:Value)(f7:Int)(f10:Bool):Prop where
 bel:Below w.heap.size w W
 e:W.heap[eb]?=some (.cells #[.int .i64 0,.string ⟨#[]⟩,.string ⟨#[]⟩,.string ⟨#[]⟩,.string ⟨#[]⟩,.string ⟨#[]⟩,.string ⟨#[]⟩,.int .i64 0,.slice none 0 0,.int .i64 0,.bool false] 41 (0,0))
 x:W.heap[xb]?=some (.cells #[.int .i64 f0,.string f1,.string n,.string d,.string n2,.string d2,.string f4,.int .i64 f5,v8,.int .i64 f7,.bool f10] 41 (0,0))
theorem ug.below {w W W2:World}{eb xb:Nat}{f0:Int}{f1 n d n2 d2 f4:ByteArray}{f5:Int}{v8:Value}{f7:Int}{f10:Bool}(h:ug w eb xb W f0 f1 n d n2 d2 f4 f5 v8 f7 f10)(hb:Below W.heap.size W W2):ug w eb xb W2 f0 f1 n d n2 d2 f4 f5 v8 f7 f10:=
 ⟨ah h.bel h.bel.size hb,aT h.e hb,aT h.x hb⟩
def opd (T:List ByteArray)(i:Nat):List ByteArray:=(T.take i).map (fun t=>(oM t).1)++T.drop i
theorem aa4 (T:List ByteArray):opd T T.length=T.map (fun t=>(oM t).1):=by
 unfold opd;rw[List.take_length,List.drop_length,List.append_nil]
theorem adw (T:List ByteArray)(i:Nat)(h:i<T.length):jg (⟨#[]⟩:ByteArray) (opd T i) (i:Int)=pt T i:=by
 unfold opd jg;rw[Int.toNat_natCast,List.getD_eq_getElem?_getD,List.getElem?_append_right (by rw[List.length_map,List.length_take];omega),List.length_map,List.length_take,Nat.min_eq_left (by omega),Nat.sub_self,List.getElem?_drop,Nat.add_zero,uJ h,List.getElem?_eq_getElem h];rfl
theorem aa5 (T:List ByteArray)(i:Nat)(h:i<T.length):(opd T i).set i (oM (pt T i)).1=opd T (i+1):=by
 unfold opd;rw[List.set_append_right _ _ (by rw[List.length_map,List.length_take];omega),List.length_map,List.length_take,Nat.min_eq_left (by omega),Nat.sub_self,List.drop_eq_getElem_cons h,List.set_cons_zero,List.take_succ_eq_append_getElem h,List.map_append,List.append_assoc,uJ h];rfl
def mD (ps:List ByteArray):List ByteArray:=[pt ps 4,pt ps 7]++ps.drop 8
theorem XB {ps:List ByteArray}(h:rJ ps):∀j,j<(mD ps).length→(oM (pt (mD ps) j)).2=true:=by
 intro j hj;have h8:=h.len
 match j with
 |0=>exact h.opn 4 (by omega) (by omega) (by omega) (by omega)
 |1=>exact h.opn 7 (by omega) (by omega) (by omega) (by omega)
 |k+2=>
  have hk:k+8<ps.length:=by
   simp only[mD,List.length_append,List.length_cons,List.length_nil,List.length_drop]at hj;omega
  have e:pt (mD ps) (k+2)=pt ps (k+8):=by
   simp only[pt,mD,List.getD_eq_getElem?_getD];rw[List.getElem?_append_right (by simp)];simp[List.getElem?_drop,Nat.add_comm]
  rw[e];exact h.opn (k+8) (by omega) hk (by omega) (by omega)
theorem Si {ps:List ByteArray}(h8:8≤ps.length)(h:∀j,j<(mD ps).length→(oM (pt (mD ps) j)).2=true):∀i,4≤i→i<ps.length→i≠5→i≠6→(oM (pt ps i)).2=true:=by
 intro i h1 h2 h3 h4
 have hl:(mD ps).length=2+(ps.length- 8):=by
  simp only[mD,List.length_append,List.length_cons,List.length_nil,List.length_drop]
 by_cases e4:i=4
 ·subst e4;exact h 0 (by omega)
 ·by_cases e7:i=7
  ·subst e7;exact h 1 (by omega)
  ·obtain⟨k,rfl⟩:∃k,i=k+8:=⟨i- 8,by omega⟩
   have e:pt (mD ps) (k+2)=pt ps (k+8):=by
    simp only[pt,mD,List.getD_eq_getElem?_getD];rw[List.getElem?_append_right (by simp)];simp[List.getElem?_drop,Nat.add_comm]
   rw[←e];exact h (k+2) (by omega)
theorem Oy {ps:List ByteArray}(h8:8≤ps.length)(hs:∀t∈ps,t.size≤65536):∀j,j<(mD ps).length→(pt (mD ps) j).size≤65536:=by
 intro j hj;have hm:=xP hj;unfold mD at hm;rcases List.mem_append.1 hm with hm|hm
 ·simp only[List.mem_cons,List.not_mem_nil,or_false]at hm;rcases hm with hm|hm
  ·unfold mD;rw[hm];exact hs _ (xP (by omega))
  ·unfold mD;rw[hm];exact hs _ (xP (by omega))
 ·exact hs _ (List.mem_of_mem_drop hm)
theorem UB {W:World}{base eb:Nat}{v:Value}{xs:List ByteArray}{cs:Array Value}(h:Kd.string.R 9 W base (fun _=>True) v xs)(hE:W.heap[eb]?=some (.cells cs 41 (0,0)))(v0 v1 v2 v3 v4 v5 v6 v7 v8 v9 v10:Value):
  Kd.string.R 9 (((((((((((W.setCell ⟨eb,0,none⟩ v0).setCell ⟨eb,1,none⟩ v1).setCell ⟨eb,2,none⟩ v2).setCell ⟨eb,3,none⟩ v3).setCell ⟨eb,4,none⟩ v4).setCell ⟨eb,5,none⟩ v5).setCell ⟨eb,6,none⟩ v6).setCell ⟨eb,7,none⟩ v7).setCell ⟨eb,8,none⟩ v8).setCell ⟨eb,9,none⟩ v9).setCell ⟨eb,10,none⟩ v10) base (fun _=>True) v xs:=
 Kd.gI (Kd.ui (Kd.uV h hE (by simp[Kd.string,Kd.scalar])) (fun k hk _=>Ky W hk.2 _ _ _ _ _ _ _ _ _ _ _)) (fun _ _=>trivial)
theorem ug.pair {w W:World}{eb xb:Nat}{f0:Int}{f1 n d n2 d2 f4:ByteArray}{f5:Int}{v8:Value}{f7:Int}{f10:Bool}(h:ug w eb xb W f0 f1 n d n2 d2 f4 f5 v8 f7 f10)(hn:eb≠xb)(hx:w.heap.size≤xb)(j k:Nat)(u v:Value){f1' n' d' n2' d2' f4':ByteArray}
  (he:((#[.int .i64 f0,.string f1,.string n,.string d,.string n2,.string d2,.string f4,.int .i64 f5,v8,.int .i64 f7,.bool f10]:Array Value).setIfInBounds j u).setIfInBounds k v= #[.int .i64 f0,.string f1',.string n',.string d',.string n2',.string d2',.string f4',.int .i64 f5,v8,.int .i64 f7,.bool f10]):
  ug w eb xb ((W.setCell ⟨xb,j,none⟩ u).setCell ⟨xb,k,none⟩ v) f0 f1' n' d' n2' d2' f4' f5 v8 f7 f10:=
 ⟨(h.bel.setCell (p:=⟨xb,j,none⟩) hx _).setCell (p:=⟨xb,k,none⟩) hx _,jm (p:=⟨xb,k,none⟩) (jm (p:=⟨xb,j,none⟩) h.e hn _) hn _,by rw[←he];exact aN (aN h.x j u) k v⟩
theorem NL {W:World}{base xb:Nat}{v:Value}{xs:List ByteArray}{cs:Array Value}(h:Kd.string.R 9 W base (fun _=>True) v xs)(hX:W.heap[xb]?=some (.cells cs 41 (0,0)))(j k:Nat)(u1 u2:Value):
  Kd.string.R 9 ((W.setCell ⟨xb,j,none⟩ u1).setCell ⟨xb,k,none⟩ u2) base (fun _=>True) v xs:=
 Kd.Dy (Kd.Dy h hX (by simp[Kd.string,Kd.scalar]) j u1) (aN hX j u1) (by simp[Kd.string,Kd.scalar]) k u2
theorem Sj (A:Option Addr)(c:Nat)(ps:List ByteArray)(b:Addr)(w:World)(hC:Kd.string.C w A ps.length ps)(hc:ps.length≤c)(hl:ps.length≤65537)(hs:∀t∈ps,t.size≤65536)(hg:w.cell? ⟨0,0,none⟩=some (.iface 347 (.pointer (some b)))):
  Calls Tryz.prog 38 #[.slice A ps.length c] w fun e w'=>∃x A8 c8 er,e= .returned (.tuple #[EW x (.slice A8 x.f6.length c8),Kq b er])∧oO ps er x∧Kd.string.R 9 w' w.heap.size (fun _=>True) (.slice A8 x.f6.length c8) x.f6∧Below w.heap.size w w':=by
 obtain⟨eb,heb⟩:∃eb,w.heap.size=eb:=⟨_,rfl⟩;obtain⟨w0,hw0⟩:∃w0,w.alloc (.cells #[.int .i64 0,.string ⟨#[]⟩,.string ⟨#[]⟩,.string ⟨#[]⟩,.string ⟨#[]⟩,.string ⟨#[]⟩,.string ⟨#[]⟩,.int .i64 0,.slice none 0 0,.int .i64 0,.bool false] 41)=w0:=⟨_,rfl⟩;obtain⟨xb,hxb⟩:∃xb,w0.heap.size=xb:=⟨_,rfl⟩;obtain⟨wA,hwA⟩:∃wA,w0.alloc (.cells #[.int .i64 0,.string ⟨#[]⟩,.string ⟨#[]⟩,.string ⟨#[]⟩,.string ⟨#[]⟩,.string ⟨#[]⟩,.string ⟨#[]⟩,.int .i64 0,.slice none 0 0,.int .i64 0,.bool false] 41)=wA:=⟨_,rfl⟩;have hB0:Below w.heap.size w w0:=by rw[←hw0];exact ag (Below.refl _ _) _
 have hE0:w0.heap[eb]?=some (.cells #[.int .i64 0,.string ⟨#[]⟩,.string ⟨#[]⟩,.string ⟨#[]⟩,.string ⟨#[]⟩,.string ⟨#[]⟩,.string ⟨#[]⟩,.int .i64 0,.slice none 0 0,.int .i64 0,.bool false] 41 (0,0)):=by rw[←hw0,←heb];exact bZ w _
 have Oi:Below w0.heap.size w0 wA:=by rw[←hwA];exact ag (Below.refl _ _) _
 have hEA:=aT hE0 Oi;have hXA:wA.heap[xb]?=some (.cells #[.int .i64 0,.string ⟨#[]⟩,.string ⟨#[]⟩,.string ⟨#[]⟩,.string ⟨#[]⟩,.string ⟨#[]⟩,.string ⟨#[]⟩,.int .i64 0,.slice none 0 0,.int .i64 0,.bool false] 41 (0,0)):=by rw[←hwA,←hxb];exact bZ w0 _
 have V4:=ah hB0 hB0.size Oi;have hne:eb≠xb:=by have:=dV hE0;omega
 have hle:w.heap.size≤xb:=by have:=hB0.size;omega
 have hsz:∀i,i<ps.length→(pt ps i).size≤65536:=fun i hi=>hs _ (xP hi)
 have HS:=zM (zA hsz (zA hs (zA hl hc)));have yf:=zM heb;have wG:=zM (zA hne (zA (Ne.symm hne) hle));have hz0:w.heap.size≠0:=by have:=World.block_lt_of_cell? _ _ hg;omega
 have z0:¬eb=0:=by omega
 have z1:¬0=eb:=by omega
 have dG:¬eb=xb:=hne;have fQ:¬xb=eb:=Ne.symm hne;have HA:=zM (zA V4 (zA hEA hXA));have hgA:=cell_later V4 hg;have Jy:=zM (zA hC hg);obtain⟨N,hN⟩:∃N,ps.length=N:=⟨_,rfl⟩;have HN:=zM hN;rw[hN];clear hB0 hE0 Oi hEA hXA V4 hne hle hsz hC hc hl hs hg hN hz0;obtain⟨vk,vw,vz,vC,vF,vG,vH,Bh,Bi,Bj,nR⟩:=eleven (HA.out.2.1);obtain⟨pq,pz,pG,pI,pJ,pK,pM,xA,xB,xC,pF⟩:=fC (HA.out.2.1);obtain⟨Ak,Am,Ar,Au,Aw,Az,AA,AB,AL,AO,mP⟩:=eleven (HA.out.2.2);obtain⟨mQ,mV,mW,mX,mY,mZ,ni,nz,nC,nD,jO⟩:=fC (HA.out.2.2)
 by_cases h8:N<8
 ·have q1:=zT h8;have q2:decide ((N:Int)<8)=true:=decide_eq_true (by omega);have H8:=zM h8;clear h8;go_enter Tryz.func38,Tryz.ntmps38;go_wp2_with fail;obtain⟨wS,mM⟩:∃wS,(((((((((((wA.setCell ⟨eb,0,none⟩ (.int .i64 0)).setCell ⟨eb,1,none⟩ (.string ⟨#[]⟩)).setCell ⟨eb,2,none⟩ (.string ⟨#[]⟩)).setCell ⟨eb,3,none⟩ (.string ⟨#[]⟩)).setCell ⟨eb,4,none⟩ (.string ⟨#[]⟩)).setCell ⟨eb,5,none⟩ (.string ⟨#[]⟩)).setCell ⟨eb,6,none⟩ (.string ⟨#[]⟩)).setCell ⟨eb,7,none⟩ (.int .i64 0)).setCell ⟨eb,8,none⟩ (.slice none 0 0)).setCell ⟨eb,9,none⟩ (.int .i64 0)).setCell ⟨eb,10,none⟩ (.bool false))=wS:=⟨_,rfl⟩;have hES:wS.heap[eb]?=some (.cells #[.int .i64 0,.string ⟨#[]⟩,.string ⟨#[]⟩,.string ⟨#[]⟩,.string ⟨#[]⟩,.string ⟨#[]⟩,.string ⟨#[]⟩,.int .i64 0,.slice none 0 0,.int .i64 0,.bool false] 41 (0,0)):=by rw[←mM];exact tN (HA.out.2.1) _ _ _ _ _ _ _ _ _ _ _
  have hXS:wS.heap[xb]?=some (.cells #[.int .i64 0,.string ⟨#[]⟩,.string ⟨#[]⟩,.string ⟨#[]⟩,.string ⟨#[]⟩,.string ⟨#[]⟩,.string ⟨#[]⟩,.int .i64 0,.slice none 0 0,.int .i64 0,.bool false] 41 (0,0)):=by rw[←mM];exact(Ky _ (wG.out.2.1) _ _ _ _ _ _ _ _ _ _ _).trans (HA.out.2.2)
  have hBS:Below w.heap.size w wS:=by rw[←mM];exact kN (HA.out.1) (Nat.le_of_eq yf.out) _ _ _ _ _ _ _ _ _ _ _
  have hgS:=cell_later hBS Jy.out.2;obtain⟨ys0,ys1,ys2,ys3,ys4,ys5,ys6,ys7,ys8,ys9,YD⟩:=eleven hXS;have nU:=zM (zA hES hBS);clear hES hXS hBS;go_region_held3 (fun w'=>w'.cell? ⟨xb,0,none⟩=some (.int .i64 0)∧w'.cell? ⟨xb,1,none⟩=some (.string ⟨#[]⟩)∧w'.cell? ⟨xb,2,none⟩=some (.string ⟨#[]⟩)∧w'.cell? ⟨xb,3,none⟩=some (.string ⟨#[]⟩)∧w'.cell? ⟨xb,4,none⟩=some (.string ⟨#[]⟩)∧w'.cell? ⟨xb,5,none⟩=some (.string ⟨#[]⟩)∧w'.cell? ⟨xb,6,none⟩=some (.string ⟨#[]⟩)∧w'.cell? ⟨xb,7,none⟩=some (.int .i64 0)∧w'.cell? ⟨xb,8,none⟩=some (.slice none 0 0)∧w'.cell? ⟨xb,9,none⟩=some (.int .i64 0)∧w'.cell? ⟨xb,10,none⟩=some (.bool false)∧w'.cell? ⟨0,0,none⟩=some (.iface 347 (.pointer (some b)))) (go_keep) (fail);rename_i hS_;clear hS_;clear mM hgS ys0 ys1 ys2 ys3 ys4 ys5 ys6 ys7 ys8 ys9 YD;go_wp2_with fail;refine bodyPost_ret (dw rfl _ _ eb 41 #[.int .i64 0,.string ⟨#[]⟩,.string ⟨#[]⟩,.string ⟨#[]⟩,.string ⟨#[]⟩,.string ⟨#[]⟩,.string ⟨#[]⟩,.int .i64 0,.slice none 0 0,.int .i64 0,.bool false] (0,0) _ rfl (by exact nU.out.1) Tryz.underlying41 rfl (by kernel_rfl)) rfl ?_;exact⟨⟨0,⟨#[]⟩,⟨⟨#[]⟩,⟨#[]⟩⟩,⟨⟨#[]⟩,⟨#[]⟩⟩,⟨#[]⟩,0,[],0,false⟩,none,0,170,rfl,.inl ⟨fun h=>absurd h.len (by have:=H8.out;have:=HN.out;omega),rfl⟩,Kd.jB _ _ _ _ _,by first|exact nU.out.2|exact dB nU.out.2⟩
 ·have q1:=zF h8;have q2:decide ((N:Int)<8)=false:=decide_eq_false (by omega);obtain⟨ad,rfl,hc⟩:=Ep Jy.out.1 (by have:=HN.out;omega);have HC:=zM hc;have H8:=zM (show 8≤N by omega);have c0:wA.cell? ad=some (.string (pt ps 0)):=by have h:=hc wA HA.out.1 0 (by have:=HN.out;omega);rwa [DC]at h
  have c1:wA.cell? ⟨ad.block,ad.off+1,none⟩=some (.string (pt ps 1)):=by have h:=hc wA HA.out.1 1 (by have:=HN.out;omega);rwa [add_pos ad 1 (by omega)]at h
  have c2:wA.cell? ⟨ad.block,ad.off+2,none⟩=some (.string (pt ps 2)):=by have h:=hc wA HA.out.1 2 (by have:=HN.out;omega);rwa [add_pos ad 2 (by omega)]at h
  have k0:=eq_true (show 0<N by omega);have k1:=eq_true (show 1<N by omega);have k2:=eq_true (show 2<N by omega);have k3:=eq_true (show 3<N by omega);have i0:=eq_true (show(0:Int)<(N:Int)by omega);have i1:=eq_true (show(1:Int)<(N:Int)by omega);have i2:=eq_true (show(2:Int)<(N:Int)by omega);have i3:=eq_true (show(3:Int)<(N:Int)by omega);clear hc h8;have hmk:=ahB;obtain⟨kb,hkb⟩:∃kb,wA.heap.size=kb:=⟨_,rfl⟩;obtain⟨wK,hwK⟩:∃wK,wA.alloc (.cells #[.bool false,.bool false,.bool false] 4)=wK:=⟨_,rfl⟩;have hBK:Below wA.heap.size wA wK:=by rw[←hwK];exact ag (Below.refl _ _) _
  have hKK:wK.heap[kb]?=some (.cells #[.bool false,.bool false,.bool false] 4 (0,0)):=by rw[←hwK,←hkb];exact bZ wA _
  have HK0:=zM (show jH w eb xb kb wK 0 0 0 false false false from⟨ah HA.out.1 HA.out.1.size hBK,aT HA.out.2.1 hBK,aT HA.out.2.2 hBK,hKK⟩);have xh:=zM (show Ia w eb xb kb from⟨wG.out.1,by have:=dV HA.out.2.1;omega,by have:=dV HA.out.2.2;omega,wG.out.2.2,by have:=HA.out.1.size;omega⟩);have c0:wK.cell? ad=some (.string (pt ps 0)):=by have h:=HC.out wK HK0.out.bel 0 (by have:=HN.out;have:=H8.out;omega);rwa [DC]at h
  clear c1 c2 hBK hKK;clear vk vw vz vC vF vG vH Bh Bi Bj nR pq pz pG pI pJ pK pM xA xB xC pF;clear Ak Am Ar Au Aw Az AA AB AL AO mP mQ mV mW mX mY mZ ni nz nC nD jO;go_enter Tryz.func38,Tryz.ntmps38;go_wp2_with fail;refine(xY (pt ps 0) _ (by have:=HS.out.1 0 (by have:=HN.out;have:=H8.out;omega);omega)).mono ?_;rintro e w2 ⟨n0,b0,rfl,h1,h2,h3⟩;have fM:=zM (HK0.out.below h3);have HW1:=zM (zA h1 h2);obtain⟨Ak,Am,Ar,Au,Aw,Az,AA,AB,AL,AO,mP⟩:=eleven (fM.out.x);obtain⟨mQ,mV,mW,mX,mY,mZ,ni,nz,nC,nD,jO⟩:=fC (fM.out.x);obtain⟨kk0,kk1,kk2,kf0,kf1,kf2⟩:=fM.out.IV;obtain⟨s2,hs2⟩:∃s2,(w2.setCell ⟨xb,0,none⟩ (.int .i64 n0)).setCell ⟨kb,0,none⟩ (.bool b0)=s2:=⟨_,rfl⟩;have HS1:=zM (show jH w eb xb kb s2 n0 0 0 b0 false false by rw[←hs2];exact fM.out.one xh.out n0 b0);have c1:s2.cell? ⟨ad.block,ad.off+1,none⟩=some (.string (pt ps 1)):=by have h:=HC.out s2 HS1.out.bel 1 (by have:=HN.out;have:=H8.out;omega);rwa [add_pos ad 1 (by omega)]at h
  have nkx:¬kb=xb:=Ne.symm xh.out.xk;have nxk:¬xb=kb:=xh.out.xk;clear h1 h2 h3 c0;go_wp2_with fail;refine(xY (pt ps 1) _ (by have:=HS.out.1 1 (by have:=HN.out;have:=H8.out;omega);omega)).mono ?_;rintro e w3 ⟨n1,b1,rfl,h1,h2,h3⟩;clear Ak Am Ar Au Aw Az AA AB AL AO mP mQ mV mW mX mY mZ ni nz nC nD jO;clear kk0 kk1 kk2 kf0 kf1 kf2;have BK:=zM (HS1.out.below h3);have HW2:=zM (zA h1 h2);obtain⟨Ak,Am,Ar,Au,Aw,Az,AA,AB,AL,AO,mP⟩:=eleven (BK.out.x);obtain⟨mQ,mV,mW,mX,mY,mZ,ni,nz,nC,nD,jO⟩:=fC (BK.out.x);obtain⟨kk0,kk1,kk2,kf0,kf1,kf2⟩:=BK.out.IV;obtain⟨s3,hs3⟩:∃s3,(w3.setCell ⟨xb,9,none⟩ (.int .i64 n1)).setCell ⟨kb,1,none⟩ (.bool b1)=s3:=⟨_,rfl⟩;have HS2:=zM (show jH w eb xb kb s3 n0 n1 0 b0 b1 false by rw[←hs3];exact BK.out.two xh.out n1 b1);have c2:s3.cell? ⟨ad.block,ad.off+2,none⟩=some (.string (pt ps 2)):=by have h:=HC.out s3 HS2.out.bel 2 (by have:=HN.out;have:=H8.out;omega);rwa [add_pos ad 2 (by omega)]at h
  clear h1 h2 h3 c1;go_wp2_with fail;refine(xY (pt ps 2) _ (by have:=HS.out.1 2 (by have:=HN.out;have:=H8.out;omega);omega)).mono ?_;rintro e w4 ⟨n2,b2,rfl,h1,h2,h3⟩;clear Ak Am Ar Au Aw Az AA AB AL AO mP mQ mV mW mX mY mZ ni nz nC nD jO;clear kk0 kk1 kk2 kf0 kf1 kf2;have yw:=zM (HS2.out.below h3);have HW3:=zM (zA h1 h2);obtain⟨Ak,Am,Ar,Au,Aw,Az,AA,AB,AL,AO,mP⟩:=eleven (yw.out.x);obtain⟨mQ,mV,mW,mX,mY,mZ,ni,nz,nC,nD,jO⟩:=fC (yw.out.x);obtain⟨kk0,kk1,kk2,kf0,kf1,kf2⟩:=yw.out.IV;obtain⟨s4,hs4⟩:∃s4,(w4.setCell ⟨xb,7,none⟩ (.int .i64 n2)).setCell ⟨kb,2,none⟩ (.bool b2)=s4:=⟨_,rfl⟩;have HS3:=zM (show jH w eb xb kb s4 n0 n1 n2 b0 b1 b2 by rw[←hs4];exact yw.out.three xh.out n2 b2);have c3:s4.cell? ⟨ad.block,ad.off+3,none⟩=some (.string (pt ps 3)):=by have h:=HC.out s4 HS3.out.bel 3 (by have:=HN.out;have:=H8.out;omega);rwa [add_pos ad 3 (by omega)]at h
  clear h1 h2 h3 c2;obtain⟨sp,hsp⟩:∃b,((pt ps 3).toList==[43])=b:=⟨_,rfl⟩;obtain⟨sg,hsg⟩:∃b,((pt ps 3).toList==[120])=b:=⟨_,rfl⟩;have Um:=zM (zA hsp hsg);obtain⟨ok,hok⟩:∃ok,(b0&&b1&&b2&&(sp||sg))=ok:=⟨_,rfl⟩;go_upto_region 8 with(fail);clear Ak Am Ar Au Aw Az AA AB AL AO mP mQ mV mW mX mY mZ ni nz nC nD jO;clear kk0 kk1 kk2 kf0 kf1 kf2 hs2 hs3 hs4;go_cut [61] (fun v61 wc=>v61= .bool (!ok)∧Aside0 (Below s4.heap.size s4 wc))
  case first=>
   go_wp2_with fail;refine(eu.calls 9 (some ⟨kb,0,none⟩) 3 [b0,b1,b2] false _ _ HS3.out.bools (Nat.le_refl _) (Rj b0 b1 b2)).mono ?_;rintro e w5 ⟨rfl,hd⟩;have HD:=zM hd.below;have c3:=cell_later HD.out c3;clear hd;subst hok;obtain⟨bb,hbb⟩:∃bb,(b0&&b1&&b2)=bb:=⟨_,rfl⟩;rw[hbb];have oV:=zM hbb;clear hbb;cases bb with
   |false=>
    go_wp2_with fail;go_meet
    case rel=>exact⟨by rw[oV.out];rfl,HD⟩
   |true=>
    cases sp with
    |true=>
     go_wp2_with fail;go_meet
     case rel=>exact⟨by rw[oV.out];rfl,HD⟩
    |false=>
     cases sg with
     |true=>
      go_wp2_with fail;go_meet
      case rel=>exact⟨by rw[oV.out];rfl,HD⟩
     |false=>
      go_wp2_with fail;go_meet
      case rel=>exact⟨by rw[oV.out];rfl,HD⟩
  case rest=>
   obtain⟨rfl,HD⟩:=hcut;have PW:=zM (HS3.out.below HD.out);obtain⟨vk,vw,vz,vC,vF,vG,vH,Bh,Bi,Bj,nR⟩:=eleven (PW.out.e);obtain⟨pq,pz,pG,pI,pJ,pK,pM,xA,xB,xC,pF⟩:=fC (PW.out.e);obtain⟨Ak,Am,Ar,Au,Aw,Az,AA,AB,AL,AO,mP⟩:=eleven (PW.out.x);obtain⟨mQ,mV,mW,mX,mY,mZ,ni,nz,nC,nD,jO⟩:=fC (PW.out.x);have hgc:=cell_later PW.out.bel Jy.out.2;clear c3 hgA;cases ok with
   |false=>
    have HBAD:=zM hok;clear hok;go_wp2_with fail;obtain⟨wS,mM⟩:∃wS,(((((((((((wc.setCell ⟨eb,0,none⟩ (.int .i64 n0)).setCell ⟨eb,1,none⟩ (.string ⟨#[]⟩)).setCell ⟨eb,2,none⟩ (.string ⟨#[]⟩)).setCell ⟨eb,3,none⟩ (.string ⟨#[]⟩)).setCell ⟨eb,4,none⟩ (.string ⟨#[]⟩)).setCell ⟨eb,5,none⟩ (.string ⟨#[]⟩)).setCell ⟨eb,6,none⟩ (.string ⟨#[]⟩)).setCell ⟨eb,7,none⟩ (.int .i64 n2)).setCell ⟨eb,8,none⟩ (.slice none 0 0)).setCell ⟨eb,9,none⟩ (.int .i64 n1)).setCell ⟨eb,10,none⟩ (.bool false))=wS:=⟨_,rfl⟩;have hES:wS.heap[eb]?=some (.cells #[.int .i64 n0,.string ⟨#[]⟩,.string ⟨#[]⟩,.string ⟨#[]⟩,.string ⟨#[]⟩,.string ⟨#[]⟩,.string ⟨#[]⟩,.int .i64 n2,.slice none 0 0,.int .i64 n1,.bool false] 41 (0,0)):=by rw[←mM];exact tN (PW.out.e) _ _ _ _ _ _ _ _ _ _ _
    have hXS:wS.heap[xb]?=some (.cells #[.int .i64 n0,.string ⟨#[]⟩,.string ⟨#[]⟩,.string ⟨#[]⟩,.string ⟨#[]⟩,.string ⟨#[]⟩,.string ⟨#[]⟩,.int .i64 n2,.slice none 0 0,.int .i64 n1,.bool false] 41 (0,0)):=by rw[←mM];exact(Ky _ (wG.out.2.1) _ _ _ _ _ _ _ _ _ _ _).trans (PW.out.x)
    have hBS:Below w.heap.size w wS:=by rw[←mM];exact kN (PW.out.bel) (Nat.le_of_eq yf.out) _ _ _ _ _ _ _ _ _ _ _
    have hgS:=cell_later hBS Jy.out.2;obtain⟨ys0,ys1,ys2,ys3,ys4,ys5,ys6,ys7,ys8,ys9,YD⟩:=eleven hXS;have nU:=zM (zA hES hBS);clear hES hXS hBS;go_region_held3 (fun w'=>w'.cell? ⟨xb,0,none⟩=some (.int .i64 n0)∧w'.cell? ⟨xb,1,none⟩=some (.string ⟨#[]⟩)∧w'.cell? ⟨xb,2,none⟩=some (.string ⟨#[]⟩)∧w'.cell? ⟨xb,3,none⟩=some (.string ⟨#[]⟩)∧w'.cell? ⟨xb,4,none⟩=some (.string ⟨#[]⟩)∧w'.cell? ⟨xb,5,none⟩=some (.string ⟨#[]⟩)∧w'.cell? ⟨xb,6,none⟩=some (.string ⟨#[]⟩)∧w'.cell? ⟨xb,7,none⟩=some (.int .i64 n2)∧w'.cell? ⟨xb,8,none⟩=some (.slice none 0 0)∧w'.cell? ⟨xb,9,none⟩=some (.int .i64 n1)∧w'.cell? ⟨xb,10,none⟩=some (.bool false)∧w'.cell? ⟨0,0,none⟩=some (.iface 347 (.pointer (some b)))) (go_keep) (fail);rename_i hS_;clear hS_;clear mM hgS ys0 ys1 ys2 ys3 ys4 ys5 ys6 ys7 ys8 ys9 YD;go_wp2_with fail;refine bodyPost_ret (dw rfl _ _ eb 41 #[.int .i64 n0,.string ⟨#[]⟩,.string ⟨#[]⟩,.string ⟨#[]⟩,.string ⟨#[]⟩,.string ⟨#[]⟩,.string ⟨#[]⟩,.int .i64 n2,.slice none 0 0,.int .i64 n1,.bool false] (0,0) _ rfl (by exact nU.out.1) Tryz.underlying41 rfl (by kernel_rfl)) rfl ?_;exact⟨⟨n0,⟨#[]⟩,⟨⟨#[]⟩,⟨#[]⟩⟩,⟨⟨#[]⟩,⟨#[]⟩⟩,⟨#[]⟩,n2,[],n1,false⟩,none,0,170,rfl,.inl ⟨fun h=>absurd (((Bool.and_eq_true _ _).mpr ⟨(Bool.and_eq_true _ _).mpr ⟨(Bool.and_eq_true _ _).mpr ⟨HW1.out.1.2 h.c0,HW2.out.1.2 h.c1⟩,HW3.out.1.2 h.c2⟩,(Bool.or_eq_true _ _).mpr (h.sign.imp (Um.out.1.symm.trans ·) (Um.out.2.symm.trans ·))⟩).symm.trans HBAD.out) (by decide),rfl⟩,Kd.jB _ _ _ _ _,by first|exact nU.out.2|exact dB nU.out.2⟩
   |true=>
   have hh:=hok;rw[Bool.and_eq_true,Bool.and_eq_true,Bool.and_eq_true,Bool.or_eq_true]at hh;have Nu:=zM (show Canon (pt ps 0)∧Canon (pt ps 1)∧Canon (pt ps 2)∧(((pt ps 3).toList==[43])=true∨((pt ps 3).toList==[120])=true)from⟨HW1.out.1.1 hh.1.1.1,HW2.out.1.1 hh.1.1.2,HW3.out.1.1 hh.1.2,hh.2.imp (Um.out.1.trans ·) (Um.out.2.trans ·)⟩);clear hok hh;clear vk vw vz vC vF vG vH Bh Bi Bj nR pq pz pG pI pJ pK pM xA xB xC pF;clear Ak Am Ar Au Aw Az AA AB AL AO mP mQ mV mW mX mY mZ ni nz nC nD jO;clear hgc;have hN8:=H8.out;have hps:=HN.out;have c3:wc.cell? ⟨ad.block,ad.off+3,none⟩=some (.string (pt ps 3)):=by have h:=HC.out wc PW.out.bel 3 (by omega);rwa [add_pos ad 3 (by omega)]at h
   obtain⟨Ak,Am,Ar,Au,Aw,Az,AA,AB,AL,AO,mP⟩:=eleven (PW.out.x);obtain⟨mQ,mV,mW,mX,mY,mZ,ni,nz,nC,nD,jO⟩:=fC (PW.out.x);obtain⟨s5,hs5⟩:∃s5,wc.setCell ⟨xb,10,none⟩ (.bool sg)=s5:=⟨_,rfl⟩;have HX5:=zM (show ug w eb xb s5 n0 ⟨#[]⟩ ⟨#[]⟩ ⟨#[]⟩ ⟨#[]⟩ ⟨#[]⟩ ⟨#[]⟩ n2 (.slice none 0 0) n1 sg by rw[←hs5];exact⟨PW.out.bel.setCell (p:=⟨xb,10,none⟩) xh.out.x _,jm (p:=⟨xb,10,none⟩) PW.out.e xh.out.ex _,aN PW.out.x 10 (.bool sg)⟩);go_upto_region 11 with(fail);clear Ak Am Ar Au Aw Az AA AB AL AO mP mQ mV mW mX mY mZ ni nz nC nD jO;clear hs5 c3 hsg;have c4:s5.cell? ⟨ad.block,ad.off+4,none⟩=some (.string (pt ps 4)):=by have h:=HC.out s5 HX5.out.bel 4 (by omega);rwa [add_pos ad 4 (by omega)]at h
   have c7:s5.cell? ⟨ad.block,ad.off+7,none⟩=some (.string (pt ps 7)):=by have h:=HC.out s5 HX5.out.bel 7 (by omega);rwa [add_pos ad 7 (by omega)]at h
   have k4:=eq_true (show 4<N by omega);have k7:=eq_true (show 7<N by omega);have i4:=eq_true (show(4:Int)<(N:Int)by omega);have i7:=eq_true (show(7:Int)<(N:Int)by omega);obtain⟨tb,htb⟩:∃tb,s5.heap.size=tb:=⟨_,rfl⟩;obtain⟨s6,hs6⟩:∃s6,s5.drew.alloc (.cells #[.string (pt ps 4),.string (pt ps 7)] 9)=s6:=⟨_,rfl⟩;have hB6:Below s5.heap.size s5 s6:=by rw[←hs6];exact ag (dB (Below.refl _ _)) _
   have hR6:Kd.string.R 9 s6 s5.heap.size (fun _=>True) (.slice (some ⟨tb,0,none⟩) 2 2) [pt ps 4,pt ps 7]:=by
    rw[←hs6,←htb];exact Kd.iR (xM (enc:=Value.string) s5.drew s5.heap.size 9 [pt ps 4,pt ps 7] (Nat.le_refl _) (by show(2:Nat)≤9223372036854775807;omega)) (fun _ _=>trivial)
   have H6:=zM (zA hB6 hR6);clear hB6 hR6;go_still_tail 6,(by kernel_rfl)
   change wpList _ _ _ _ _ s5.drew
   go_upto_region 12 with(fail);clear c4 c7 hs6;obtain⟨D,hD⟩:∃D,(ps.drop 8).length=D:=⟨_,rfl⟩;have hDN:N- 8=D:=by rw[←hD,List.length_drop];omega
   have hcl:=Qe (some ad) N c 8 (by omega) (by omega);have hdr:=Kd.TU (m:=8) (c:=c) Jy.out.1 (by omega) HS.out.2.2.2;rw[hD]at hdr;obtain⟨A8',hA8⟩:∃A',(if c=(8:Int).toNat then some ad else(some ad).map (·.add ((8:Int).toNat *1)))=A':=⟨_,rfl⟩;rw[hA8,show N- (8:Int).toNat=D from hDN]at hcl;have ah6:Kd.string.C w A8' D (ps.drop 8):=by rw[←hA8];exact hdr
   obtain⟨T,hT⟩:∃T,mD ps=T:=⟨_,rfl⟩;have hTl:T.length=2+D:=by rw[←hT,←hD];simp[mD];omega
   obtain⟨n7,TP⟩:∃n7,2+D=n7:=⟨_,rfl⟩;have HN7:=zM TP;rw[TP]at hTl;have HT:=zM (zA hT (zA hTl (zA (show D≤65537 by have:=HS.out.2.2.1;omega) (zA (Kd.ji ah6 (ah HX5.out.bel HX5.out.bel.size H6.out.1)) hD))));have HTS:=zM (show∀j,j<T.length→(pt T j).size≤65536 by rw[←hT];exact Oy (by omega) HS.out.2.1);clear hdr hA8 ah6 hDN hD hT hTl TP k0 k1 k2 k3 i0 i1 i2 i3 k4 k7 i4 i7 hkb hwK hmk hN8 hps z0 z1 dG fQ nkx nxk;go_wp2_with (first|((with_reducible refine bK (b:= .append) (xs:= #[.tmp 76,.tmp 78]) rfl ?_);at_builtin;refine Kd.kT Kd.string (w0:=s5) s5.heap.size rfl (.tmp 76) (.tmp 78) 30 9 (.string ⟨#[]⟩) 16 rfl Tryz.underlying30 info9 rfl (by decide) (by omega) (.slice (some ⟨tb,0,none⟩) 2 2) [pt ps 4,pt ps 7] (ps.drop 8) _ _ _ (fun _=>True) (fun _=>False) rfl rfl ?aO ?aR (fun _ _ h=>h) (fun _ h=>h.elim) ?aF ?aB ?aS ?aL ?_;(case aR=>exact HT.out.2.2.2.1);(case aB=>exact H6.out.1);(case aF=>exact(fun _ _=>trivial));(case aO=>exact H6.out.2);(case aS=>exact H6.out.1.size);(case aL=>have:=HT.out.2.2.1;simp;omega);intro v7 w7 ho hb hg hat;have hTe:[pt ps 4,pt ps 7]++ps.drop 8=T:=HT.out.1;rw[hTe]at ho;obtain⟨g7,q7,hv7,hg7,_,_⟩:=Kd.jf ho (by have:=HT.out.2.1;have:=HN7.out;omega);rw[HT.out.2.1]at hv7;subst hv7;have H7:=zM (zA ho hb);have HG7:=zM hg7;clear ho hb hg hat hTe hg7));clear hcl;go_loopg [82] (n7+1) (fun kq v82 W=>∃(i:Nat),v82= .int .i64 (i:Int)∧Aside0 (n7<i+kq∧i≤n7∧(∀j,j<i→(oM (pt T j)).2=true)∧Kd.string.R 9 W s5.heap.size (fun _=>True) (.slice (some ⟨g7,0,none⟩) n7 q7) (opd T i)∧Below s5.heap.size s5 W))
   case atStart=>exact⟨0,rfl,⟨by omega,by omega,fun j h=>by omega,H7.out.1,H7.out.2⟩⟩
   case round=>
    obtain⟨i,rfl,HJ⟩:=hrel
    by_cases hi:i<n7
    ·have hd:=decide_eq_true hi;have hd2:=decide_eq_true (show(i:Int)<(n7:Int)by omega);have p0:=eq_true (show(0:Int)≤(i:Int)by omega);have q0:=eq_true (show(i:Int)<(n7:Int)by omega);have qn:=eq_true hi;have HI:=zM hi;have HIT:=zM (show i<T.length by have:=HT.out.2.1;have:=HN7.out;omega);have hcc:=Kd.fE (⟨#[]⟩:ByteArray) HJ.out.2.2.2.1 (i:Int) (by omega) (by omega);rw[Int.toNat_natCast,adw T i HIT.out]at hcc;obtain⟨ci,cf⟩:=hcc;obtain⟨k1,rfl⟩:∃k1,gk=k1+1:=⟨gk- 1,by have:=HJ.out.1;omega⟩;clear hi;go_wp2_with fail;refine(SA (pt T i) _ (by have:=HTS.out i HIT.out;omega)).mono ?_;rintro e w8 ⟨rfl,h3⟩;obtain⟨tt,htt⟩:∃tt,(oM (pt T i)).1=tt:=⟨_,rfl⟩;obtain⟨bb,hbb⟩:∃bb,(oM (pt T i)).2=bb:=⟨_,rfl⟩;rw[htt,hbb];have HTT:=zM (zA htt hbb);have HB8:=zM h3;have HBS:=zM (ah HJ.out.2.2.2.2 HJ.out.2.2.2.2.size h3);clear h3 htt hbb ci cf;cases bb with
     |false=>
      have HX8:=zM (HX5.out.below HBS.out);obtain⟨vk,vw,vz,vC,vF,vG,vH,Bh,Bi,Bj,nR⟩:=eleven (HX8.out.e);obtain⟨pq,pz,pG,pI,pJ,pK,pM,xA,xB,xC,pF⟩:=fC (HX8.out.e);obtain⟨Ak,Am,Ar,Au,Aw,Az,AA,AB,AL,AO,mP⟩:=eleven (HX8.out.x);obtain⟨mQ,mV,mW,mX,mY,mZ,ni,nz,nC,nD,jO⟩:=fC (HX8.out.x);have hgc:=cell_later HX8.out.bel Jy.out.2;have z0:¬eb=0:=by have:=yf.out;have:=World.block_lt_of_cell? _ _ Jy.out.2;omega
      have z1:¬0=eb:=Ne.symm z0;have dG:¬eb=xb:=wG.out.1;have fQ:¬xb=eb:=wG.out.2.1;go_wp2_with fail;obtain⟨wS,mM⟩:∃wS,(((((((((((w8.setCell ⟨eb,0,none⟩ (.int .i64 n0)).setCell ⟨eb,1,none⟩ (.string ⟨#[]⟩)).setCell ⟨eb,2,none⟩ (.string ⟨#[]⟩)).setCell ⟨eb,3,none⟩ (.string ⟨#[]⟩)).setCell ⟨eb,4,none⟩ (.string ⟨#[]⟩)).setCell ⟨eb,5,none⟩ (.string ⟨#[]⟩)).setCell ⟨eb,6,none⟩ (.string ⟨#[]⟩)).setCell ⟨eb,7,none⟩ (.int .i64 n2)).setCell ⟨eb,8,none⟩ (.slice none 0 0)).setCell ⟨eb,9,none⟩ (.int .i64 n1)).setCell ⟨eb,10,none⟩ (.bool sg))=wS:=⟨_,rfl⟩;have hES:wS.heap[eb]?=some (.cells #[.int .i64 n0,.string ⟨#[]⟩,.string ⟨#[]⟩,.string ⟨#[]⟩,.string ⟨#[]⟩,.string ⟨#[]⟩,.string ⟨#[]⟩,.int .i64 n2,.slice none 0 0,.int .i64 n1,.bool sg] 41 (0,0)):=by rw[←mM];exact tN (HX8.out.e) _ _ _ _ _ _ _ _ _ _ _
      have hXS:wS.heap[xb]?=some (.cells #[.int .i64 n0,.string ⟨#[]⟩,.string ⟨#[]⟩,.string ⟨#[]⟩,.string ⟨#[]⟩,.string ⟨#[]⟩,.string ⟨#[]⟩,.int .i64 n2,.slice none 0 0,.int .i64 n1,.bool sg] 41 (0,0)):=by rw[←mM];exact(Ky _ (wG.out.2.1) _ _ _ _ _ _ _ _ _ _ _).trans (HX8.out.x)
      have hBS:Below w.heap.size w wS:=by rw[←mM];exact kN (HX8.out.bel) (Nat.le_of_eq yf.out) _ _ _ _ _ _ _ _ _ _ _
      have hgS:=cell_later hBS Jy.out.2;obtain⟨ys0,ys1,ys2,ys3,ys4,ys5,ys6,ys7,ys8,ys9,YD⟩:=eleven hXS;have nU:=zM (zA hES hBS);clear hES hXS hBS;go_region_held3 (fun w'=>w'.cell? ⟨xb,0,none⟩=some (.int .i64 n0)∧w'.cell? ⟨xb,1,none⟩=some (.string ⟨#[]⟩)∧w'.cell? ⟨xb,2,none⟩=some (.string ⟨#[]⟩)∧w'.cell? ⟨xb,3,none⟩=some (.string ⟨#[]⟩)∧w'.cell? ⟨xb,4,none⟩=some (.string ⟨#[]⟩)∧w'.cell? ⟨xb,5,none⟩=some (.string ⟨#[]⟩)∧w'.cell? ⟨xb,6,none⟩=some (.string ⟨#[]⟩)∧w'.cell? ⟨xb,7,none⟩=some (.int .i64 n2)∧w'.cell? ⟨xb,8,none⟩=some (.slice none 0 0)∧w'.cell? ⟨xb,9,none⟩=some (.int .i64 n1)∧w'.cell? ⟨xb,10,none⟩=some (.bool sg)∧w'.cell? ⟨0,0,none⟩=some (.iface 347 (.pointer (some b)))) (go_keep) (fail);rename_i hS_;clear hS_;clear mM hgS ys0 ys1 ys2 ys3 ys4 ys5 ys6 ys7 ys8 ys9 YD;go_wp2_with fail;refine bodyPost_ret (dw rfl _ _ eb 41 #[.int .i64 n0,.string ⟨#[]⟩,.string ⟨#[]⟩,.string ⟨#[]⟩,.string ⟨#[]⟩,.string ⟨#[]⟩,.string ⟨#[]⟩,.int .i64 n2,.slice none 0 0,.int .i64 n1,.bool sg] (0,0) _ rfl (by exact nU.out.1) Tryz.underlying41 rfl (by kernel_rfl)) rfl ?_;exact⟨⟨n0,⟨#[]⟩,⟨⟨#[]⟩,⟨#[]⟩⟩,⟨⟨#[]⟩,⟨#[]⟩⟩,⟨#[]⟩,n2,[],n1,sg⟩,none,0,170,rfl,.inl ⟨fun h=>(by have h2:=XB h i (by rw[HT.out.1];exact HIT.out);rw[HT.out.1,HTT.out.2]at h2;cases h2),rfl⟩,Kd.jB _ _ _ _ _,by first|exact nU.out.2|exact dB nU.out.2⟩
     |true=>
      have HR8:=zM (Kd.dK HJ.out.2.2.2.1 HB8.out);have hcc:=Kd.fE (⟨#[]⟩:ByteArray) HR8.out (i:Int) (by omega) (by have:=HI.out;omega);rw[Int.toNat_natCast]at hcc;obtain⟨ci,cf⟩:=hcc;go_wp2_with fail;go_roundg k1
      case measure=>omega
      case rel=>exact⟨i+1,congrArg (Value.int .i64) (fD (by omega) (by have:=HI.out;have:=HN7.out;have:=HT.out.2.2.1;omega)),⟨by have:=HJ.out.1;omega,by have:=HI.out;omega,fun j hj=>by by_cases hji:j=i;rw[hji];exact HTT.out.2;exact HJ.out.2.2.1 j (by omega),by have h:=Kd.fJ HR8.out (i:Int) tt;rw[Int.toNat_natCast,←HTT.out.1,aa5 T i HIT.out]at h;rw[←HTT.out.1];exact h.1,HBS.out.setCell (p:=⟨g7,i,none⟩) HG7.out _⟩⟩
    ·have hd:=decide_eq_false hi;have hd2:=decide_eq_false (show¬(i:Int)<(n7:Int)by omega);have hin:i=T.length:=by have:=HJ.out.2.1;have:=HT.out.2.1;omega
     have HX:=zM (show(∀j,j<T.length→(oM (pt T j)).2=true)∧Kd.string.R 9 wr s5.heap.size (fun _=>True) (.slice (some ⟨g7,0,none⟩) n7 q7) (T.map (fun t=>(oM t).1))∧Below s5.heap.size s5 wr by rw[←aa4,←hin];exact HJ.out.2.2);obtain⟨f4,hf4⟩:∃f,(oM (pt ps 4)).1=f:=⟨_,rfl⟩;obtain⟨f7,hf7⟩:∃f,(oM (pt ps 7)).1=f:=⟨_,rfl⟩;obtain⟨F,hF⟩:∃f,(ps.drop 8).map (fun t=>(oM t).1)=f:=⟨_,rfl⟩;have hU:T.map (fun t=>(oM t).1)=f4::f7::F:=by rw[←HT.out.1,←hf4,←hf7,←hF];rfl
     have hFD:F.length=D:=by rw[←hF,List.length_map];exact HT.out.2.2.2.2
     have hRU:=HX.out.2.1;rw[hU]at hRU;have hok:=HX.out.1;rw[←HT.out.1]at hok;have JD:=zM (show rJ ps from⟨by have:=HN.out;have:=H8.out;omega,Nu.out.1,Nu.out.2.1,Nu.out.2.2.1,Nu.out.2.2.2,Si (by have:=HN.out;have:=H8.out;omega) hok⟩);have HF:=zM (zA hf4 (zA hf7 (zA hF hFD)));have HXr:=zM (HX5.out.below HX.out.2.2);have hn2:2≤n7:=by have:=HN7.out;omega
     have hq7:=(Kd.dA hRU).2.1;have u0:wr.cell? ⟨g7,0,none⟩=some (.string f4):=(Kd.fE (⟨#[]⟩:ByteArray) hRU 0 (by omega) (by omega)).1;have u1:wr.cell? ⟨g7,1,none⟩=some (.string f7):=(Kd.fE (⟨#[]⟩:ByteArray) hRU 1 (by omega) (by omega)).1;have j0:=eq_true (show 0<n7 by omega);have j1:=eq_true (show 1<n7 by omega);have jj0:=eq_true (show(0:Int)<(n7:Int)by omega);have jj1:=eq_true (show(1:Int)<(n7:Int)by omega);obtain⟨Ak,Am,Ar,Au,Aw,Az,AA,AB,AL,AO,mP⟩:=eleven (HXr.out.x);obtain⟨mQ,mV,mW,mX,mY,mZ,ni,nz,nC,nD,jO⟩:=fC (HXr.out.x);obtain⟨sU,hsU⟩:∃sU,(wr.setCell ⟨xb,1,none⟩ (.string f4)).setCell ⟨xb,6,none⟩ (.string f7)=sU:=⟨_,rfl⟩;have HXU:=zM (show ug w eb xb sU n0 f4 ⟨#[]⟩ ⟨#[]⟩ ⟨#[]⟩ ⟨#[]⟩ f7 n2 (.slice none 0 0) n1 sg by rw[←hsU];exact HXr.out.pair xh.out.ex xh.out.x 1 6 _ _ rfl);have HRU:=zM (zA (show Kd.string.R 9 sU s5.heap.size (fun _=>True) (.slice (some ⟨g7,0,none⟩) n7 q7) (f4::f7::F)by rw[←hsU];exact NL hRU HXr.out.x 1 6 _ _) (zA hn2 hq7));clear hi hin hf4 hf7 hF hU hFD hRU hok;have hgx:¬g7=xb:=by have h1:=HG7.out;have h2:=dV HX5.out.x;omega
     have hxg:¬xb=g7:=Ne.symm hgx;have v0:sU.cell? ⟨g7,0,none⟩=some (.string f4):=(Kd.fE (⟨#[]⟩:ByteArray) HRU.out.1 0 (by omega) (by have:=HRU.out.2.1;omega)).1;have v1:sU.cell? ⟨g7,1,none⟩=some (.string f7):=(Kd.fE (⟨#[]⟩:ByteArray) HRU.out.1 1 (by omega) (by have:=HRU.out.2.1;omega)).1;go_upto_region 21 with(fail);go_region_held3 (fun w'=>w'.cell? ⟨g7,0,none⟩=some (.string f4)∧w'.cell? ⟨g7,1,none⟩=some (.string f7)) (go_keep) (fail);rename_i hS_;clear hS_ hsU u0 u1 v0 v1 hgx hxg;clear Ak Am Ar Au Aw Az AA AB AL AO mP mQ mV mW mX mY mZ ni nz nC nD jO
     obtain⟨off,c2',aly,hoff⟩:∃off c2',(∀W:World,(Instr.slice 30 (.slice (some ⟨g7,0,none⟩) n7 q7) (some (.int .i64 2)) none none).run Tryz.prog W= .ok (.slice (some ⟨g7,off,none⟩) D c2') W)∧(D=0∨off=2):=by
      have h:=Qe (some ⟨g7,0,none⟩) n7 q7 2 (by omega) (by have:=HRU.out.2.1;omega);rw[show n7- (2:Int).toNat=D by have:=HN7.out;omega]at h
      by_cases hq:q7=(2:Int).toNat
      ·rw[if_pos hq]at h;exact⟨0,_,h,.inl (by have:=HRU.out.2.2;have:=HN7.out;omega)⟩
      ·rw[if_neg hq,show(some (⟨g7,0,none⟩:Addr)).map (·.add ((2:Int).toNat *1))=some ⟨g7,2,none⟩from congrArg some (add_plain g7 2)]at h;exact⟨2,_,h,.inr rfl⟩
     have HOF:=zM hoff;have HXD:=zM (HXU.out.below (dB (Below.refl sU.heap.size sU)));have HRD:=zM (Kd.dR HRU.out.1);clear hoff;go_wp2_with fail
     refine(Tryz.slices_Clone_string g7 off D c2' F _ (by have:=HF.out.2.2.2;omega) (by have:=HT.out.2.2.1;omega) (fun j hj=>by
      have h2:off=2:=by
       rcases HOF.out with h|h
       ·have:=HF.out.2.2.2;omega
       ·exact h
      have h3:=(Kd.fE (⟨#[]⟩:ByteArray) HRD.out ((2+j:Nat):Int) (by omega) (by have:=HF.out.2.2.2;have:=HN7.out;omega)).1;rw[Int.toNat_natCast]at h3
      rw[h2,show F.getD j ByteArray.empty=jg (⟨#[]⟩:ByteArray) (f4::f7::F) ((2+j:Nat):Int)by
       unfold jg;rw[Int.toNat_natCast,Nat.add_comm 2 j]
       rfl]
      exact h3)).mono ?_
     rintro e w10 ⟨v',rfl,hown,_,hbC⟩;rw[List.take_of_length_le (Nat.le_of_eq HF.out.2.2.2)]at hown;obtain⟨A8,c8,rfl⟩:=SE hown;obtain⟨FL,hFL⟩:∃FL,F.length=FL:=⟨_,rfl⟩;have hDF:D=F.length:=HF.out.2.2.2.symm
     have hRC:Kd.string.R 9 w10 w.heap.size (fun _=>True) (.slice A8 D c8) F:=by
      rw[hDF]at hown⊢;exact Kd.iV (Kd.iR (enc:=Value.string) hown (fun _ _=>trivial)) (HXD.out.bel.size)
     have QW:=zM (HXD.out.below hbC);obtain⟨Ak,Am,Ar,Au,Aw,Az,AA,AB,AL,AO,mP⟩:=eleven (QW.out.x);obtain⟨mQ,mV,mW,mX,mY,mZ,ni,nz,nC,nD,jO⟩:=fC (QW.out.x);obtain⟨sC,hsC⟩:∃sC,w10.setCell ⟨xb,8,none⟩ (.slice A8 D c8)=sC:=⟨_,rfl⟩;have HXC:=zM (show ug w eb xb sC n0 f4 ⟨#[]⟩ ⟨#[]⟩ ⟨#[]⟩ ⟨#[]⟩ f7 n2 (.slice A8 D c8) n1 sg by rw[←hsC];exact⟨QW.out.bel.setCell (p:=⟨xb,8,none⟩) xh.out.x _,jm (p:=⟨xb,8,none⟩) QW.out.e xh.out.ex _,aN QW.out.x 8 (.slice A8 D c8)⟩);have HRC:=zM (show Kd.string.R 9 sC w.heap.size (fun _=>True) (.slice A8 D c8) F by rw[←hsC];exact Kd.Dy hRC QW.out.x (by simp[Kd.string,Kd.scalar]) 8 _);have hps:=HN.out;have hN8:=H8.out;have c5:sC.cell? ⟨ad.block,ad.off+5,none⟩=some (.string (pt ps 5)):=by have h:=HC.out sC HXC.out.bel 5 (by omega);rwa [add_pos ad 5 (by omega)]at h
     have k5:=eq_true (show 5<N by omega);have k6:=eq_true (show 6<N by omega);have i5:=eq_true (show(5:Int)<(N:Int)by omega);have i6:=eq_true (show(6:Int)<(N:Int)by omega);clear hown hbC hRC aly hFL hDF hps hN8;go_upto_region 24 with(fail);clear Ak Am Ar Au Aw Az AA AB AL AO mP mQ mV mW mX mY mZ ni nz nC nD jO;clear hsC;obtain⟨Ak,Am,Ar,Au,Aw,Az,AA,AB,AL,AO,mP⟩:=eleven (HXC.out.x);obtain⟨mQ,mV,mW,mX,mY,mZ,ni,nz,nC,nD,jO⟩:=fC (HXC.out.x);go_wp2_with fail;refine(DW (pt ps 5) _).mono ?_;rintro e w11 ⟨n,d,er,rfl,hx,hb⟩;have Y3:=zM (HXC.out.below hb);have ak7:=zM (Kd.dK HRC.out hb);have HE5:=zM hx;clear hx hb c5;clear Ak Am Ar Au Aw Az AA AB AL AO mP mQ mV mW mX mY mZ ni nz nC nD jO;obtain⟨Ak,Am,Ar,Au,Aw,Az,AA,AB,AL,AO,mP⟩:=eleven (Y3.out.x);obtain⟨mQ,mV,mW,mX,mY,mZ,ni,nz,nC,nD,jO⟩:=fC (Y3.out.x);obtain⟨sE,hsE⟩:∃sE,(w11.setCell ⟨xb,2,none⟩ (.string n)).setCell ⟨xb,3,none⟩ (.string d)=sE:=⟨_,rfl⟩;have Y5:=zM (show ug w eb xb sE n0 f4 n d ⟨#[]⟩ ⟨#[]⟩ f7 n2 (.slice A8 D c8) n1 sg by rw[←hsE];exact Y3.out.pair xh.out.ex xh.out.x 2 3 _ _ rfl);have HRE:=zM (show Kd.string.R 9 sE w.heap.size (fun _=>True) (.slice A8 D c8) F by rw[←hsE];exact NL ak7.out Y3.out.x 2 3 _ _);have hDF:=HF.out.2.2.2.symm
     by_cases he:er=0
     ·subst he;rw[show yH 0=Value.nilIface from if_pos rfl];have c6:sE.cell? ⟨ad.block,ad.off+6,none⟩=some (.string (pt ps 6)):=by have h:=HC.out sE Y5.out.bel 6 (by have:=HN.out;have:=H8.out;omega);rwa [add_pos ad 6 (by omega)]at h
      go_wp2_with fail;refine(DW (pt ps 6) _).mono ?_;rintro e w12 ⟨nn,dd,er,rfl,hx,hb⟩;have Y4:=zM (Y5.out.below hb);have ak8:=zM (Kd.dK HRE.out hb);have MW:=zM hx;clear hx hb c6 hsE;clear Ak Am Ar Au Aw Az AA AB AL AO mP mQ mV mW mX mY mZ ni nz nC nD jO;obtain⟨Ak,Am,Ar,Au,Aw,Az,AA,AB,AL,AO,mP⟩:=eleven (Y4.out.x);obtain⟨mQ,mV,mW,mX,mY,mZ,ni,nz,nC,nD,jO⟩:=fC (Y4.out.x);obtain⟨sF,hsF⟩:∃sF,(w12.setCell ⟨xb,4,none⟩ (.string nn)).setCell ⟨xb,5,none⟩ (.string dd)=sF:=⟨_,rfl⟩;have YK:=zM (show ug w eb xb sF n0 f4 n d nn dd f7 n2 (.slice A8 D c8) n1 sg by rw[←hsF];exact Y4.out.pair xh.out.ex xh.out.x 4 5 _ _ rfl);have HRF:=zM (show Kd.string.R 9 sF w.heap.size (fun _=>True) (.slice A8 D c8) F by rw[←hsF];exact NL ak8.out Y4.out.x 4 5 _ _)
      by_cases he:er=0
      ·subst he;rw[show yH 0=Value.nilIface from if_pos rfl];go_upto_region 30 with(fail);clear Ak Am Ar Au Aw Az AA AB AL AO mP mQ mV mW mX mY mZ ni nz nC nD jO;clear hsF;subst hDF;obtain⟨Ak,Am,Ar,Au,Aw,Az,AA,AB,AL,AO,mP⟩:=eleven (YK.out.x);obtain⟨mQ,mV,mW,mX,mY,mZ,ni,nz,nC,nD,jO⟩:=fC (YK.out.x);have HDR:=zM (show Below sF.heap.size sF sF.drew from dB (Below.refl _ _));obtain⟨cn,hcn⟩:∃cn,iK ⟨n0,f4,⟨n,d⟩,⟨nn,dd⟩,f7,n2,F,n1,sg⟩=cn:=⟨_,rfl⟩;obtain⟨ev,hev⟩:∃ev,yH cn=ev:=⟨_,rfl⟩;have HCF:=zM (show∀W,Calls Tryz.prog 20 #[.agg #[.int .i64 n0,.string f4,.string n,.string d,.string nn,.string dd,.string f7,.int .i64 n2,.slice A8 F.length c8,.int .i64 n1,.bool sg]] W fun e w'=>e= .returned ev∧Below W.heap.size W w' from fun W=>by rw[←hev,←hcn];exact Kz ⟨n0,f4,⟨n,d⟩,⟨nn,dd⟩,f7,n2,F,n1,sg⟩ A8 c8 W);have YH:=zM (zA hcn hev);clear hcn hev;go_region_with ((go_at_call 20;refine(HCF.out _).mono ?_;rintro e w13 ⟨rfl,hb⟩;have hbb:=ah HDR.out HDR.out.size hb;have NC:=zM (zA (YK.out.below hbb) hbb);obtain⟨gx0,gx1,gx2,gx3,gx4,gx5,gx6,gx7,gx8,gx9,alh⟩:=eleven NC.out.1.e;obtain⟨gf0,gf1,gf2,gf3,gf4,gf5,gf6,gf7,gf8,gf9,al9⟩:=fC NC.out.1.e;obtain⟨gy0,gy1,gy2,gy3,gy4,gy5,gy6,gy7,gy8,gy9,ali⟩:=eleven NC.out.1.x;obtain⟨wS,mM⟩:∃wS,(((((((((((w13.setCell ⟨eb,0,none⟩ (.int .i64 n0)).setCell ⟨eb,1,none⟩ (.string f4)).setCell ⟨eb,2,none⟩ (.string n)).setCell ⟨eb,3,none⟩ (.string d)).setCell ⟨eb,4,none⟩ (.string nn)).setCell ⟨eb,5,none⟩ (.string dd)).setCell ⟨eb,6,none⟩ (.string f7)).setCell ⟨eb,7,none⟩ (.int .i64 n2)).setCell ⟨eb,8,none⟩ (.slice A8 F.length c8)).setCell ⟨eb,9,none⟩ (.int .i64 n1)).setCell ⟨eb,10,none⟩ (.bool sg))=wS:=⟨_,rfl⟩;have nU:=zM (zA (show wS.heap[eb]?=some (.cells #[.int .i64 n0,.string f4,.string n,.string d,.string nn,.string dd,.string f7,.int .i64 n2,.slice A8 F.length c8,.int .i64 n1,.bool sg] 41 (0,0))by rw[←mM];exact tN NC.out.1.e _ _ _ _ _ _ _ _ _ _ _) (zA (show Below w.heap.size w wS by rw[←mM];exact kN NC.out.1.bel (Nat.le_of_eq yf.out) _ _ _ _ _ _ _ _ _ _ _) (show Kd.string.R 9 wS w.heap.size (fun _=>True) (.slice A8 F.length c8) F by rw[←mM];exact UB (Kd.dK HRF.out NC.out.2) NC.out.1.e _ _ _ _ _ _ _ _ _ _ _)));clear hb hbb))
       all_goals
        go_wp2_with fail;refine bodyPost_ret (dw rfl _ _ eb 41 #[.int .i64 n0,.string f4,.string n,.string d,.string nn,.string dd,.string f7,.int .i64 n2,.slice A8 F.length c8,.int .i64 n1,.bool sg] (0,0) _ rfl (by exact nU.out.1) Tryz.underlying41 rfl (by kernel_rfl)) rfl ?_
        have hXE:(⟨n0,f4,⟨n,d⟩,⟨nn,dd⟩,f7,n2,F,n1,sg⟩:iU)=Nc 1099511627776 ps n d nn dd:=by
         unfold Nc;rw[HW1.out.2 Nu.out.1,HW2.out.2 Nu.out.2.1,HW3.out.2 Nu.out.2.2.1,←Um.out.2,HF.out.1,HF.out.2.1,HF.out.2.2.1]
        have hone:=aa2 (m:=1099511627776) (m2:=1000001) (by omega) (by omega) JD.out n d nn dd;have hcc:=NV ⟨n0,f4,⟨n,d⟩,⟨nn,dd⟩,f7,n2,F,n1,sg⟩;rw[YH.out.1]at hcc;refine⟨⟨n0,f4,⟨n,d⟩,⟨nn,dd⟩,f7,n2,F,n1,sg⟩,A8,c8,cn,?_,?_,?_,by first|exact nU.out.2.1|exact dB nU.out.2.1⟩
        ·rw[show Kq b cn=yH cn from if_neg (by omega),YH.out.2];rfl
        ·exact .inr ⟨JD.out,n,d,0,HE5.out,.inr ⟨rfl,nn,dd,0,MW.out,.inr ⟨rfl,by rw[←hone.1,←hXE];exact YH.out.1.symm,fun h0=>by rw[hXE];exact hone.2 (by rw[←hXE,YH.out.1];exact h0)⟩⟩⟩
        ·exact nU.out.2.2
      ·rw[show yH er= .iface 83 (.agg #[.int .i64 er])from if_neg he];have HE:=zM (zA he (show er≠170 by have:=Bl MW.out;omega));clear he;go_upto_region 29 with(fail);clear Ak Am Ar Au Aw Az AA AB AL AO mP mQ mV mW mX mY mZ ni nz nC nD jO;clear hsF;subst hDF;obtain⟨vk,vw,vz,vC,vF,vG,vH,Bh,Bi,Bj,nR⟩:=eleven (YK.out.e);obtain⟨pq,pz,pG,pI,pJ,pK,pM,xA,xB,xC,pF⟩:=fC (YK.out.e);obtain⟨Ak,Am,Ar,Au,Aw,Az,AA,AB,AL,AO,mP⟩:=eleven (YK.out.x);obtain⟨mQ,mV,mW,mX,mY,mZ,ni,nz,nC,nD,jO⟩:=fC (YK.out.x);obtain⟨wS,mM⟩:∃wS,(((((((((((sF.setCell ⟨eb,0,none⟩ (.int .i64 n0)).setCell ⟨eb,1,none⟩ (.string f4)).setCell ⟨eb,2,none⟩ (.string n)).setCell ⟨eb,3,none⟩ (.string d)).setCell ⟨eb,4,none⟩ (.string nn)).setCell ⟨eb,5,none⟩ (.string dd)).setCell ⟨eb,6,none⟩ (.string f7)).setCell ⟨eb,7,none⟩ (.int .i64 n2)).setCell ⟨eb,8,none⟩ (.slice A8 (F).length c8)).setCell ⟨eb,9,none⟩ (.int .i64 n1)).setCell ⟨eb,10,none⟩ (.bool sg))=wS:=⟨_,rfl⟩;have nU:=zM (zA (show wS.heap[eb]?=some (.cells #[.int .i64 n0,.string f4,.string n,.string d,.string nn,.string dd,.string f7,.int .i64 n2,.slice A8 (F).length c8,.int .i64 n1,.bool sg] 41 (0,0))by rw[←mM];exact tN (YK.out.e) _ _ _ _ _ _ _ _ _ _ _) (zA (show Below w.heap.size w wS by rw[←mM];exact kN (YK.out.bel) (Nat.le_of_eq yf.out) _ _ _ _ _ _ _ _ _ _ _) (show Kd.string.R 9 wS w.heap.size (fun _=>True) (.slice A8 (F).length c8) F by rw[←mM];exact UB (HRF.out) (YK.out.e) _ _ _ _ _ _ _ _ _ _ _)));go_wp2_with fail;refine bodyPost_ret (dw rfl _ _ eb 41 #[.int .i64 n0,.string f4,.string n,.string d,.string nn,.string dd,.string f7,.int .i64 n2,.slice A8 (F).length c8,.int .i64 n1,.bool sg] (0,0) _ rfl (by exact nU.out.1) Tryz.underlying41 rfl (by kernel_rfl)) rfl ?_;exact⟨⟨n0,f4,⟨n,d⟩,⟨nn,dd⟩,f7,n2,F,n1,sg⟩,A8,c8,er,by rw[zS HE.out.1 HE.out.2];rfl,.inr ⟨JD.out,n,d,0,HE5.out,.inr ⟨rfl,nn,dd,er,MW.out,.inl ⟨HE.out.1,rfl⟩⟩⟩,by first|exact nU.out.2.2|(rw[←yf.out];exact nU.out.2.2),by first|exact nU.out.2.1|(rw[←yf.out];exact nU.out.2.1)⟩
     ·rw[show yH er= .iface 83 (.agg #[.int .i64 er])from if_neg he];have HE:=zM (zA he (show er≠170 by have:=Bl HE5.out;omega));clear he;go_upto_region 26 with(fail);clear Ak Am Ar Au Aw Az AA AB AL AO mP mQ mV mW mX mY mZ ni nz nC nD jO;clear hsE;subst hDF;obtain⟨vk,vw,vz,vC,vF,vG,vH,Bh,Bi,Bj,nR⟩:=eleven (Y5.out.e);obtain⟨pq,pz,pG,pI,pJ,pK,pM,xA,xB,xC,pF⟩:=fC (Y5.out.e);obtain⟨Ak,Am,Ar,Au,Aw,Az,AA,AB,AL,AO,mP⟩:=eleven (Y5.out.x);obtain⟨mQ,mV,mW,mX,mY,mZ,ni,nz,nC,nD,jO⟩:=fC (Y5.out.x);obtain⟨wS,mM⟩:∃wS,(((((((((((sE.setCell ⟨eb,0,none⟩ (.int .i64 n0)).setCell ⟨eb,1,none⟩ (.string f4)).setCell ⟨eb,2,none⟩ (.string n)).setCell ⟨eb,3,none⟩ (.string d)).setCell ⟨eb,4,none⟩ (.string ⟨#[]⟩)).setCell ⟨eb,5,none⟩ (.string ⟨#[]⟩)).setCell ⟨eb,6,none⟩ (.string f7)).setCell ⟨eb,7,none⟩ (.int .i64 n2)).setCell ⟨eb,8,none⟩ (.slice A8 (F).length c8)).setCell ⟨eb,9,none⟩ (.int .i64 n1)).setCell ⟨eb,10,none⟩ (.bool sg))=wS:=⟨_,rfl⟩;have nU:=zM (zA (show wS.heap[eb]?=some (.cells #[.int .i64 n0,.string f4,.string n,.string d,.string ⟨#[]⟩,.string ⟨#[]⟩,.string f7,.int .i64 n2,.slice A8 (F).length c8,.int .i64 n1,.bool sg] 41 (0,0))by rw[←mM];exact tN (Y5.out.e) _ _ _ _ _ _ _ _ _ _ _) (zA (show Below w.heap.size w wS by rw[←mM];exact kN (Y5.out.bel) (Nat.le_of_eq yf.out) _ _ _ _ _ _ _ _ _ _ _) (show Kd.string.R 9 wS w.heap.size (fun _=>True) (.slice A8 (F).length c8) F by rw[←mM];exact UB (HRE.out) (Y5.out.e) _ _ _ _ _ _ _ _ _ _ _)));go_wp2_with fail;refine bodyPost_ret (dw rfl _ _ eb 41 #[.int .i64 n0,.string f4,.string n,.string d,.string ⟨#[]⟩,.string ⟨#[]⟩,.string f7,.int .i64 n2,.slice A8 (F).length c8,.int .i64 n1,.bool sg] (0,0) _ rfl (by exact nU.out.1) Tryz.underlying41 rfl (by kernel_rfl)) rfl ?_;exact⟨⟨n0,f4,⟨n,d⟩,⟨⟨#[]⟩,⟨#[]⟩⟩,f7,n2,F,n1,sg⟩,A8,c8,er,by rw[zS HE.out.1 HE.out.2];rfl,.inr ⟨JD.out,n,d,er,HE5.out,.inl ⟨HE.out.1,rfl⟩⟩,by first|exact nU.out.2.2|(rw[←yf.out];exact nU.out.2.2),by first|exact nU.out.2.1|(rw[←yf.out];exact nU.out.2.1)⟩
end Go.Proofs.YthbdjmopolpjmaaGreatDoor.C
