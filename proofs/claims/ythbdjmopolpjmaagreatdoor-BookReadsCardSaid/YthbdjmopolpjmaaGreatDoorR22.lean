/- The law cubitlaw29.BookReads answers true for every text. Conditions: none beside those that the row itself names (the listed variables hold what their initialisers lay). -/
import Derived.Test.YthbdjmopolpjmaaGreatDoorR21
set_option linter.unusedVariables false
set_option linter.unusedSimpArgs false
set_option maxHeartbeats 8000000
set_option maxRecDepth 100000
namespace Go.Proofs.YthbdjmopolpjmaaGreatDoor.C
open Go.RowKit Go.Proofs.YthbdjmopolpjmaaGreatDoorW.PrintWords Go.Proofs.YthbdjmopolpjmaaGreatDoorW.PrintLast Go.Proofs.YthbdjmopolpjmaaGreatDoorW.PrintMore Go.Proofs.YthbdjmopolpjmaaGreatDoor.F Go.Proofs.YthbdjmopolpjmaaGreatDoor.M
attribute [local go_sem] max2_int min2_int max_two min_two max_three min_three max_four min_four
theorem XT:∀(ts:List ByteArray) (i:Int) {er pos:Int} {l:List iU},PF ts i er pos l→er=0→l.length+1=ts.length∧∀x∈l,x.f6.length≤8
 | [],_,_,_,_,h,_=>h.elim
 | [t],i,er,pos,l,h,h0=>by
  rcases h with⟨_,_,_,rfl⟩|⟨_,rfl,_⟩
  ·exact⟨rfl,fun x hx=>by cases hx⟩
  ·exact absurd h0 (by decide)
 |t::u::r,i,er,pos,l,h,h0=>by
  obtain⟨e1,x,hx,⟨h1,rfl,rfl⟩|⟨rfl,l',hp,hl⟩⟩:=h
  ·exact absurd h0 h1
  ·obtain⟨k1,k2⟩:=XT (u::r) (i+1) hp h0;rw[hl h0];refine⟨by simp only[List.length_cons]at k1⊢;omega,fun y hy=>?_⟩;rcases List.mem_cons.1 hy with rfl|hy
   ·exact Jm (Ll hx).1
   ·exact k2 y hy
theorem MI {s:ByteArray}{er pos:Int}{l:List iU}(h:oP s er pos l):l.length≤4097∧∀x∈l,x.f6.length≤8:=by
 rcases h with⟨_,_,_,rfl⟩|⟨_,h1,l',hp,rfl⟩
 ·exact⟨by simp,fun x hx=>by cases hx⟩
 ·by_cases he:er=0
  ·rw[if_pos he];obtain⟨k1,k2⟩:=XT _ _ hp he;exact⟨by omega,k2⟩
  ·rw[if_neg he];exact⟨by simp,fun x hx=>by cases hx⟩
theorem DI (s:ByteArray)(w:World)(hg:BI w)(hp:Pow w)(hm:JH w):Calls Tryz.prog 6 #[.string s] w fun e w'=>e= .returned (.bool true)∧Below w.heap.size w w':=by
 have HG:=zM (zA hg (zA hp hm));clear hg hp hm;go_enter Tryz.func6,Tryz.ntmps6;go_wp2_with fail;refine(wJ s _ HG.out.1 HG.out.2.2).mono ?_;rintro e w1 ⟨v1,er,pos,l,rfl,ha1,hS1,hb1⟩;have H1:=zM (zA ha1 (zA hS1 hb1));clear ha1 hS1 hb1;go_wp2_with fail;refine(wJ s _ (HG.out.1.below H1.out.2.2) (HG.out.2.2.below H1.out.2.2)).mono ?_;rintro e w2 ⟨v2,TN,LJ,l2,rfl,ha2,hS2,hb2⟩;obtain⟨rfl,rfl,rfl⟩:=BF H1.out.1 ha2;have H2:=zM (zA hS2 hb2);clear ha2 hS2 hb2;go_wp2_with fail;refine(Ji s _).mono ?_;rintro e w3 ⟨v3,er3,asy,l3,rfl,ha3,hR3,hb3⟩;obtain⟨rfl,rfl,rfl⟩:=BF H1.out.1 ha3;have H3:=zM (zA hR3 hb3);clear ha3 hR3 hb3;obtain⟨A1,c1,e1⟩:=Kd.Ij H1.out.2.1;obtain⟨A2,c2,e2⟩:=Kd.Ij H2.out.1;obtain⟨A3,c3,e3⟩:=Kd.fO H3.out.1;subst e1 e2 e3;have HF:=zM (MI H1.out.1);have RJ:=ah H2.out.2 H2.out.2.size H3.out.2;have HB:=zM (zA RJ (ah H1.out.2.2 H1.out.2.2.size RJ));clear RJ;go_wp2_with fail;have hr1:=Kd.dA (Kd.dK (Kd.S_R H1.out.2.1) HB.out.1);have hr3:=Kd.dA H3.out.1;refine(GX A1 A3 c1 c3 l _ hr1.2.2 hr1.2.1 hr3.2.2 hr3.2.1 (by have:=HF.out.1;omega) (fun x hx=>by have:=HF.out.2 x hx;omega)).mono ?_;rintro e w4 ⟨rfl,hb4⟩;have H4:=zM hb4;clear hb4 hr1 hr3;go_wp2_with fail;have ah1:=ah HB.out.1 HB.out.1.size H4.out;have hS4:Kd.S EP 41 w4 w.heap.size (fun k=>k<w1.heap.size) (.slice A1 l.length c1) l:=Kd.PY (Kd.Ii (Kd.Ih H1.out.2.1) (fun k hk=>hk.2.2.1)) ah1;refine(PE w w4 (fun k=>k<w1.heap.size) _ l (ah HB.out.2 HB.out.2.size H4.out) hS4 (by have:=HF.out.1;omega) (fun x hx=>by have:=HF.out.2 x hx;omega)).mono ?_;rintro e w5 ⟨rfl,hb5,hk5⟩;have hR2:=Kd.NI (Kd.jS (Kd.dK (Kd.dK (Kd.S_R H2.out.1) H3.out.2) H4.out)) hk5 (fun k hk h=>by have:=hk.2.1;omega);have hR3:=Kd.NI (Kd.jS (Kd.dK H3.out.1 H4.out)) hk5 (fun k hk h=>by have:=hk.2.1;have:=H2.out.2.size;omega);have H5:=zM (zA (Kd.dA hR2) (zA (Kd.dA hR3) hb5));clear ah1 hS4 hb5 hk5 hR2 hR3;go_wp2_with fail;refine(GX A2 A3 c2 c3 l _ H5.out.1.2.2 H5.out.1.2.1 H5.out.2.1.2.2 H5.out.2.1.2.1 (by have:=HF.out.1;omega) (fun x hx=>by have:=HF.out.2 x hx;omega)).mono ?_;rintro e w6 ⟨rfl,hb6⟩;have H6:=zM (ah H5.out.2.2 H5.out.2.2.size hb6);clear hb6;go_wp2_with fail;refine(Ox _ (HG.out.1.below H6.out) (HG.out.2.1.below H6.out)).mono ?_;rintro e w7 ⟨rfl,hb7⟩;have H7:=zM (ah H6.out H6.out.size hb7);clear hb7;go_wp2_with fail;go_ret;exact⟨rfl,H7.out⟩
end Go.Proofs.YthbdjmopolpjmaaGreatDoor.C
namespace Go.Proofs.YthbdjmopolpjmaaGreatDoor.C
open Go.RowKit
def kR:List (String×DataW Unit):=[("math/bits.deBruijn32tab",Rows.laid_math_bits_deBruijn32tab),("math/bits.deBruijn64tab",Rows.laid_math_bits_deBruijn64tab),("internal/strconv.uint64pow10",Rows.laid_internal_strconv_uint64pow10),("unicode/utf8.acceptRanges",Rows.laid_unicode_utf8_acceptRanges),("strconv.ErrRange",Rows.laid_strconv_ErrRange),("strconv.ErrSyntax",Rows.laid_strconv_ErrSyntax),("cubit/book.errLine",Rows.laid_cubit_book_errLine),("unicode/utf8.first",Rows.laid_unicode_utf8_first)]
theorem uK {W:World}(h:laidMetH Tryz.prog Rows.bookReadsRow.laid W):laidMet Tryz.prog kR W∧handlesMet Tryz.prog Oj W:=h
theorem X5 {W:World}(h:laidMet Tryz.prog kR W):Pow W:=
 Lib.tabIs_of_head (k:= .u64) (zs:=Lib.pow10Tab) al5 VU Tryz.underlying271 Tryz.underlying162 U2 U3 h.tail.tail
theorem Td {W:World}(h:laidMetH Tryz.prog Rows.bookReadsRow.laid W):BI W:=by
 obtain⟨hp,hh⟩:=uK h;refine⟨?_,?_⟩
 ·obtain⟨a,s,hv,_⟩:=laid_sentinel hp.tail.tail.tail.tail.tail.tail ab6 RH Tryz.underlying44 ae2 Tryz.underlying347 Tryz.underlying349 rfl rfl Tryz.underlying9 U4 Zg;exact⟨a,by simpa using World.var?_cell ab6 hv 0⟩
 ·obtain⟨name,u,ty,e1,e2,e3,e4,e5⟩:=hh _ (List.mem_singleton.2 rfl);have en:name=[101,114,114,111,114]:=(Option.some.inj e1).symm;subst en;obtain rfl:=Option.some.inj (rtype.symm.trans e2);have hm:ty∈(List.range 390).filter fun t=>Tryz.prog.rowNamed t [101,114,114,111,114]:=List.mem_filter.2 ⟨List.mem_range.2 (by rw[←TA];exact e3),e4⟩
  rw[oneRow]at hm;obtain rfl:=List.mem_singleton.1 hm;rw[V7]at e5;simpa using World.var?_cell al4 e5 0
theorem X4 {W:World}(h:W.ShapedOpen Tryz.prog):JH W:=
 cell_of_shapedOpen_int (P:=Tryz.prog) (g:=2) (t:=3) (zero:= #[.int .i64 0]) h (of_decide_eq_true (by kernel_rfl)) (by kernel_rfl) rfl (by kernel_rfl) (by kernel_rfl) Tryz.underlying3
noncomputable def lQ (os:Os):World:=
 {World.laidAll Tryz.prog os kR with heap:=(World.laidAll Tryz.prog os kR).heap.modify 1 fun
   | .cells _ t frozen=> .cells #[.iface 182 (.agg #[.pointer (some ⟨10,44,none⟩)])] t frozen
   |o=>o}
theorem Je (os:Os):(lQ os).os=os:=by
 unfold lQ;simp only[World.laidAll_os]
theorem CE:(Rows.bookReadsRow.laid.filter fun x=>x.2.handleName?.isNone)=kR:=by kernel_rfl
noncomputable def yU (os:Os)(args:Array Value):World:=((lQ os).forCall (fun _ _=>0) ⟨#[],args,[]⟩).memory
theorem Jd (os:Os)(args:Array Value):(DataW.laidRun Tryz.prog (yU os args) 8 (kR.map (·.1))).map (·.1)=some kR:=by kernel_rfl
theorem Fb (os:Os)(args:Array Value):(DataW.laidRun Tryz.prog (yU os args) 8 (kR.map (·.1))).map (fun x=>nodupB (x.2.map MemPlace.codeOf))=some true:=by kernel_rfl
theorem Jc (os:Os)(args:Array Value):(DataW.laidRun Tryz.prog (yU os args) 8 (kR.map (·.1))).map (fun x=>laidRowsB Tryz.prog (yU os args) x.2)=some true:=by kernel_rfl
theorem Fe (os:Os)(args:Array Value):laidMetH Tryz.prog Rows.bookReadsRow.laid ((lQ os).forCall (fun _ _=>0) ⟨#[],args,[]⟩).memory:=
 laidMetH_of_parts (by rw[CE];exact laidMet_of_run3 8 (Jd os args) (Fb os args) (Jc os args)) (by kernel_rfl)
theorem Ew (os:Os)(args:Array Value):((lQ os).forCall (fun _ _=>0) ⟨#[],args,[]⟩).variablesRefB Tryz.checked.prog=true:=by kernel_rfl
theorem Af (os:Os)(args:Array Value):(((lQ os).forCall (fun _ _=>0) ⟨#[],args,[]⟩).heap.toList.drop Tryz.checked.prog.globals.size).take ((begin Tryz.checked.prog (fun _ _=>0) default).world.heap.size- Tryz.checked.prog.globals.size)=
   (begin Tryz.checked.prog (fun _ _=>0) default).world.heap.toList.drop Tryz.checked.prog.globals.size:=by kernel_rfl
end Go.Proofs.YthbdjmopolpjmaaGreatDoor.C
namespace Go.Proofs.YthbdjmopolpjmaaGreatDoor.C
open Go.ChangeShapes Go.WideShapes Go.ChangeAt Go.RowKit
theorem ac7 {a b:Bool}(h:a=true)(k:b=true):(a&&b)=true:=by rw[h,k];rfl
theorem LW:joinedFacts Tryz.pinned.checked.prog 6 Tryz.f6 (OpenSpec.ofChange Rows.bookReadsSpec).bare Rows.bookReadsRow=true:=by
 unfold joinedFacts
 repeat' first|(with_reducible refine ac7 ?_ ?_)
 all_goals(as_aux_lemma=>kernel_rfl)
theorem amr:ownKnob Tryz.prog.godebug=none:=by kernel_rfl
theorem Xx:laidOutB Tryz.prog=true:=by kernel_rfl
theorem LG:Tryz.f6.params= #[9]:=rfl
theorem Ey (H:Type)(enc:TypeId×Value→H)(W:World)(base:Nat)(args:Array Value)(ds gs:List (DataW H))(before:List MemPlace)
  (hval:∀(j:Nat) t v,Tryz.f6.params[j]?=some t→args[j]?=some v→Value.okWide Tryz.prog W .any base t v)
  (hW:DataW.Whole enc Tryz.prog Tryz.f6.params.toList Rows.bookReadsSpec.vars false W args.toList ds gs before) (hL:laidMetH Tryz.prog Rows.bookReadsRow.laid W) (hsh:W.ShapedOpen Tryz.prog):
  Calls Tryz.prog 6 args W fun e W'=>∃v,e= .returned v∧Rows.bookReadsSpec.post enc Tryz.prog Tryz.f6 false true false false W args v W':=by
 have hW':=hW;obtain⟨p,q,hA0,hV,rfl,hfz,hnd⟩:=hW;have hA:DataW.TrodAll enc Tryz.prog W 0 (fun _=>true) true Tryz.f6.params.toList args.toList ds p:=hA0;rw[LG]at hA hval;obtain⟨v0,d0,rfl,rfl,h0⟩:=trodAll_one hA;obtain⟨rfl,rfl⟩:=trodVars_none hV;obtain⟨s,rfl⟩:=okWide_string Tryz.underlying9 (hval 0 9 v0 rfl rfl);have lt0:∀x∈p,x.block<W.heap.size:=by obtain⟨m,hm⟩:=h0;exact DataW.trod_lt m _ _ _ hm
 clear hA0 hA hV hval hfz hnd;refine(DI s W (Td hL) (X5 (uK hL).1) (X4 hsh)).mono fun e W' ⟨he,bel⟩=>?_
 subst he;exact⟨_,rfl,_,_,_,[],_,[],hW',trodAll_mk1 (shut_bool Tryz.underlying4 _),trodAll_cons_mk (Below.trod Xx (by kernel_rfl) (of_decide_eq_true (by kernel_rfl)) h0 bel lt0) trodAll_mk0,rfl,bel.frame _,fun h=>by cases h⟩
theorem LY (os:Os){H:Type}(enc:TypeId×Value→H):∃places,DataW.whole enc Tryz.prog ((lQ os).forCall (fun _ _=>0) ⟨#[],#[.string ⟨#[]⟩],[]⟩).memory Tryz.f6.params.toList Rows.bookReadsSpec.vars false #[Value.string ⟨#[]⟩].toList 8=some ([.lit (.string [])],[],places):=
 ⟨[],by kernel_rfl⟩
theorem Jf (os:Os)(started:os.Started)(H:Type)(enc:TypeId×Value→H)(F:Stop.Interp):
  ReturnsInHanded {} Tryz.checked os 6 .any ((OpenSpec.ofChange Rows.bookReadsSpec).preRow enc Tryz.prog Tryz.f6 Rows.bookReadsRow.domain false Rows.bookReadsRow.laid) (((OpenSpec.ofChange Rows.bookReadsSpec).at F).post enc Tryz.prog Tryz.f6 false true false false):=by
 obtain⟨places,hx⟩:=LY os enc
 refine returnsInHanded_of_row (C:=Tryz.checked) (s:=OpenSpec.ofChange Rows.bookReadsSpec) amr started (by kernel_rfl) Tryz.func6
  (witness_row_atRef (enc:=enc) (C:=Tryz.checked) false (lQ os) #[.string ⟨#[]⟩] (Je os) (Ew os _) (Af os _) (by kernel_rfl)
   (OpenSpec.preRow_of_cond 8 hx (by kernel_rfl) (fun k hk=>by cases hk) (by kernel_rfl) ?_)) ?_
 ·exact Fe os _
 ·intro W base args ds gs before hval hW _ _ _ hL hsh _;exact Ey H enc W base args ds gs before hval hW hL hsh
theorem Pv:Rows.BookReadsSaid:=
 OpenClaim.holds_of_cond 6 Tryz.f6 rfl rfl rfl rfl rfl rfl rfl ⟨rfl,rfl,rfl,rfl,rfl⟩ rfl rfl rfl rfl rfl (by kernel_rfl) Tryz.func6 LW
  (of_decide_eq_true (by kernel_rfl)) (by unfold Func.isWrapper;first|(rw[if_pos (by decide+kernel)];kernel_rfl)|(rw[if_neg (by decide+kernel)];exact⟨rfl,rfl⟩))
  (fun os started H enc _ F=>by rw[OpenClaim.pre_eq_preRow];exact Jf os started H enc F)
theorem LX (f:FuncId)(fn:Func)(hf:Tryz.pinned.checked.prog.funcNamed "cubit/cubitlaw29.BookReads" =some f)(hfn:Tryz.pinned.checked.prog.funcs[f]?=some fn):
  true=Tryz.pinned.checked.prog.looks []∧∀(j:Nat) t,fn.params[j]?=some t→Tryz.pinned.checked.prog.wantsStandIn t=false:=by
 obtain rfl:f=6:=Option.some.inj ((show Tryz.prog.funcNamed "cubit/cubitlaw29.BookReads" =some 6 by kernel_rfl).symm.trans hf)|>.symm
 obtain rfl:fn=Tryz.f6:=(Option.some.inj (Tryz.func6.symm.trans hfn)).symm;refine⟨by kernel_rfl,fun j t ht=>?_⟩;rw[LG]at ht;obtain rfl:t=9:=by simpa using Array.mem_of_getElem? ht
 exact(show Tryz.prog.wantsStandIn 9=false by kernel_rfl)
end Go.Proofs.YthbdjmopolpjmaaGreatDoor.C
namespace Go.Proofs.YthbdjmopolpjmaaGreatDoor
theorem bookReads_card:Rows.BookReadsCardSaid:=
 Claim7.holds_tied_plain_at .later [] _ _ _ _ C.Pv (fun _ h=>by cases h) (by kernel_rfl) (fun _ h=>by cases h) bookReads_row_tie rfl ⟨rfl,rfl⟩ (by kernel_rfl) rfl C.LX (by kernel_rfl)
end Go.Proofs.YthbdjmopolpjmaaGreatDoor
