/- Part 13 of the proof. -/
import Derived.Test.YthbdjmopolpjmaaGreatDoorK12
set_option linter.unusedVariables false
set_option linter.unusedSimpArgs false
set_option maxHeartbeats 8000000
set_option maxRecDepth 100000
namespace Go.Proofs.YthbdjmopolpjmaaGreatDoor.C
open Go.RowKit Go.Proofs.YthbdjmopolpjmaaGreatDoorW.PrintWords Go.Proofs.YthbdjmopolpjmaaGreatDoorW.PrintLast Go.Proofs.YthbdjmopolpjmaaGreatDoorW.PrintMore Go.Proofs.YthbdjmopolpjmaaGreatDoor.F Go.Proofs.YthbdjmopolpjmaaGreatDoor.M
namespace Rep
def Six (W:World)(b:Nat):Prop:=W.cell? ⟨b,0,none⟩=some (.string ⟨#[92]⟩)∧W.cell? ⟨b,1,none⟩=some (.string ⟨#[92,92]⟩)∧W.cell? ⟨b,2,none⟩=some (.string ⟨#[9]⟩)∧W.cell? ⟨b,3,none⟩=some (.string ⟨#[92,116]⟩)∧W.cell? ⟨b,4,none⟩=some (.string ⟨#[10]⟩)∧W.cell? ⟨b,5,none⟩=some (.string ⟨#[92,110]⟩)
theorem Six.below {W W1:World}{b:Nat}(h:Six W b)(hb:Below W.heap.size W W1):Six W1 b:=by
 obtain⟨q0,q1,q2,q3,q4,q5⟩:=h;exact⟨cell_later hb q0,cell_later hb q1,cell_later hb q2,cell_later hb q3,cell_later hb q4,cell_later hb q5⟩
theorem sz1 (a:UInt8):ByteArray.size ⟨#[a]⟩=1:=rfl
theorem sz2 (a b:UInt8):ByteArray.size ⟨#[a,b]⟩=2:=rfl
theorem Vd (W:World)(o:Int):(convert 50 9 (.slice (some ⟨W.heap.size,0,none⟩) 1 1)).run Tryz.prog (W.alloc (.cells #[.int .u8 o] 5))= .ok (.string (strOfNums [o])) (W.alloc (.cells #[.int .u8 o] 5)):=
 pV (src:=50) (dst:=9) (e:=5) Tryz.underlying50 Tryz.underlying5 Tryz.underlying9 (I5 W W.heap.size 5 .u8 [o] (Nat.le_refl _) (by simp))
theorem NU (g b c:Nat)(w:World)(h2:w.cell? ⟨g,4,none⟩=some (.slice (some ⟨b,0,none⟩) 6 c))(h6:Six w b):
  Calls Tryz.prog 124 #[.pointer (some ⟨g,0,none⟩)] w fun e w'=>∃p v,e= .returned (.iface 259 (.pointer (some ⟨p,0,none⟩)))∧Tb w w' p v [10,9,92]:=by
 have H6:=zM h6;obtain⟨q0,q1,q2,q3,q4,q5⟩:=h6;have k1:=sz1;have k2:=sz2;have kn:=Lib.run_eql_slice_nil (P:=Tryz.prog) (t:=50);have k3:∀(a:UInt8) (h:0<ByteArray.size ⟨#[a]⟩),(ByteArray.mk #[a])[0]'h=a:=fun _ _=>rfl
 have mk:=XD;have bd:=Q8;have cv:=Vd;have cb:=uI (P:=Tryz.prog) 9 50 5 Tryz.underlying9 Tryz.underlying50 Tryz.underlying5;have hWa:Below w.heap.size w (w.alloc (.cells #[.string ⟨#[]⟩,.string ⟨#[]⟩,.string ⟨#[]⟩] 9)):=ag (Below.refl _ _) _
 have hrow:Kd.string.R 9 (w.alloc (.cells #[.string ⟨#[]⟩,.string ⟨#[]⟩,.string ⟨#[]⟩] 9)) w.heap.size (fun _=>True) (.slice (some ⟨w.heap.size,0,none⟩) 0 3) []:=by
  have h:=World.ownsRow_made (base:=w.heap.size) (e:=9) (size:=1) w #[.string ⟨#[]⟩,.string ⟨#[]⟩,.string ⟨#[]⟩] 3 (Nat.le_refl _) (by simp only[maxLen];omega) (by simp);exact Kd.iR (by simpa[encs]using h) (fun k hk=>trivial)
 obtain⟨W1,hst,hn1,hn2⟩:=Yj (some ⟨w.heap.size,0,none⟩) 0 3 (w.alloc (.cells #[.string ⟨#[]⟩,.string ⟨#[]⟩,.string ⟨#[]⟩] 9));have HT:=zM (Tb.start hWa w.heap.size hrow hn1 hn2)
 have hst':(storeCells ⟨w.heap.size+1,0,none⟩ (Tryz.zeroCells258.toList.set 256 (.slice (some ⟨w.heap.size,0,none⟩) 0 3))).run Tryz.prog ((w.alloc (.cells #[.string ⟨#[]⟩,.string ⟨#[]⟩,.string ⟨#[]⟩] 9)).alloc (.cells Tryz.zeroCells258 258))= .ok () W1:=by
  simpa using hst
 have hpp:(w.alloc (.cells #[.string ⟨#[]⟩,.string ⟨#[]⟩,.string ⟨#[]⟩] 9)).heap.size=w.heap.size+1:=by simp
 rw[hpp]at HT;clear hst hn1 hn2 hWa hrow hpp;go_enter Tryz.func124,Tryz.ntmps124;go_wp2_with fail;refine wp_loop_rounds 4 ?_;rw[rounds_succ];go_wp2_with fail;rw[rounds_succ];go_wp2_with fail;rw[rounds_succ];go_wp2_with fail;rw[rounds_succ];go_wp2_with fail;clear hst' mk bd;clear q0 q1 q2 q3 q4 q5;refine wp_loop_rounds 4 ?_;rw[rounds_succ];obtain⟨v,hv⟩:∃v,Value.slice (some ⟨w.heap.size,0,none⟩) 0 3=v:=⟨_,rfl⟩;rw[hv]at HT;clear hv;obtain⟨p,hp⟩:∃p,w.heap.size+1=p:=⟨_,rfl⟩;rw[hp];rw[hp]at HT;clear hp;have HS:=zM (H6.out.below HT.out.below);obtain⟨q0,q1,q2,q3,q4,q5⟩:=HS.out;obtain⟨c0,z0,c1,z1⟩:=HT.out.cells 10 (by decide) (by decide);go_wp2_with (first|((with_reducible refine bK (b:= .append) (xs:= #[.tmp 119,.tmp 123]) rfl ?_);at_builtin;refine Kd.dZ Kd.string (w0:=w) w.heap.size rfl (.tmp 119) (.tmp 123) 30 9 (.string ⟨#[]⟩) 16 rfl Tryz.underlying30 info9 rfl (by decide) (by omega) v ([]:List ByteArray) (one 10) [.string (strOfNums [10])] (fun _=>True) (fun _=>False) rfl (congrArg (fun n=>Value.slice (some ⟨n,0,none⟩) 1 1) (show W1.heap.size+1=(W1.alloc (.cells #[.int .u8 10] 5)).heap.size by simp)) ?aP (fun _ hk=>hk.elim) ?aF ?aO ?aB ?aS ?aL ?_;(case aP=>exact rfl);(case aF=>exact(fun _ _=>trivial));(case aO=>exact Kd.dC HT.out.row _);(case aB=>exact ag HT.out.below _);(case aS=>exact(ag HT.out.below _).size);(case aL=>simp);intro v2 x0 ho hb hg hat;obtain⟨A0,C0,hv,_,_⟩:=Kd.jE ho;have hv2:v2= .slice A0 1 C0:=hv;clear hv;subst hv2;obtain⟨y0,hy0⟩:∃y,x0.setCell ⟨p,256,none⟩ (.slice A0 1 C0)=y:=⟨_,rfl⟩;obtain⟨d0,d1,d2,d3⟩:=HT.out.after (o:=10) (by decide) (by decide) _ hg (.slice A0 1 C0) y0 hy0 ⟨#[92,110]⟩;have HN:=zM (fun C=>HT.out.round (o:=10) (by decide) (by decide) _ ho hb hg ⟨#[92,110]⟩ (by decide) y0 hy0 C);clear ho hb hg hat HT;have HT:=HN;clear HN q0 q1 q2 q3 q4 q5 c0 z0 c1 z1 HS));have HN:=zM (HT.out (grownCap y0 2 0 5));clear HT;obtain⟨W2,hW⟩:∃W,(Lib.bytesWorld y0 5 ⟨#[92,110]⟩).setCell ⟨p,10,none⟩ (.slice (some ⟨y0.heap.size,0,none⟩) 2 (grownCap y0 2 0 5))=W:=⟨_,rfl⟩;rw[hW]at HN;have HT:=HN;rw[hW];clear HN hW hy0 d0 d1 d2 d3;rw[rounds_succ];have HS:=zM (H6.out.below HT.out.below);obtain⟨q0,q1,q2,q3,q4,q5⟩:=HS.out;obtain⟨c0,z0,c1,z1⟩:=HT.out.cells 9 (by decide) (by decide);go_wp2_with (first|((with_reducible refine bK (b:= .append) (xs:= #[.tmp 119,.tmp 123]) rfl ?_);at_builtin;refine Kd.dZ Kd.string (w0:=w) w.heap.size rfl (.tmp 119) (.tmp 123) 30 9 (.string ⟨#[]⟩) 16 rfl Tryz.underlying30 info9 rfl (by decide) (by omega) (.slice A0 1 C0) ([one 10]:List ByteArray) (one 9) [.string (strOfNums [9])] (fun _=>True) (fun _=>False) rfl (congrArg (fun n=>Value.slice (some ⟨n,0,none⟩) 1 1) (show W2.heap.size+1=(W2.alloc (.cells #[.int .u8 9] 5)).heap.size by simp)) ?aP (fun _ hk=>hk.elim) ?aF ?aO ?aB ?aS ?aL ?_;(case aP=>exact rfl);(case aF=>exact(fun _ _=>trivial));(case aO=>exact Kd.dC HT.out.row _);(case aB=>exact ag HT.out.below _);(case aS=>exact(ag HT.out.below _).size);(case aL=>simp);intro v3 x1 ho hb hg hat;obtain⟨A1,C1,hv,_,_⟩:=Kd.jE ho;have hv2:v3= .slice A1 2 C1:=hv;clear hv;subst hv2;obtain⟨y1,hy1⟩:∃y,x1.setCell ⟨p,256,none⟩ (.slice A1 2 C1)=y:=⟨_,rfl⟩;obtain⟨d0,d1,d2,d3⟩:=HT.out.after (o:=9) (by decide) (by decide) _ hg (.slice A1 2 C1) y1 hy1 ⟨#[92,116]⟩;have HN:=zM (fun C=>HT.out.round (o:=9) (by decide) (by decide) _ ho hb hg ⟨#[92,116]⟩ (by decide) y1 hy1 C);clear ho hb hg hat HT;have HT:=HN;clear HN q0 q1 q2 q3 q4 q5 c0 z0 c1 z1 HS));have HN:=zM (HT.out (grownCap y1 2 0 5));clear HT;obtain⟨W3,hW⟩:∃W,(Lib.bytesWorld y1 5 ⟨#[92,116]⟩).setCell ⟨p,9,none⟩ (.slice (some ⟨y1.heap.size,0,none⟩) 2 (grownCap y1 2 0 5))=W:=⟨_,rfl⟩;rw[hW]at HN;have HT:=HN;rw[hW];clear HN hW hy1 d0 d1 d2 d3;rw[rounds_succ];have HS:=zM (H6.out.below HT.out.below);obtain⟨q0,q1,q2,q3,q4,q5⟩:=HS.out;obtain⟨c0,z0,c1,z1⟩:=HT.out.cells 92 (by decide) (by decide);go_wp2_with (first|((with_reducible refine bK (b:= .append) (xs:= #[.tmp 119,.tmp 123]) rfl ?_);at_builtin;refine Kd.dZ Kd.string (w0:=w) w.heap.size rfl (.tmp 119) (.tmp 123) 30 9 (.string ⟨#[]⟩) 16 rfl Tryz.underlying30 info9 rfl (by decide) (by omega) (.slice A1 2 C1) ([one 10,one 9]:List ByteArray) (one 92) [.string (strOfNums [92])] (fun _=>True) (fun _=>False) rfl (congrArg (fun n=>Value.slice (some ⟨n,0,none⟩) 1 1) (show W3.heap.size+1=(W3.alloc (.cells #[.int .u8 92] 5)).heap.size by simp)) ?aP (fun _ hk=>hk.elim) ?aF ?aO ?aB ?aS ?aL ?_;(case aP=>exact rfl);(case aF=>exact(fun _ _=>trivial));(case aO=>exact Kd.dC HT.out.row _);(case aB=>exact ag HT.out.below _);(case aS=>exact(ag HT.out.below _).size);(case aL=>simp);intro v4 x2 ho hb hg hat;obtain⟨A2,C2,hv,_,_⟩:=Kd.jE ho;have hv2:v4= .slice A2 3 C2:=hv;clear hv;subst hv2;obtain⟨y2,hy2⟩:∃y,x2.setCell ⟨p,256,none⟩ (.slice A2 3 C2)=y:=⟨_,rfl⟩;obtain⟨d0,d1,d2,d3⟩:=HT.out.after (o:=92) (by decide) (by decide) _ hg (.slice A2 3 C2) y2 hy2 ⟨#[92,92]⟩;have HN:=zM (fun C=>HT.out.round (o:=92) (by decide) (by decide) _ ho hb hg ⟨#[92,92]⟩ (by decide) y2 hy2 C);clear ho hb hg hat HT;have HT:=HN;clear HN q0 q1 q2 q3 q4 q5 c0 z0 c1 z1 HS));have HN:=zM (HT.out (grownCap y2 2 0 5));clear HT;obtain⟨W4,hW⟩:∃W,(Lib.bytesWorld y2 5 ⟨#[92,92]⟩).setCell ⟨p,92,none⟩ (.slice (some ⟨y2.heap.size,0,none⟩) 2 (grownCap y2 2 0 5))=W:=⟨_,rfl⟩;rw[hW]at HN;have HT:=HN;rw[hW];clear HN hW hy2 d0 d1 d2 d3;rw[rounds_succ];go_wp2_with fail;go_ret;exact⟨p,_,rfl,HT.out⟩
def six:List ByteArray:=[⟨#[92]⟩,⟨#[92,92]⟩,⟨#[9]⟩,⟨#[92,116]⟩,⟨#[10]⟩,⟨#[92,110]⟩]
def Rp (g:Nat)(r:Value)(W:World):Prop:=∃p,r= .iface 259 (.pointer (some ⟨p,0,none⟩))∧p≠g∧∃C:Array Value,W.heap[p]?=some (.cells C 258 (0,0))∧(∀j,j<256→j∉[10,9,92]→C[j]?=some (.slice none 0 0))∧
 (∀o:Nat,o∈[10,9,92]→∃b c,C[o]?=some (.slice (some ⟨b,0,none⟩) 2 c)∧b≠g∧ByB W b (l7 o))∧
 ∃t c,C[256]?=some (.slice (some ⟨t,0,none⟩) 3 c)∧t≠g∧(∃cs fr,W.heap[t]?=some (.cells cs 9 fr)∧cs[0]?=some (.string (one 10))∧cs[1]?=some (.string (one 9))∧cs[2]?=some (.string (one 92)))
theorem Md (g:Nat):Once.UD g (Rp g):=by
 intro r W W' h _ hh;obtain⟨p,rfl,hp,C,h1,h2,h3,t,c,h4,h5,cs,fr,h6,h7⟩:=h;refine⟨p,rfl,hp,C,(hh p hp).trans h1,h2,fun o ho=>?_,t,c,h4,h5,cs,fr,(hh t h5).trans h6,h7⟩;obtain⟨b,c',e1,e2,e3⟩:=h3 o ho;exact⟨b,c',e1,e2,e3.same (hh b e2)⟩
theorem Tb.rp {w W:World}{p:Nat}{v:Value}{g:Nat}(h:Tb w W p v [10,9,92])(hg:g<w.heap.size):Rp g (.iface 259 (.pointer (some ⟨p,0,none⟩))) W:=by
 obtain⟨C,h1,h2,h3,h4,h5⟩:=h.tab;have hp:=h.hp;refine⟨p,rfl,by omega,C,h1,h4,fun o ho=>?_,?_⟩
 ·obtain⟨b,c,e1,e2,e3⟩:=h5 o ho;exact⟨b,c,e1,by omega,e3⟩
 ·have ho:=Kd.jd h.row;rcases ho.2 with⟨_,he⟩|⟨t,cap,cur,rfl,ht,hh,hl,hm,hx⟩
  ·exact absurd he (by simp)
  ·have hx2:=hx.2;refine⟨t,cap,h3,by omega,cur,_,hh,?_⟩
   have key:∀j (hj:j<3),cur[j]?=(encs Value.string (([10,9,92]:List Nat).map one))[j]?:=by
    intro j hj;rw[←hx2,List.getElem?_take];simp[hj]
   exact⟨(key 0 (by omega)).trans rfl,(key 1 (by omega)).trans rfl,(key 2 (by omega)).trans rfl⟩
theorem Sz (g b c:Nat)(W:World)(hb:W.heap[g]?=some (Once.ob 0 1 .nilIface (.slice (some ⟨b,0,none⟩) 6 c)))(h6:Six W b):
  Calls Tryz.prog 88 #[.pointer (some ⟨g,0,none⟩)] W fun e W'=>e= .returned (.tuple #[])∧∃r o',W'.heap[g]?=some (Once.ob 0 1 r o')∧Rp g r W'∧gm (fun k=>k=g) W W':=by
 have HH:=zM (zA hb h6);unfold Once.ob at hb;have c4:=zM (show W.cell? ⟨g,4,none⟩=some (.slice (some ⟨b,0,none⟩) 6 c)from(aj hb 4).trans rfl);clear hb h6;go_enter Tryz.func88,Tryz.ntmps88;go_wp2_with fail;refine(NU g b c _ c4.out HH.out.2).mono ?_;rintro e w1 ⟨p,v,rfl,hT⟩;have hb1:w1.heap[g]?=some (.cells #[.int .u32 0,.int .i32 1,.int .u32 0,.nilIface,.slice (some ⟨b,0,none⟩) 6 c] 143 (0,0)):=aT HH.out.1 hT.below;have d3:w1.cell? ⟨g,3,none⟩=some .nilIface:=(aj hb1 3).trans rfl;have z3:w1.frozen? ⟨g,3,none⟩=false:=au hb1 3;have hb2:(w1.setCell ⟨g,3,none⟩ (.iface 259 (.pointer (some ⟨p,0,none⟩)))).heap[g]?=some (.cells #[.int .u32 0,.int .i32 1,.int .u32 0,.iface 259 (.pointer (some ⟨p,0,none⟩)),.slice (some ⟨b,0,none⟩) 6 c] 143 (0,0)):=aN hb1 3 _;obtain⟨w2,hw2⟩:∃w2,w1.setCell ⟨g,3,none⟩ (.iface 259 (.pointer (some ⟨p,0,none⟩)))=w2:=⟨_,rfl⟩;rw[hw2]at hb2;have d4:w2.cell? ⟨g,4,none⟩=some (.slice (some ⟨b,0,none⟩) 6 c):=(aj hb2 4).trans rfl;have z4:w2.frozen? ⟨g,4,none⟩=false:=au hb2 4;have hb3:(w2.setCell ⟨g,4,none⟩ (.slice none 0 0)).heap[g]?=some (Once.ob 0 1 (.iface 259 (.pointer (some ⟨p,0,none⟩))) (.slice none 0 0)):=aN hb2 4 _;have hg:g<W.heap.size:=dV HH.out.1
 have hfin:Rp g (.iface 259 (.pointer (some ⟨p,0,none⟩))) (w2.setCell ⟨g,4,none⟩ (.slice none 0 0))∧gm (fun k=>k=g) W (w2.setCell ⟨g,4,none⟩ (.slice none 0 0)):=by
  refine⟨Md g _ _ _ (hT.rp hg) ?_ ?_,?_⟩
  ·rw[Once.Jl,←hw2,Once.Jl]
  ·intro i hi;rw[←hw2];exact(Once.vP _ g 4 _ i hi).trans (Once.vP _ g 3 _ i hi)
  ·rw[←hw2];exact gm.setCell (S:=fun k=>k=g) (gm.setCell (S:=fun k=>k=g) (gm.of_below hT.below) ⟨g,3,none⟩ (.inl rfl) _) ⟨g,4,none⟩ (.inl rfl) _
 have HF:=zM (zA hb3 hfin);clear hb1 hb2 hb3 hfin hT hg;go_wp2_with fail;go_end0;exact⟨rfl,_,_,HF.out.1,HF.out.2.1,HF.out.2.2⟩
theorem zZ (A:Option Addr)(c:Nat)(w:World)(hC:Kd.string.C w A 6 six):
  Calls Tryz.prog 54 #[.slice A 6 c] w fun e W'=>∃g b c',e= .returned (.pointer (some ⟨g,0,none⟩))∧W'.heap[g]?=some (Once.ob 0 0 .nilIface (.slice (some ⟨b,0,none⟩) 6 c'))∧b≠g∧Six W' b∧w.heap.size≤g∧Below w.heap.size w W':=by
 have HC:=zM hC;clear hC;go_enter Tryz.func54,Tryz.ntmps54;go_wp2_with (first|((with_reducible refine bK (b:= .append) (xs:= #[.const (.slice none 0 0),.tmp 8]) rfl ?_);at_builtin;refine Kd.kT Kd.string (w0:=w) w.heap.size rfl (.const (.slice none 0 0)) (.tmp 8) 30 9 (.string ⟨#[]⟩) 16 rfl Tryz.underlying30 info9 rfl (by decide) (by omega) (.slice none 0 0) ([]:List ByteArray) six _ _ _ (fun _=>True) (fun _=>False) rfl rfl ?aO ?aR (fun _ _ h=>h) (fun _ h=>h.elim) ?aF ?aB ?aS ?aL ?_;(case aR=>exact HC.out);(case aB=>exact Below.refl _ _);(case aF=>exact(fun _ _=>trivial));(case aO=>exact((Kd.jB _ _ _ _ (fun _=>True))));(case aS=>exact Nat.le_refl _);(case aL=>decide);intro v2 w2 ho hb hg hat;obtain⟨A2,c2,hv,_,_⟩:=Kd.jE ho;have hv2:v2= .slice A2 6 c2:=hv;clear hv;subst hv2;have HN:=zM (zA ho hb);clear ho hb hg hat));go_ret;have ho:=Kd.jd HN.out.1;rcases ho.2 with⟨_,he⟩|⟨t,cap,cur,hv,ht,hh,hl,hm,hx⟩
 ·exact absurd he (by decide)
 ·injection hv with e1 e2 e3;subst e1 e3;have hx2:=hx.2
  have key:∀j (hj:j<6),cur[j]?=(encs Value.string six)[j]?:=by
   intro j hj;have h1:(cur.toList.take 6)[j]?=(encs Value.string ([]++six))[j]?:=by rw[←hx2];rfl
   rw[List.getElem?_take]at h1;simp[hj]at h1;rw[h1]
  have hlt:t<w2.heap.size:=dV hh;refine⟨w2.heap.size,t,c2,rfl,bZ _ _,by omega,?_,HN.out.2.size,ag HN.out.2 _⟩;have hk:∀j (hj:j<6),(w2.alloc (.cells #[.int .u32 0,.int .i32 0,.int .u32 0,.nilIface,.slice (some ⟨t,0,none⟩) 6 c2] 143)).cell? ⟨t,j,none⟩=(encs Value.string six)[j]?:=fun j hj=>(aj (fZ hh _) j).trans (key j hj)
  exact⟨(hk 0 (by omega)).trans rfl,(hk 1 (by omega)).trans rfl,(hk 2 (by omega)).trans rfl,(hk 3 (by omega)).trans rfl,(hk 4 (by omega)).trans rfl,(hk 5 (by omega)).trans rfl⟩
def Rt (p:Nat)(W:World):Prop:=∃C:Array Value,W.heap[p]?=some (.cells C 258 (0,0))∧(∀j,j<256→j∉[10,9,92]→C[j]?=some (.slice none 0 0))∧
 (∀o:Nat,o∈[10,9,92]→∃b c,C[o]?=some (.slice (some ⟨b,0,none⟩) 2 c)∧ByB W b (l7 o))∧
 ∃t c,C[256]?=some (.slice (some ⟨t,0,none⟩) 3 c)∧(∃cs fr,W.heap[t]?=some (.cells cs 9 fr)∧cs[0]?=some (.string (one 10))∧cs[1]?=some (.string (one 9))∧cs[2]?=some (.string (one 92)))
theorem Rt.below {p:Nat}{W W1:World}(h:Rt p W)(hb:Below W.heap.size W W1):Rt p W1:=by
 obtain⟨C,h1,h2,h3,t,c,h4,cs,fr,h6,h7⟩:=h;refine⟨C,aT h1 hb,h2,fun o ho=>?_,t,c,h4,cs,fr,aT h6 hb,h7⟩;obtain⟨b,c',e1,e3⟩:=h3 o ho;exact⟨b,c',e1,e3.same (hb.block b e3.lt)⟩
theorem yC {W:World}{b:Nat}{cs:Array Value}{t:Nat}{fr:Nat×Nat}(h:W.heap[b]?=some (.cells cs t fr))(j:Nat):W.cell? ⟨b,j,none⟩=cs[j]?:=cell_of_row W b j cs t fr h
theorem Rt.nil {p:Nat}{W:World}(h:Rt p W)(j:Nat)(hj:j<256)(hn:j∉[10,9,92]):W.cell? ⟨p,j,none⟩=some (.slice none 0 0):=by
 obtain⟨C,h1,h2,_⟩:=h;exact(aj h1 j).trans (h2 j hj hn)
theorem Rt.two {p:Nat}{W:World}(h:Rt p W)(o:Nat)(ho:o∈[10,9,92]):∃b c,W.cell? ⟨p,o,none⟩=some (.slice (some ⟨b,0,none⟩) 2 c)∧(∀j,j<(l7 o).length→W.cell? ⟨b,j,none⟩=some (.int .u8 ((l7 o).getD j 0))):=by
 obtain⟨C,h1,h2,h3,_⟩:=h;obtain⟨b,c,e1,cs,fr,e3,e4⟩:=h3 o ho;exact⟨b,c,(aj h1 o).trans e1,fun j hj=>(yC e3 j).trans (e4 j hj)⟩
theorem Rt.list {p:Nat}{W:World}(h:Rt p W):∃t c,W.cell? ⟨p,256,none⟩=some (.slice (some ⟨t,0,none⟩) 3 c)∧W.cell? ⟨t,0,none⟩=some (.string (one 10))∧W.cell? ⟨t,1,none⟩=some (.string (one 9))∧W.cell? ⟨t,2,none⟩=some (.string (one 92)):=by
 obtain⟨C,h1,h2,h3,t,c,h4,cs,fr,h6,h7,h8,h9⟩:=h;exact⟨t,c,(aj h1 256).trans h4,(yC h6 0).trans h7,(yC h6 1).trans h8,(yC h6 2).trans h9⟩
theorem xx (s:ByteArray)(c:UInt8)(w:World):Calls Tryz.prog 36 #[.string s,.string ⟨#[c]⟩] w fun e w'=>e= .returned (.int .i64 (Lib.countByte s.data.toList c))∧w=w':=(Tryz.strings_Count_one s c w).mono fun e w' ⟨h,k⟩=>⟨h,k.symm⟩
theorem count_le (l:List UInt8)(c:UInt8):Lib.countByte l c≤l.length:=List.count_le_length
def cj (s:ByteArray):Nat→Nat
 |0=>0
 |1=>Lib.countByte s.data.toList 10
 |2=>Lib.countByte s.data.toList 10+Lib.countByte s.data.toList 9
 |_=>Lib.countByte s.data.toList 10+Lib.countByte s.data.toList 9+Lib.countByte s.data.toList 92
theorem U5 (s:ByteArray)(j:Nat):cj s j≤3*s.size:=by
 have h1:=count_le s.data.toList 10;have h2:=count_le s.data.toList 9;have h3:=count_le s.data.toList 92;rw[bV]at h1 h2 h3
 match j with
 |0=>simp[cj]
 |1=>simp only[cj];omega
 |2=>simp only[cj];omega
 |j+3=>simp only[cj];omega
theorem X6 (p:Nat)(s:ByteArray)(w:World)(hR:Rt p w)(hs:s.size≤17592186044416):
  Calls Tryz.prog 312 #[.pointer (some ⟨p,0,none⟩),.string s] w fun e w'=>e= .returned (.string (esc s))∧Below w.heap.size w w':=by
 have HR:=zM hR;obtain⟨E,hE⟩:∃E:Nat,(kS (bytesOf s)).length=E:=⟨_,rfl⟩;have HE:=zM hE;have HS:=zM hs;obtain⟨t,c,l0,l1,l2,l3⟩:=hR.list;have HL:=zM (zA l1 (zA l2 l3));clear hR hE l1 l2 l3 hs;have kn:=fun(a:Option Addr) (n c:Nat) (W:World)=>run_neq_slice_nil_any (P:=Tryz.prog) W 50 5 a n c 0 0 Tryz.underlying50
 have k3:∀(a:UInt8) (h:0<ByteArray.size ⟨#[a]⟩),(ByteArray.mk #[a])[0]'h=a:=fun _ _=>rfl
 have k1:=sz1;go_enter Tryz.func312,Tryz.ntmps312;go_upto_if 26 with(fail);go_cut [5,6] (fun v5 v6 wc=>∃b,v5= .int .i64 (E:Int)∧v6= .bool b∧Aside0 ((b=true↔s.size<E)∧Below w.heap.size w wc))
 case first=>
  by_cases h24:24≤s.size
  ·rw[show decide ((24:Int)≤(s.size:Int))=true from decide_eq_true (by omega)];clear h24;go_wp2_with fail;go_loopg [5,6,32] 3 (fun kq v5 v6 v32 W=>∃(j:Nat) (b:Bool),v32= .int .i64 (j:Int)∧v5= .int .i64 ((s.size+cj s j:Nat):Int)∧v6= .bool b∧Aside0 (j≤3∧3≤j+kq∧(b=true↔0<cj s j)∧Below w.heap.size w W))
   case atStart=>exact⟨0,false,rfl,rfl,rfl,⟨by omega,by omega,by simp[cj],Below.refl _ _⟩⟩
   case round=>
    obtain⟨j,b,rfl,rfl,rfl,HJ⟩:=hrel;have Y2:=zM (HR.out.below HJ.out.2.2.2);have HLr:=zM (zA (cell_later HJ.out.2.2.2 HL.out.1) (zA (cell_later HJ.out.2.2.2 HL.out.2.1) (cell_later HJ.out.2.2.2 HL.out.2.2)));rcases(show j=0∨j=1∨j=2∨j=3 from by have:=HJ.out.1;omega)with rfl|rfl|rfl|rfl
    ·obtain⟨n,hn⟩:∃n,Lib.countByte s.data.toList 10=n:=⟨_,rfl⟩;obtain⟨m,hm⟩:∃m,cj s 0=m:=⟨_,rfl⟩;have hm1:cj s 1=m+n:=by rw[←hm,←hn];simp only[cj];try omega
     have hml:m+n≤3*s.size:=by rw[←hm1];exact U5 s _
     have HN:=zM (zA hn (zA hm (zA hm1 hml)));have ct:wr.cell? ⟨t,0,none⟩=some (.string ⟨#[10]⟩):=HLr.out.1;obtain⟨b1,c1,cb,_⟩:=Y2.out.two 10 (by decide);rw[hm];clear hn hm hm1 hml;go_wp2_with fail;refine(xx s 10 _).mono ?_;rintro e w' ⟨rfl,rfl⟩;rw[HN.out.1];obtain⟨wP,rfl⟩:∃k1,gk=k1+1:=⟨gk- 1,by have:=HJ.out.2.1;omega⟩
     by_cases h0:n=0
     ·subst h0;have h00:(((0:Nat):Int) !=0)=false:=rfl;go_wp2_with fail;go_roundg wP
      case measure=>omega
      case rel=>
       have e:=HN.out.2.2.1;have em:=HN.out.2.1;refine⟨1,b,by go_num,by rw[e];rfl,rfl,⟨by omega,by have:=HJ.out.2.1;omega,?_,HJ.out.2.2.2⟩⟩;have hb:=HJ.out.2.2.1;rw[e];rw[em]at hb;exact hb
     ·have h00:((n:Int) !=0)=true:=bne_iff_ne.mpr (by omega);have e1:IntKind.i64.wrap ((n:Int)*1)=(n:Int):=by rw[dL,fD (by omega) (by have:=HN.out.2.2.2;have:=HS.out;omega)];omega
      have e2:IntKind.i64.wrap (((s.size+m:Nat):Int)+(n:Int))=((s.size+(m+n):Nat):Int):=by rw[dL,fD (by omega) (by have:=HN.out.2.2.2;have:=HS.out;omega)];omega
      have HZ:=zM h0;clear h0;go_wp2_with fail;go_quiet (fail);go_wp2_with fail;go_roundg wP
      case measure=>omega
      case rel=>
       have hnn:=HN.out;have hss:=HS.out;refine⟨1,true,by go_num,?_,rfl,⟨by omega,by have:=HJ.out.2.1;omega,?_,ai HJ.out.2.2.2 _⟩⟩
       ·have hw1:wrap64 (n:Int)=(n:Int):=fD (by omega) (by omega);have hw2:wrap64 ((s.size:Int)+(m:Int)+(n:Int))=(s.size:Int)+(m:Int)+(n:Int):=fD (by omega) (by omega);rw[hw1,hw2,hnn.2.2.1];exact congrArg (Value.int .i64) (by omega)
       ·rw[hnn.2.2.1];have:=HZ.out;exact⟨fun _=>by omega,fun _=>rfl⟩
    ·obtain⟨n,hn⟩:∃n,Lib.countByte s.data.toList 9=n:=⟨_,rfl⟩;obtain⟨m,hm⟩:∃m,cj s 1=m:=⟨_,rfl⟩;have hm1:cj s 2=m+n:=by rw[←hm,←hn];simp only[cj];try omega
     have hml:m+n≤3*s.size:=by rw[←hm1];exact U5 s _
     have HN:=zM (zA hn (zA hm (zA hm1 hml)));have ct:wr.cell? ⟨t,1,none⟩=some (.string ⟨#[9]⟩):=HLr.out.2.1;obtain⟨b1,c1,cb,_⟩:=Y2.out.two 9 (by decide);rw[hm];clear hn hm hm1 hml;go_wp2_with fail;refine(xx s 9 _).mono ?_;rintro e w' ⟨rfl,rfl⟩;rw[HN.out.1];obtain⟨wP,rfl⟩:∃k1,gk=k1+1:=⟨gk- 1,by have:=HJ.out.2.1;omega⟩
     by_cases h0:n=0
     ·subst h0;have h00:(((0:Nat):Int) !=0)=false:=rfl;go_wp2_with fail;go_roundg wP
      case measure=>omega
      case rel=>
       have e:=HN.out.2.2.1;have em:=HN.out.2.1;refine⟨2,b,by go_num,by rw[e];rfl,rfl,⟨by omega,by have:=HJ.out.2.1;omega,?_,HJ.out.2.2.2⟩⟩;have hb:=HJ.out.2.2.1;rw[e];rw[em]at hb;exact hb
     ·have h00:((n:Int) !=0)=true:=bne_iff_ne.mpr (by omega);have e1:IntKind.i64.wrap ((n:Int)*1)=(n:Int):=by rw[dL,fD (by omega) (by have:=HN.out.2.2.2;have:=HS.out;omega)];omega
      have e2:IntKind.i64.wrap (((s.size+m:Nat):Int)+(n:Int))=((s.size+(m+n):Nat):Int):=by rw[dL,fD (by omega) (by have:=HN.out.2.2.2;have:=HS.out;omega)];omega
      have HZ:=zM h0;clear h0;go_wp2_with fail;go_quiet (fail);go_wp2_with fail;go_roundg wP
      case measure=>omega
      case rel=>
       have hnn:=HN.out;have hss:=HS.out;refine⟨2,true,by go_num,?_,rfl,⟨by omega,by have:=HJ.out.2.1;omega,?_,ai HJ.out.2.2.2 _⟩⟩
       ·have hw1:wrap64 (n:Int)=(n:Int):=fD (by omega) (by omega);have hw2:wrap64 ((s.size:Int)+(m:Int)+(n:Int))=(s.size:Int)+(m:Int)+(n:Int):=fD (by omega) (by omega);rw[hw1,hw2,hnn.2.2.1];exact congrArg (Value.int .i64) (by omega)
       ·rw[hnn.2.2.1];have:=HZ.out;exact⟨fun _=>by omega,fun _=>rfl⟩
    ·obtain⟨n,hn⟩:∃n,Lib.countByte s.data.toList 92=n:=⟨_,rfl⟩;obtain⟨m,hm⟩:∃m,cj s 2=m:=⟨_,rfl⟩;have hm1:cj s 3=m+n:=by rw[←hm,←hn];simp only[cj];try omega
     have hml:m+n≤3*s.size:=by rw[←hm1];exact U5 s _
     have HN:=zM (zA hn (zA hm (zA hm1 hml)));have ct:wr.cell? ⟨t,2,none⟩=some (.string ⟨#[92]⟩):=HLr.out.2.2;obtain⟨b1,c1,cb,_⟩:=Y2.out.two 92 (by decide);rw[hm];clear hn hm hm1 hml;go_wp2_with fail;refine(xx s 92 _).mono ?_;rintro e w' ⟨rfl,rfl⟩;rw[HN.out.1];obtain⟨wP,rfl⟩:∃k1,gk=k1+1:=⟨gk- 1,by have:=HJ.out.2.1;omega⟩
     by_cases h0:n=0
     ·subst h0;have h00:(((0:Nat):Int) !=0)=false:=rfl;go_wp2_with fail;go_roundg wP
      case measure=>omega
      case rel=>
       have e:=HN.out.2.2.1;have em:=HN.out.2.1;refine⟨3,b,by go_num,by rw[e];rfl,rfl,⟨by omega,by have:=HJ.out.2.1;omega,?_,HJ.out.2.2.2⟩⟩;have hb:=HJ.out.2.2.1;rw[e];rw[em]at hb;exact hb
     ·have h00:((n:Int) !=0)=true:=bne_iff_ne.mpr (by omega);have e1:IntKind.i64.wrap ((n:Int)*1)=(n:Int):=by rw[dL,fD (by omega) (by have:=HN.out.2.2.2;have:=HS.out;omega)];omega
      have e2:IntKind.i64.wrap (((s.size+m:Nat):Int)+(n:Int))=((s.size+(m+n):Nat):Int):=by rw[dL,fD (by omega) (by have:=HN.out.2.2.2;have:=HS.out;omega)];omega
      have HZ:=zM h0;clear h0;go_wp2_with fail;go_quiet (fail);go_wp2_with fail;go_roundg wP
      case measure=>omega
      case rel=>
       have hnn:=HN.out;have hss:=HS.out;refine⟨3,true,by go_num,?_,rfl,⟨by omega,by have:=HJ.out.2.1;omega,?_,ai HJ.out.2.2.2 _⟩⟩
       ·have hw1:wrap64 (n:Int)=(n:Int):=fD (by omega) (by omega);have hw2:wrap64 ((s.size:Int)+(m:Int)+(n:Int))=(s.size:Int)+(m:Int)+(n:Int):=fD (by omega) (by omega);rw[hw1,hw2,hnn.2.2.1];exact congrArg (Value.int .i64) (by omega)
       ·rw[hnn.2.2.1];have:=HZ.out;exact⟨fun _=>by omega,fun _=>rfl⟩
    ·go_wp2_with fail;go_meet
     case rel=>
      refine⟨b,?_,rfl,⟨?_,HJ.out.2.2.2⟩⟩
      ·have hE:=Gj s;rw[HE.out]at hE;rw[hE];exact congrArg (Value.int .i64) (by simp only[cj];omega)
      ·have hE:=Gj s;rw[HE.out]at hE;have hb:=HJ.out.2.2.1;simp only[cj]at hb;rw[hb];omega
  ·rw[show decide ((24:Int)≤(s.size:Int))=false from decide_eq_false (by omega)];clear h24;go_wp2_with fail;go_loopg [5,6,10] s.size (fun kq v5 v6 v10 W=>∃(i:Nat) (b:Bool) (m:Nat),v10= .int .i64 (i:Int)∧v5= .int .i64 ((s.size+m:Nat):Int)∧v6= .bool b∧Aside0 (i≤s.size∧s.size≤i+kq∧(kS ((bytesOf s).take i)).length=i+m∧(b=true↔0<m)∧Below w.heap.size w W))
   case atStart=>exact⟨0,false,0,rfl,rfl,rfl,⟨by omega,by omega,by simp[kS],by simp,Below.refl _ _⟩⟩
   case round=>
    obtain⟨i,b,m,rfl,rfl,rfl,HJ⟩:=hrel;have Y2:=zM (HR.out.below HJ.out.2.2.2.2)
    have hml:m≤s.size:=by
     have h1:=(uA ((bytesOf s).take i)).2;have h2:((bytesOf s).take i).length≤i:=List.length_take_le _ _;have:=HJ.out.1;have:=HJ.out.2.2.1;omega
    have HM:=zM hml;clear hml
    by_cases hi:i<s.size
    ·obtain⟨x,hx0⟩:∃x,bt s (i:Int)=x:=⟨_,rfl⟩;have hxr:=yA s (i:Int);have hx:∀h:i<s.size,((s[i]'h).toNat:Int)=x:=by rw[←hx0];exact dQ s (i:Int)
     have hstep:=Gi s i hi;rw[hx0]at hxr hstep;obtain⟨xn,Na⟩:∃xn:Nat,x=(xn:Int):=⟨x.toNat,by omega⟩;subst Na;have HX:=zM (zA hi (zA hxr (zA hstep hx0)));have hi1:=eq_true hi;have hb1:=eq_true (show(xn:Int)<256 by omega);have hb2:=eq_true (show xn<256 by omega);obtain⟨wP,rfl⟩:∃k1,gk=k1+1:=⟨gk- 1,by have:=HJ.out.2.1;omega⟩;clear hi hxr hstep hx0
     by_cases hsp:xn∈[10,9,92]
     ·obtain⟨b1,c1,cb,_⟩:=Y2.out.two xn hsp;have Hz:=zM hsp;clear hsp;go_wp2_with fail;go_roundg wP
      case measure=>omega
      case rel=>
       have h2:(l7 (xn:Int)).length=2:=DU (by have:=Hz.out;simp at this;omega);refine⟨i+1,true,m+1,congrArg (Value.int .i64) (by rw[fD (by omega) (by have:=HX.out.1;have:=HS.out;omega)];omega),?_,rfl,⟨by have:=HX.out.1;omega,by have:=HJ.out.2.1;omega,?_,by simp,HJ.out.2.2.2.2⟩⟩
       ·have:=HM.out;have:=HS.out;have hw:∀y:Int,y=((s.size+m:Nat):Int)+1→wrap64 y=((s.size+(m+1):Nat):Int):=fun y hy=>by rw[fD (by omega) (by omega)];omega
        first|exact congrArg (Value.int .i64) (hw _ (by omega))|exact congrArg (Value.int .i64) (by omega)
       ·rw[HX.out.2.2.1,List.length_append,h2,HJ.out.2.2.1];omega
     ·have cb:=Y2.out.nil xn (by have:=HX.out.2.1;omega) hsp;have Hz:=zM hsp;clear hsp;go_wp2_with fail;go_roundg wP
      case measure=>omega
      case rel=>
       have h2:(l7 (xn:Int)).length=1:=by
        have:=Hz.out;simp at this;rw[rZ (by omega) (by omega) (by omega)];rfl
       refine⟨i+1,b,m,congrArg (Value.int .i64) (by rw[fD (by omega) (by have:=HX.out.1;have:=HS.out;omega)];omega),rfl,rfl,⟨by have:=HX.out.1;omega,by have:=HJ.out.2.1;omega,?_,HJ.out.2.2.2.1,HJ.out.2.2.2.2⟩⟩;rw[HX.out.2.2.1,List.length_append,h2,HJ.out.2.2.1];omega
    ·have hi1:=eq_false hi;have HI:=zM hi;have hi2:decide ((i:Int)<(s.size:Int))=false:=decide_eq_false (by omega);clear hi;go_wp2_with fail;go_meet
     case rel=>
      have he:i=s.size:=by have:=HJ.out.1;have:=HI.out;omega
      have h3:=HJ.out.2.2.1;rw[List.take_of_length_le (by rw[bytesOf_length];omega),HE.out,he]at h3;refine⟨b,by rw[h3],rfl,⟨?_,HJ.out.2.2.2.2⟩⟩;rw[HJ.out.2.2.2.1,h3];omega
 case rest=>
  obtain⟨b,rfl,rfl,HB⟩:=hcut;have HRc:=zM (HR.out.below HB.out.2);cases b with
  |false=>
   go_wp2_with fail;go_ret;have h1:=(uA (bytesOf s)).1;rw[HE.out,bytesOf_length]at h1;have h2:=HB.out.1;have h3:¬s.size<E:=fun h=>absurd (h2.2 h) (by decide)
   exact⟨by rw[Vu (by rw[HE.out];omega)];rfl,HB.out.2⟩
  |true=>
   have hE2:E≤2*s.size:=by
    have h1:=(uA (bytesOf s)).2;rw[HE.out,bytesOf_length]at h1;exact h1
   have HE2:=zM hE2;have hmk:=pX (P:=Tryz.prog) 50 5 .u8 1 Tryz.underlying50 info5 (by decide) E (by have:=HS.out;omega);obtain⟨W0,hW0⟩:∃W0,wc.alloc (.cells (madeCells #[.int .u8 0] E) 5)=W0:=⟨_,rfl⟩;have hbf:=Bf.start wc E;have hbc:Below wc.heap.size wc W0:=by rw[←hW0];exact ag (Below.refl _ _) _
   have ahf:(Instr.makeSlice 50 (.int .i64 (E:Int)) (.int .i64 (E:Int))).run Tryz.prog wc= .ok (.slice (some ⟨wc.heap.size,0,none⟩) E E) W0:=by rw[hmk wc,hW0]
   rw[hW0]at hbf;obtain⟨q,hq⟩:∃q,wc.heap.size=q:=⟨_,rfl⟩;rw[hq]at hbf ahf;have HQ:=zM hq;have HB0:=zM (zA hbf (zA hbc HB.out.2));clear hmk hW0 hbf hbc hE2 HB HR l0 HL hq;go_wp2_with fail;clear ahf;go_loopg [13,14] s.size (fun kq v13 v14 W=>∃(i j:Nat),v14= .int .i64 (i:Int)∧v13= .int .i64 (j:Int)∧Aside0 (i≤s.size∧s.size≤i+kq∧(kS ((bytesOf s).take i)).length=j∧Bf W q E (kS ((bytesOf s).take i))∧Below wc.heap.size wc W))
   case atStart=>exact⟨0,0,rfl,rfl,⟨by omega,by omega,rfl,HB0.out.1,HB0.out.2.1⟩⟩
   case round=>
    obtain⟨i,j,rfl,rfl,HJ⟩:=hrel;have Y2:=zM (HRc.out.below HJ.out.2.2.2.2)
    by_cases hi:i<s.size
    ·obtain⟨x,hx0⟩:∃x,bt s (i:Int)=x:=⟨_,rfl⟩;have hxr:=yA s (i:Int);have hx:∀h:i<s.size,((s[i]'h).toNat:Int)=x:=by rw[←hx0];exact dQ s (i:Int)
     have hstep:=Gi s i hi
     have htot:(kS ((bytesOf s).take (i+1))).length≤E:=by
      rw[←HE.out]
      conv=>rhs;rw[←List.take_append_drop (i+1) (bytesOf s),Bg,List.length_append]
      omega
     rw[hx0]at hxr hstep;obtain⟨xn,Na⟩:∃xn:Nat,x=(xn:Int):=⟨x.toNat,by omega⟩;subst Na;have HX:=zM (zA hi (zA hxr (zA hstep htot)));have hi1:=eq_true hi;have hb1:=eq_true (show(xn:Int)<256 by omega);have hb2:=eq_true (show xn<256 by omega);obtain⟨wP,rfl⟩:∃k1,gk=k1+1:=⟨gk- 1,by have:=HJ.out.2.1;omega⟩;clear hi hxr hx0
     by_cases hsp:xn∈[10,9,92]
     ·obtain⟨b1,c1,cb,hby⟩:=Y2.out.two xn hsp;have h2:(l7 (xn:Int)).length=2:=DU (by simp at hsp;omega);have hj2:j+2≤E:=by rw[hstep,List.length_append,h2,HJ.out.2.2.1]at htot;exact htot
      have Hz:=zM (zA hsp (zA hby (zA h2 hj2)));clear hsp hby h2 hj2 hstep htot;go_wp2_with fail;have hne:¬E=j:=by have:=Hz.out.2.2.2;omega
      obtain⟨i05,ahb,_,hsz5,_⟩:=info_parts info5;have hcut:=JX (P:=Tryz.prog) 50 5 .i64 Tryz.underlying50 ahb 1 hsz5 (some ⟨q,0,none⟩) E E (j:Int) (by omega) (by have:=Hz.out.2.2.2;omega);have hadd:(⟨q,0,none⟩:Addr).add (j*1)=⟨q,j,none⟩:=by rw[Nat.mul_one];exact add_plain q j
      simp only[Int.toNat_natCast,if_neg hne,Option.map_some,hadd]at hcut;have hjb:=HJ.out.2.2.1;obtain⟨W2,hc2,ah3,hbw2⟩:=Bf.Ye (W:=wr.drew) (l2:=l7 (xn:Int)) HJ.out.2.2.2.1 (by rw[hjb,Hz.out.2.2.1];exact Hz.out.2.2.2) b1 c1 2 Hz.out.2.2.1.symm Hz.out.2.1 (E- j) (E- j) (by rw[hjb]) 3;rw[hjb]at hc2;have HC:=zM (zA ah3 (hbw2 wc.heap.size wc (Nat.le_of_eq HQ.out) (dB HJ.out.2.2.2.2)));have hqj:0≤(j:Int)∧(j:Int)≤(E:Int):=by have:=Hz.out.2.2.2;omega
      have hq1:=eq_true hqj.1;have hq2:=eq_true hqj.2;clear ahb hsz5 hadd hjb ah3 hbw2 hne hqj;go_region;clear hc2;go_wp2_with fail;go_roundg wP
      case measure=>omega
      case rel=>
       have hEb:=HE2.out;have hsb:=HS.out;have hjE:=Hz.out.2.2.2;refine⟨i+1,j+2,congrArg (Value.int .i64) (by rw[fD (by omega) (by have:=HX.out.1;omega)];omega),congrArg (Value.int .i64) (by rw[fD (by omega) (by omega)];omega),⟨by have:=HX.out.1;omega,by have:=HJ.out.2.1;omega,?_,?_,HC.out.2⟩⟩
       ·rw[HX.out.2.2.1,List.length_append,Hz.out.2.2.1,HJ.out.2.2.1]
       ·rw[HX.out.2.2.1];exact HC.out.1
     ·have cb:=Y2.out.nil xn (by have:=HX.out.2.1;omega) hsp
      have h2:(l7 (xn:Int))=[(xn:Int)]:=by
       simp at hsp;exact rZ (by omega) (by omega) (by omega)
      have hj2:j<E:=by rw[hstep,List.length_append,h2,HJ.out.2.2.1]at htot;simp at htot;omega
      have hjb:=HJ.out.2.2.1;obtain⟨v0,g1,g2⟩:=HJ.out.2.2.2.1.at_ j hj2;have hst:=HJ.out.2.2.2.1.store (by rw[hjb];exact hj2) (xn:Int);rw[hjb]at hst;have hqe:=eq_true hj2;have asg:=eq_true (show(j:Int)<(E:Int)by omega);obtain⟨W2,hW2⟩:∃W2,wr.setCell ⟨q,j,none⟩ (.int .u8 (xn:Int))=W2:=⟨_,rfl⟩;rw[hW2]at hst;have hbl:Below wc.heap.size wc W2:=by rw[←hW2];exact Below.setCell (p:=⟨q,j,none⟩) HJ.out.2.2.2.2 (Nat.le_of_eq HQ.out) _
      have Hz:=zM (zA h2 (zA hst (zA hbl hj2)));clear h2 hj2 hjb hst hbl hsp hstep htot;go_wp2_with fail;go_roundg wP
      case measure=>omega
      case rel=>
       have hEb:=HE2.out;have hsb:=HS.out;have hjE:=Hz.out.2.2.2;refine⟨i+1,j+1,congrArg (Value.int .i64) (by rw[fD (by omega) (by have:=HX.out.1;omega)];omega),congrArg (Value.int .i64) (by rw[fD (by omega) (by omega)];omega),⟨by have:=HX.out.1;omega,by have:=HJ.out.2.1;omega,?_,?_,Hz.out.2.2.1⟩⟩
       ·rw[HX.out.2.2.1,Hz.out.1,List.length_append,HJ.out.2.2.1];rfl
       ·rw[HX.out.2.2.1,Hz.out.1];exact Hz.out.2.1
    ·have hi1:=eq_false hi;have HI:=zM hi;have hi2:decide ((i:Int)<(s.size:Int))=false:=decide_eq_false (by omega);have he:(bytesOf s).take i=bytesOf s:=List.take_of_length_le (by rw[bytesOf_length];omega);have hbf:=HJ.out.2.2.2.1;rw[he]at hbf;have hcv:=hbf.conv HE.out;have HBE:=zM (ah HB0.out.2.2 HB0.out.2.2.size HJ.out.2.2.2.2);clear hi he hbf;go_wp2_with fail;go_ret;exact⟨rfl,HBE.out⟩
theorem Rp.rt {g p:Nat}{W:World}(h:Rp g (.iface 259 (.pointer (some ⟨p,0,none⟩))) W):Rt p W:=by
 obtain⟨p',hp,_,C,h1,h2,h3,t,c,h4,h5,h6⟩:=h
 have hpp:p=p':=by
  injection hp with _ hp;injection hp with hp;injection hp with hp;injection hp with hp
 subst hpp;refine⟨C,h1,h2,fun o ho=>?_,t,c,h4,h6⟩;obtain⟨b,c',e1,_,e3⟩:=h3 o ho;exact⟨b,c',e1,e3⟩
theorem Eg (a:Addr)(w:World):(Go.method 490 259 (.pointer (some a)) "Replace").run Tryz.prog w= .ok (312,.pointer (some a)) w:=by kernel_rfl
theorem ES (a:Addr)(w:World):(Go.nilAhead 490 259 (.pointer (some a)) "Replace").run Tryz.prog w= .ok (some false) w:=by kernel_rfl
theorem Jj (g b c:Nat)(s:ByteArray)(w:World)(hb:w.heap[g]?=some (Once.ob 0 0 .nilIface (.slice (some ⟨b,0,none⟩) 6 c)))(h6:Six w b)(hbg:b≠g)(hs:s.size≤17592186044416):
  Calls Tryz.prog 55 #[.pointer (some ⟨g,0,none⟩),.string s] w fun e W'=>e= .returned (.string (esc s))∧gm (fun k=>k=g) w W':=by
 have HH:=zM (zA hb (zA h6 (zA hbg hs)))
 have hbuild:Once.Nk g w (.slice (some ⟨b,0,none⟩) 6 c) (Rp g):=by
  intro W hc hW;refine Sz g b c W hW ?_
  have hbl:∀j v,w.cell? ⟨b,j,none⟩=some v→W.cell? ⟨b,j,none⟩=some v:=by
   intro j v hv;have hlt:b<w.heap.size:=World.block_lt_of_cell? _ _ hv;have e:=hc.block b hlt hbg;unfold World.cell? at hv⊢;rw[e];exact hv
  obtain⟨q0,q1,q2,q3,q4,q5⟩:=h6;exact⟨hbl _ _ q0,hbl _ _ q1,hbl _ _ q2,hbl _ _ q3,hbl _ _ q4,hbl _ _ q5⟩
 have HBu:=zM hbuild;clear hb h6 hbg hs hbuild;have m1:=Eg;have m2:=ES;go_enter Tryz.func55,Tryz.ntmps55;go_wp2_with fail;refine(Once.Zn g w _ (Rp g) HH.out.1 (Md g) HBu.out).mono ?_;rintro e w1 ⟨rfl,r,o',hb1,hr,hc⟩;obtain⟨p,rfl,_⟩:=id hr;unfold Once.ob at hb1;have c3:w1.cell? ⟨g,3,none⟩=some (.iface 259 (.pointer (some ⟨p,0,none⟩))):=(aj hb1 3).trans rfl;have HR:=zM (zA hr.rt hc);clear hb1 hr hc;go_wp2_with fail;refine(X6 p s _ HR.out.1 HH.out.2.2.2).mono ?_;rintro e w2 ⟨rfl,hb2⟩;have HF:=zM (HR.out.2.PN hb2);clear hb2;go_wp2_with fail;go_ret;exact⟨rfl,HF.out⟩
theorem aar (w:World):Kd.string.C (w.alloc (.cells #[.string ⟨#[92]⟩,.string ⟨#[92,92]⟩,.string ⟨#[9]⟩,.string ⟨#[92,116]⟩,.string ⟨#[10]⟩,.string ⟨#[92,110]⟩] 9)) (some ⟨w.heap.size,0,none⟩) 6 six:=by
 have h:=xM (enc:=Value.string) w w.heap.size 9 six (Nat.le_refl _) (by decide);have hR:Kd.string.R 9 (w.alloc (.cells (encs Value.string six).toArray 9)) w.heap.size (fun _=>True) (.slice (some ⟨w.heap.size,0,none⟩) 6 6) six:=Kd.iR h (fun _ _=>trivial);obtain⟨A,c,he,_,hC⟩:=Kd.jE hR;injection he with e1 e2 e3;subst e1;exact hC
end Rep
theorem qR (s:ByteArray)(w:World)(hs:s.size≤17592186044416):
  Calls Tryz.prog 23 #[.string s] w fun e w'=>e= .returned (.string (esc s))∧Below w.heap.size w w':=by
 have HS:=zM hs;have H6:=zM (Rep.aar w);clear hs;go_enter Tryz.func23,Tryz.ntmps23;go_wp2_with fail;refine(Rep.zZ _ _ _ H6.out).mono ?_;rintro e w1 ⟨g,b,c',rfl,h1,h2,h3,h4,h5⟩;have HN:=zM (zA h1 (zA h2 (zA h3 (zA h4 h5))));clear h1 h2 h3 h4 h5;go_wp2_with fail;refine(Rep.Jj g b c' s _ HN.out.1 HN.out.2.2.1 HN.out.2.1 HS.out).mono ?_;rintro e w2 ⟨rfl,hc⟩;have HF:=zM hc;clear hc;go_wp2_with fail;go_ret;refine⟨rfl,?_⟩;have hb0:Below w.heap.size w w1:=ah (ag (Below.refl w.heap.size w) _) (by simp) HN.out.2.2.2.2;have hg:=HN.out.2.2.2.1;have hgw:w.heap.size≤g:=by simp at hg;omega
 refine⟨HF.out.os.trans hb0.os,HF.out.tape.trans hb0.tape,HF.out.output.trans hb0.output,Nat.le_trans hb0.size HF.out.size,fun i hi=>?_⟩;exact(HF.out.block i (Nat.lt_of_lt_of_le hi hb0.size) (by omega)).trans (hb0.block i hi)
attribute [local go_sem] max2_int min2_int max_two min_two max_three min_three max_four min_four
def yH (n:Int):Value:=if n=0 then Value.nilIface else .iface 83 (.agg #[.int .i64 n])
theorem Kz (x:iU)(A:Option Addr)(c:Nat)(w:World):Calls Tryz.prog 20 #[EV x A c] w fun e w'=>e= .returned (yH (iK x))∧Below w.heap.size w w':=by
 have oV:=zM (ag (Below.refl w.heap.size w) (.cells #[.int .i64 x.f0,.string x.f1,.string x.f2.f0,.string x.f2.f1,.string x.f3.f0,.string x.f3.f1,.string x.f4,.int .i64 x.f5,.slice A x.f6.length c,.int .i64 x.f7,.bool x.f8] 41))
 by_cases c0:x.f0<1
 ·have d0:=zT c0;have HX:=zM (fG (x:=x) (fun h=>by unfold Bounds at h;omega));clear c0;go_enter Tryz.func20,Tryz.ntmps20;unfold EV;go_wp2_with fail;go_ret;exact⟨by rw[HX.out];rfl,oV.out⟩
 ·have d0:=zF c0
  by_cases c1:4096<x.f0
  ·have d1:=zT c1;have HX:=zM (fG (x:=x) (fun h=>by unfold Bounds at h;omega));clear c0 c1;go_enter Tryz.func20,Tryz.ntmps20;unfold EV;go_wp2_with fail;go_ret;exact⟨by rw[HX.out];rfl,oV.out⟩
  ·have d1:=zF c1
   by_cases c2:x.f7<0
   ·have d2:=zT c2;have HX:=zM (fG (x:=x) (fun h=>by unfold Bounds at h;omega));clear c0 c1 c2;go_enter Tryz.func20,Tryz.ntmps20;unfold EV;go_wp2_with fail;go_ret;exact⟨by rw[HX.out];rfl,oV.out⟩
   ·have d2:=zF c2
    by_cases c3:4096<x.f7
    ·have d3:=zT c3;have HX:=zM (fG (x:=x) (fun h=>by unfold Bounds at h;omega));clear c0 c1 c2 c3;go_enter Tryz.func20,Tryz.ntmps20;unfold EV;go_wp2_with fail;go_ret;exact⟨by rw[HX.out];rfl,oV.out⟩
    ·have d3:=zF c3
     by_cases c4:x.f5<0
     ·have d4:=zT c4;have HX:=zM (fG (x:=x) (fun h=>by unfold Bounds at h;omega));clear c0 c1 c2 c3 c4;go_enter Tryz.func20,Tryz.ntmps20;unfold EV;go_wp2_with fail;go_ret;exact⟨by rw[HX.out];rfl,oV.out⟩
     ·have d4:=zF c4
      by_cases c5:1000000<x.f5
      ·have d5:=zT c5;have HX:=zM (fG (x:=x) (fun h=>by unfold Bounds at h;omega));clear c0 c1 c2 c3 c4 c5;go_enter Tryz.func20,Tryz.ntmps20;unfold EV;go_wp2_with fail;go_ret;exact⟨by rw[HX.out];rfl,oV.out⟩
      ·have d5:=zF c5;have HB:=zM (show Bounds x by unfold Bounds;omega);clear c0 c1 c2 c3 c4 c5;go_enter Tryz.func20,Tryz.ntmps20;unfold EV;go_wp2_with fail;refine(xW x.f2.f0 x.f2.f1 _).mono ?_;rintro e w1 ⟨b1,rfl,h1,h2⟩;have g4:=cell_later (a:=⟨w.heap.size,4,none⟩) (v:= .string x.f3.f0) h2 (by simp);have g5:=cell_later (a:=⟨w.heap.size,5,none⟩) (v:= .string x.f3.f1) h2 (by simp);have g8:=cell_later (a:=⟨w.heap.size,8,none⟩) (v:= .slice A x.f6.length c) h2 (by simp);have H1:=zM (zA h1 (ah oV.out (by simp) h2));clear h1 h2;cases b1 with
       |false=>
        go_wp2_with fail;go_ret;exact⟨by rw[lG HB.out (fun h=>absurd (H1.out.1.2 h.1) (by simp))];rfl,H1.out.2⟩
       |true=>
        go_wp2_with fail;refine(xW x.f3.f0 x.f3.f1 _).mono ?_;rintro e w2 ⟨b2,rfl,h1,h2⟩;have k4:=cell_later h2 g4;have k8:=cell_later h2 g8;have H2:=zM (zA h1 (ah H1.out.2 H1.out.2.size h2));clear h1 h2 g4 g5 g8;cases b2 with
        |false=>
         go_wp2_with fail;go_ret;exact⟨by rw[lG HB.out (fun h=>absurd (H2.out.1.2 h.2) (by simp))];rfl,H2.out.2⟩
        |true=>
         have HR:=zM (zA (H1.out.1.1 (by first|rfl|trivial)) (H2.out.1.1 (by first|rfl|trivial)));have hp:=HR.out.2.pos;have q0:=eq_true hp;have hx:∀h:0<x.f3.f0.size,((x.f3.f0[0]'h).toNat:Int)=bt x.f3.f0 0:=dQ x.f3.f0 0
         by_cases hm:bt x.f3.f0 0=45
         ·have h45:((bt x.f3.f0 0)==45)=true:=beq_iff_eq.mpr hm;have HM:=zM (show minus x.f3.f0=true by unfold minus;exact decide_eq_true ⟨hp,hm⟩);clear hm hp;go_wp2_with fail;go_ret;exact⟨by rw[rQ HB.out HR.out HM.out];rfl,H2.out.2⟩
         ·have h45:((bt x.f3.f0 0)==45)=false:=beq_eq_false_iff_ne.mpr hm;have HM:=zM (show¬minus x.f3.f0=true by unfold minus;exact fun h=>hm (of_decide_eq_true h).2);clear hm hp
          by_cases hl:8<x.f6.length
          ·have l1:=zT hl;have l2:decide (8<(x.f6.length:Int))=true:=decide_eq_true (by omega);have HL:=zM hl;clear hl;go_wp2_with fail;go_ret;exact⟨by rw[uZ HB.out HR.out HM.out HL.out];rfl,H2.out.2⟩
          ·have l1:=zF hl;have l2:decide (8<(x.f6.length:Int))=false:=decide_eq_false (by omega);have HL:=zM hl;clear hl;go_wp2_with fail;go_ret;exact⟨by rw[CQ HB.out HR.out HM.out HL.out];rfl,H2.out.2⟩
def Ib (x y:Int)(n d:ByteArray):Prop:=Canon n∧Canon d∧dv n*ja x y=x∧dv d*ja x y=y
theorem o8:∀{xs:List Int},Num xs→∀v,0≤v→0≤dec v xs
 | [],_,v,hv=>hv
 |c::cs,h,v,hv=>by
  have h1:=h c List.mem_cons_self;exact o8 (fun x hx=>h x (List.mem_cons_of_mem _ hx)) _ (by omega)
theorem fP {s:ByteArray}(h:Canon s):0≤dv s:=by
 unfold dv;exact o8 h.2.2 0 (Int.le_refl _)
structure Fm where
 neg:Bool
 m:ByteArray
 behind:Int
 exp:ByteArray
 down:Bool
 den:ByteArray
 Ce:Bool
 slash:Int
def qg (W:World)(g:Nat)(s:ByteArray)(i:Int)(bad:Bool)(f:Fm):Prop:=
 W.heap[g]?=some (.cells #[.string s,.int .i64 i,.bool bad,.bool f.neg,.string f.m,.int .i64 f.behind,.string f.exp,.bool f.down,.string f.den,.bool f.Ce,.int .i64 f.slash] 218 (0,0))
def isD (c:Int):Bool:=decide (48≤c∧c≤57)
def eG (s:ByteArray)(i:Nat):Nat:=i+(((bytesOf s).drop i).takeWhile isD).length
theorem lD (s:ByteArray)(i:Nat)(h:i≤s.size):eG s i≤s.size:=by
 unfold eG;have:=(List.takeWhile_sublist isD (l:=(bytesOf s).drop i)).length_le;rw[List.length_drop,bytesOf_length]at this;omega
theorem DT (s:ByteArray)(i:Nat)(h:i<s.size):(bytesOf s).drop i=bt s (i:Int)::(bytesOf s).drop (i+1):=by
 rw[List.drop_eq_getElem_cons (by rw[bytesOf_length];exact h)]
 congr 1
 have:=gW s i;rw[←this];simp[rd,List.getElem?_eq_getElem (show i<(bytesOf s).length by rw[bytesOf_length];exact h)]
theorem GV (s:ByteArray)(i:Nat)(h:i<s.size)(hd:isD (bt s (i:Int))=true):eG s i=eG s (i+1):=by
 unfold eG;rw[DT s i h,List.takeWhile_cons,if_pos hd,List.length_cons];omega
theorem o6 (s:ByteArray)(i:Nat)(h:s.size≤i∨isD (bt s (i:Int))=false):eG s i=i:=by
 unfold eG;rcases Nat.lt_or_ge i s.size with hl|hl
 ·rcases h with h|h
  ·omega
  ·rw[DT s i hl,List.takeWhile_cons,if_neg (by rw[h];decide)];rfl
 ·rw[List.drop_of_length_le (by rw[bytesOf_length];exact hl)];rfl
theorem qg.cells {W:World}{g:Nat}{s:ByteArray}{i:Int}{bad:Bool}{f:Fm}(h:qg W g s i bad f):
  W.cell? ⟨g,0,none⟩=some (.string s)∧W.cell? ⟨g,1,none⟩=some (.int .i64 i)∧W.cell? ⟨g,2,none⟩=some (.bool bad)∧W.frozen? ⟨g,1,none⟩=false∧W.frozen? ⟨g,2,none⟩=false:=
 ⟨(aj h 0).trans rfl,(aj h 1).trans rfl,(aj h 2).trans rfl,au h 1,au h 2⟩
theorem qg.at {W:World}{g:Nat}{s:ByteArray}{i:Int}{bad:Bool}{f:Fm}(h:qg W g s i bad f)(j:Int):qg (W.setCell ⟨g,1,none⟩ (.int .i64 j)) g s j bad f:=by
 have:=aN h 1 (.int .i64 j);simpa[qg]using this
theorem qg.bad {W:World}{g:Nat}{s:ByteArray}{i:Int}{bad:Bool}{f:Fm}(h:qg W g s i bad f)(b:Bool):qg (W.setCell ⟨g,2,none⟩ (.bool b)) g s i b f:=by
 have:=aN h 2 (.bool b);simpa[qg]using this
theorem qg.drewN {W:World}{g:Nat}{s:ByteArray}{i:Int}{bad:Bool}{f:Fm}(h:qg W g s i bad f)(n:Nat):qg (W.drewN n) g s i bad f:=h
theorem JZ (g:Nat)(s:ByteArray)(i:Nat)(bad:Bool)(f:Fm)(w:World)(h:qg w g s (i:Int) bad f)(hi:i≤s.size)(hs:s.size≤65536):
  Calls Tryz.prog 187 #[.pointer (some ⟨g,0,none⟩)] w fun e w'=>e= .returned (.string (s.extract i (eG s i)))∧qg w' g s (eG s i:Int) (bad||decide (eG s i=i)) f∧gm (·=g) w w':=by
 have HF:=zM (zA h (zA hi hs));obtain⟨hc0,hc1,hc2,hf1,hf2⟩:=h.cells;clear h hi hs;go_enter Tryz.func187,Tryz.ntmps187;go_wp2_with fail;clear hc0 hc1 hc2 hf1 hf2;go_loopg [] (s.size) (fun kq W=>∃j:Nat,Aside0 (i≤j∧j≤s.size∧s.size≤j+kq∧eG s j=eG s i∧qg W g s (j:Int) bad f∧gm (·=g) w W))
 case atStart=>exact⟨i,⟨Nat.le_refl _,HF.out.2.1,by omega,rfl,HF.out.1,gm.refl _ _⟩⟩
 case round=>
  obtain⟨j,HJ⟩:=hrel;obtain⟨hc0,hc1,hc2,hf1,hf2⟩:=HJ.out.2.2.2.2.1.cells
  by_cases hj:j<s.size
  ·have hjd:decide ((j:Int)<(s.size:Int))=true:=decide_eq_true (by omega);have alK:=zT hj;have hx:∀h:j<s.size,((s[j]'h).toNat:Int)=bt s (j:Int):=fun h=>dQ s (j:Int) h
   have q0:=eq_true hj;obtain⟨c,hc⟩:∃c,bt s (j:Int)=c:=⟨_,rfl⟩;have Jy:=zM (zA hc hj);rw[hc]at hx;clear hc hj
   by_cases h48:48≤c
   ·have alB:=zT h48
    by_cases h57:c≤57
    ·have alC:=zT h57;have hjw:wrap64 ((j:Int)+1)=((j+1:Nat):Int):=by rw[fD (by omega) (by have:=HF.out.2.2;have:=Jy.out.2;omega)];rfl
     have alV:IntKind.i64.wrap ((j:Int)+1)=((j+1:Nat):Int):=by rw[dL];exact hjw
     have HD:=zM (show isD (bt s (j:Int))=true by rw[Jy.out.1];exact decide_eq_true ⟨h48,h57⟩);have hA:=HJ.out.2.2.2.2.1.at ((j+1:Nat):Int);have hch:=HJ.out.2.2.2.2.2.trans (S2:=fun k=>k=g) ((gm.refl (·=g) wr).setCell ⟨g,1,none⟩ (.inl rfl) (.int .i64 ((j+1:Nat):Int))) (fun _ _ h=>h);have HA:=zM (zA hA hch);obtain⟨k1,rfl⟩:∃k1,gk=k1+1:=⟨gk- 1,by have:=HJ.out.2.2.1;have:=Jy.out.2;omega⟩;clear hA hch h48 h57;go_wp2_with fail;go_quiet (fail);go_wp2_with fail;go_roundg k1
     case measure=>omega
     case rel=>exact⟨j+1,⟨by have:=HJ.out.1;omega,Jy.out.2,by have:=HJ.out.2.2.1;omega,by rw[←GV s j Jy.out.2 HD.out];exact HJ.out.2.2.2.1,HA.out.1,HA.out.2.drewN _⟩⟩
    ·have alC:=zF h57;have hje:j=eG s i:=by rw[←HJ.out.2.2.2.1];exact(o6 s j (.inr (by rw[Jy.out.1];exact decide_eq_false (fun h=>h57 h.2)))).symm
     have HE:=zM hje
     have heq:((j:Int)==(i:Int))=decide (eG s i=i):=by
      rw[←hje]
      by_cases h:j=i
      ·rw[decide_eq_true h,h];exact beq_iff_eq.mpr rfl
      ·rw[decide_eq_false h];exact beq_eq_false_iff_ne.mpr (by omega)
     obtain⟨b,hb⟩:∃b,decide (eG s i=i)=b:=⟨_,rfl⟩;rw[hb]at heq;have oV:=zM hb;have hB2:=HJ.out.2.2.2.2.1.bad (bad||b);have hch:=HJ.out.2.2.2.2.2.trans (S2:=fun k=>k=g) ((gm.refl (·=g) wr).setCell ⟨g,2,none⟩ (.inl rfl) (.bool (bad||b))) (fun _ _ h=>h);have H5:=zM (zA hB2 hch)
     have hsl:∀W,(Instr.slice 9 (.string s) (some (.int .i64 (i:Int))) (some (.int .i64 (j:Int))) none).run Tryz.prog W= .ok (.string (s.extract i j)) W:=by
      intro W;rw[run_slice_string (P:=Tryz.prog) W 9 s .i64 .i64 (i:Int) (j:Int) Tryz.underlying9 (by omega) (by have:=HJ.out.1;omega) (by have:=HJ.out.2.1;omega)];simp
     clear hje hb hB2 hch h48 h57;cases bad
     ·have hor:(false||b)=b:=rfl;go_wp2_with fail;go_quiet (fail);go_wp2_with fail;go_quiet (fail);go_wp2_with fail;go_ret;refine⟨by rw[←HE.out];rfl,?_,by first|exact(H5.out.2.drewN _).drewN _|exact H5.out.2.drewN _⟩;rw[oV.out,←HE.out];exact H5.out.1
     ·have hor:(true||b)=true:=rfl;go_wp2_with fail;go_quiet (fail);go_wp2_with fail;go_quiet (fail);go_wp2_with fail;go_ret;refine⟨by rw[←HE.out];rfl,?_,by first|exact(H5.out.2.drewN _).drewN _|exact H5.out.2.drewN _⟩;rw[oV.out,←HE.out];exact H5.out.1
   ·have alB:=zF h48;have hje:j=eG s i:=by rw[←HJ.out.2.2.2.1];exact(o6 s j (.inr (by rw[Jy.out.1];exact decide_eq_false (fun h=>h48 h.1)))).symm
    have HE:=zM hje
    have heq:((j:Int)==(i:Int))=decide (eG s i=i):=by
     rw[←hje]
     by_cases h:j=i
     ·rw[decide_eq_true h,h];exact beq_iff_eq.mpr rfl
     ·rw[decide_eq_false h];exact beq_eq_false_iff_ne.mpr (by omega)
    obtain⟨b,hb⟩:∃b,decide (eG s i=i)=b:=⟨_,rfl⟩;rw[hb]at heq;have oV:=zM hb;have hB2:=HJ.out.2.2.2.2.1.bad (bad||b);have hch:=HJ.out.2.2.2.2.2.trans (S2:=fun k=>k=g) ((gm.refl (·=g) wr).setCell ⟨g,2,none⟩ (.inl rfl) (.bool (bad||b))) (fun _ _ h=>h);have H5:=zM (zA hB2 hch)
    have hsl:∀W,(Instr.slice 9 (.string s) (some (.int .i64 (i:Int))) (some (.int .i64 (j:Int))) none).run Tryz.prog W= .ok (.string (s.extract i j)) W:=by
     intro W;rw[run_slice_string (P:=Tryz.prog) W 9 s .i64 .i64 (i:Int) (j:Int) Tryz.underlying9 (by omega) (by have:=HJ.out.1;omega) (by have:=HJ.out.2.1;omega)];simp
    clear hje hb hB2 hch h48;cases bad
    ·have hor:(false||b)=b:=rfl;go_wp2_with fail;go_quiet (fail);go_wp2_with fail;go_quiet (fail);go_wp2_with fail;go_ret;refine⟨by rw[←HE.out];rfl,?_,by first|exact(H5.out.2.drewN _).drewN _|exact H5.out.2.drewN _⟩;rw[oV.out,←HE.out];exact H5.out.1
    ·have hor:(true||b)=true:=rfl;go_wp2_with fail;go_quiet (fail);go_wp2_with fail;go_quiet (fail);go_wp2_with fail;go_ret;refine⟨by rw[←HE.out];rfl,?_,by first|exact(H5.out.2.drewN _).drewN _|exact H5.out.2.drewN _⟩;rw[oV.out,←HE.out];exact H5.out.1
  ·have hjd:decide ((j:Int)<(s.size:Int))=false:=decide_eq_false (by omega);have alK:=zF hj;have hje:j=eG s i:=by rw[←HJ.out.2.2.2.1];exact(o6 s j (.inl (by omega))).symm
   have HE:=zM hje
   have heq:((j:Int)==(i:Int))=decide (eG s i=i):=by
    rw[←hje]
    by_cases h:j=i
    ·rw[decide_eq_true h,h];exact beq_iff_eq.mpr rfl
    ·rw[decide_eq_false h];exact beq_eq_false_iff_ne.mpr (by omega)
   obtain⟨b,hb⟩:∃b,decide (eG s i=i)=b:=⟨_,rfl⟩;rw[hb]at heq;have oV:=zM hb;have hB2:=HJ.out.2.2.2.2.1.bad (bad||b);have hch:=HJ.out.2.2.2.2.2.trans (S2:=fun k=>k=g) ((gm.refl (·=g) wr).setCell ⟨g,2,none⟩ (.inl rfl) (.bool (bad||b))) (fun _ _ h=>h);have H5:=zM (zA hB2 hch)
   have hsl:∀W,(Instr.slice 9 (.string s) (some (.int .i64 (i:Int))) (some (.int .i64 (j:Int))) none).run Tryz.prog W= .ok (.string (s.extract i j)) W:=by
    intro W;rw[run_slice_string (P:=Tryz.prog) W 9 s .i64 .i64 (i:Int) (j:Int) Tryz.underlying9 (by omega) (by have:=HJ.out.1;omega) (by have:=HJ.out.2.1;omega)];simp
   clear hje hb hB2 hch hj;cases bad
   ·have hor:(false||b)=b:=rfl;go_wp2_with fail;go_quiet (fail);go_wp2_with fail;go_quiet (fail);go_wp2_with fail;go_ret;refine⟨by rw[←HE.out];rfl,?_,by first|exact(H5.out.2.drewN _).drewN _|exact H5.out.2.drewN _⟩;rw[oV.out,←HE.out];exact H5.out.1
   ·have hor:(true||b)=true:=rfl;go_wp2_with fail;go_quiet (fail);go_wp2_with fail;go_quiet (fail);go_wp2_with fail;go_ret;refine⟨by rw[←HE.out];rfl,?_,by first|exact(H5.out.2.drewN _).drewN _|exact H5.out.2.drewN _⟩;rw[oV.out,←HE.out];exact H5.out.1
theorem aay (i:Nat)(h:i≤65536):wrap64 (i:Int)=(i:Int):=fD (by omega) (by omega)
def hits (set:ByteArray)(s:ByteArray)(i:Nat):Bool:=decide (i<s.size)&&decide (0≤Lib.indexByte set.data.toList ((bt s (i:Int)).toNat.toUInt8))
theorem VT (g:Nat)(set s:ByteArray)(i:Nat)(bad:Bool)(f:Fm)(w:World)(h:qg w g s (i:Int) bad f)(hi:i≤s.size)(hs:s.size≤65536)(hn:bad=true∨hits set s i=false):
  Calls Tryz.prog 186 #[.pointer (some ⟨g,0,none⟩),.string set] w fun e w'=>e= .returned (.int .u8 0)∧∃n,w'=w.drewN n:=by
 obtain⟨hc0,hc1,hc2,hf1,hf2⟩:=h.cells;cases bad
 ·have hh:hits set s i=false:=hn.resolve_left (by simp)
  by_cases hlt:i<s.size
  ·have heq:((i:Int)==(s.size:Int))=false:=beq_eq_false_iff_ne.mpr (by omega);have heq2:(i==s.size)=false:=beq_eq_false_iff_ne.mpr (by omega);have hx:∀h:i<s.size,((s[i]'h).toNat:Int)=bt s (i:Int):=fun h=>dQ s (i:Int) h
   have q0:=eq_true hlt;obtain⟨c,hc⟩:∃c,bt s (i:Int)=c:=⟨_,rfl⟩
   have hz:¬0≤Lib.indexByte set.data.toList c.toNat.toUInt8:=by
    intro hz;unfold hits at hh;rw[hc,decide_eq_true hlt,decide_eq_true hz]at hh;exact Bool.noConfusion hh
   rw[hc]at hx;obtain⟨z,hzz⟩:∃z,Lib.indexByte set.data.toList c.toNat.toUInt8=z:=⟨_,rfl⟩;rw[hzz]at hz;have hzd:decide (z<0)=true:=decide_eq_true (by omega);clear h hi hs hn hh hlt hz hc;go_enter Tryz.func186,Tryz.ntmps186;go_wp2_with fail;go_quiet (first|(go_at_call 220;exact Calls.quiet_of_same ((Tryz.strings_IndexByte set c _).mono fun e w' h=>by rw[hzz]at h;exact h)));go_wp2_with fail;go_ret;exact⟨rfl,nq,rfl⟩
  ·have heq:((i:Int)==(s.size:Int))=true:=beq_iff_eq.mpr (by omega);have heq2:(i==s.size)=true:=beq_iff_eq.mpr (by omega);clear h hi hs hn hh hlt;go_enter Tryz.func186,Tryz.ntmps186;go_wp2_with fail;go_quiet (fail);go_wp2_with fail;go_ret;exact⟨rfl,nq,rfl⟩
 ·clear h hi hs hn;go_enter Tryz.func186,Tryz.ntmps186;go_wp2_with fail;go_quiet (fail);go_wp2_with fail;go_ret;exact⟨rfl,nq,rfl⟩
theorem RG (g:Nat)(set s:ByteArray)(i:Nat)(f:Fm)(w:World)(h:qg w g s (i:Int) false f)(hs:s.size≤65536)(hh:hits set s i=true):
  Calls Tryz.prog 186 #[.pointer (some ⟨g,0,none⟩),.string set] w fun e w'=>e= .returned (.int .u8 (bt s (i:Int)))∧qg w' g s ((i+1:Nat):Int) false f∧gm (·=g) w w':=by
 obtain⟨hc0,hc1,hc2,hf1,hf2⟩:=h.cells;unfold hits at hh;rw[Bool.and_eq_true]at hh;have hlt:=of_decide_eq_true hh.1;have hz:=of_decide_eq_true hh.2;have heq:((i:Int)==(s.size:Int))=false:=beq_eq_false_iff_ne.mpr (by omega);have heq2:(i==s.size)=false:=beq_eq_false_iff_ne.mpr (by omega);have hx:∀h:i<s.size,((s[i]'h).toNat:Int)=bt s (i:Int):=fun h=>dQ s (i:Int) h
 have q0:=eq_true hlt;have hA:=h.at ((i+1:Nat):Int);have HA:=zM (zA hA ((gm.refl (·=g) w).setCell ⟨g,1,none⟩ (.inl rfl) (.int .i64 ((i+1:Nat):Int))));obtain⟨c,hc⟩:∃c,bt s (i:Int)=c:=⟨_,rfl⟩;rw[hc]at hx hz⊢;obtain⟨z,hzz⟩:∃z,Lib.indexByte set.data.toList c.toNat.toUInt8=z:=⟨_,rfl⟩;rw[hzz]at hz;have hzd:decide (z<0)=false:=decide_eq_false (by omega);have hjw:wrap64 ((i:Int)+1)=((i+1:Nat):Int):=by rw[fD (by omega) (by omega)];rfl
 have alV:IntKind.i64.wrap ((i:Int)+1)=((i+1:Nat):Int):=by rw[dL];exact hjw
 have alW:wrap64 (((i+1:Nat):Int)- 1)=(i:Int):=by rw[fD (by omega) (by omega)];omega
 have as2:IntKind.i64.wrap (((i+1:Nat):Int)- 1)=(i:Int):=by rw[dL];exact alW
 have alX:wrap64 (i:Int)=(i:Int):=aay i (Nat.le_trans (Nat.le_of_lt hlt) hs);have as3:IntKind.i64.wrap (i:Int)=(i:Int):=by rw[dL];exact alX
 have q1:=eq_true (Int.natCast_nonneg i);have q2:=eq_true (Int.ofNat_lt.2 hlt);clear h hs hh hlt hz hc hA;go_enter Tryz.func186,Tryz.ntmps186;go_wp2_with fail;go_quiet (first|(go_at_call 220;exact Calls.quiet_of_same ((Tryz.strings_IndexByte set c _).mono fun e w' h=>by rw[hzz]at h;exact h)));go_wp2_with fail;go_quiet (fail);go_wp2_with fail;go_ret;exact⟨rfl,HA.out.1,by first|exact(HA.out.2.drewN _).drewN _|exact HA.out.2.drewN _⟩
theorem uP (gz gx ox:Nat)(neg:Bool)(xs:List Int)(w:World)(v0 v1:Value)(hz:w.heap[gz]?=some (.cells #[v0,v1] 173 (0,0)))(hx:rH w gx ox neg xs)(hw:Wd xs):
  Calls Tryz.prog 226 #[.pointer (some ⟨gz,0,none⟩),.pointer (some ⟨gx,ox,none⟩)] w fun e w'=>e= .returned (.pointer (some ⟨gz,0,none⟩))∧iy w' gz (neg&& !xs.isEmpty) xs∧gm (·=gz) w w':=by
 obtain⟨A,c,hx0,hx1,hc,hU⟩:=hx;have HU:=zM hU;have HZ:=zM hz;have HW:=zM hw;have HC:=zM hc;have HX:=zM (zA hx0 hx1);clear hU hz hw hc;go_enter Tryz.func226,Tryz.ntmps226;go_wp2_with fail
 go_region_with ((first
  |(go_at_call 161;refine(yD xs.length A c xs _ rfl (by first|exact HU.out|exact HU.out.drew) HW.out).mono ?_;rintro e w2 ⟨A2,c2,rfl,h1,h2,h3⟩;have HF:=zM (zA h1 (zA h2 h3));have hy0:=aI h3 HX.out.1;have hy1:=aI h3 HX.out.2;clear h1 h2 h3)
  |(go_at_call 160;refine(Es xs.length gz neg A2 c2 xs _ v0 v1 rfl (by have h:=(HF.out.2.2).block gz (by have:=dV HZ.out;simpa using this);exact h.trans HZ.out) HF.out.2.1 HF.out.1 HW.out).mono ?_;rintro e w3 ⟨rfl,h4,h5⟩;have HG:=zM (zA h4 h5);clear h4 h5)))
 all_goals(go_wp2_with fail;go_ret;exact⟨rfl,HG.out.1,gm.dU (PQ HF.out.2.2) HG.out.2⟩)
theorem kU.num {W:World}{g:Nat}{np:Bool}{ps qs:List Int}(h:kU W g np ps qs):rH W g 0 np ps:=by
 obtain⟨A,c,A2,c2,hb,h1,h2,h3,h4⟩:=h;exact⟨A,c,(aj hb 0).trans rfl,(aj hb 1).trans rfl,h1,h3⟩
theorem kU.den {W:World}{g:Nat}{np:Bool}{ps qs:List Int}(h:kU W g np ps qs):rH W g 2 false qs:=by
 obtain⟨A,c,A2,c2,hb,h1,h2,h3,h4⟩:=h;exact⟨A2,c2,(aj hb 2).trans rfl,(aj hb 3).trans rfl,h2,h4⟩
theorem kU.below {W W1:World}{g:Nat}{np:Bool}{ps qs:List Int}(h:kU W g np ps qs)(hb:Below W.heap.size W W1):kU W1 g np ps qs:=by
 obtain⟨A,c,A2,c2,h0,h1,h2,h3,h4⟩:=h;exact⟨A,c,A2,c2,aT h0 hb,h1,h2,h3.below hb,h4.below hb⟩
theorem kU.lt {W:World}{g:Nat}{np:Bool}{ps qs:List Int}(h:kU W g np ps qs):g<W.heap.size:=by
 obtain⟨A,c,A2,c2,h0,_⟩:=h;exact dV h0
def iH (qs:List Int):List Int:=if qs=[]then[1]else qs
theorem val_one:val 4294967296 [1]=1:=by simp[val]
theorem uS:Wd [1]:=⟨jX.2 ⟨by omega,nJ _⟩,by simp[Trim],by simp⟩
theorem jT {qs:List Int}(h:Wd qs):Wd (iH qs):=by
 unfold iH;split
 ·exact uS
 ·exact h
theorem CV (qs:List Int):iH qs≠[]:=by
 unfold iH;split
 ·simp
 ·assumption
theorem Ei (gx:Nat)(np:Bool)(ps qs:List Int)(w:World)(h:kU w gx np ps qs)(wp:Wd ps):
  Calls Tryz.prog 194 #[.pointer (some ⟨gx,0,none⟩)] w fun e w'=>∃g,e= .returned (.pointer (some ⟨g,0,none⟩))∧w.heap.size≤g∧iy w' g (np&& !ps.isEmpty) ps∧Below w.heap.size w w':=by
 have HX:=zM (zA h wp);clear h wp;go_enter Tryz.func194,Tryz.ntmps194;go_wp2_with fail;refine(uP w.heap.size gx 0 np ps _ _ _ (bZ w _) (HX.out.1.num.below (ag (Below.refl _ _) _)) HX.out.2).mono ?_;rintro e w2 ⟨rfl,h1,h2⟩;have HI:=zM (zA h1 h2);clear h1 h2;go_wp2_with fail;go_ret;exact⟨w.heap.size,rfl,Nat.le_refl _,HI.out.1,(gm.dU (ag (Below.refl _ _) _) HI.out.2).below (fun k hk=>by subst hk;exact Nat.le_refl _)⟩
theorem o9 (gx:Nat)(np:Bool)(ps qs:List Int)(w:World)(h:kU w gx np ps qs)(wq:Wd qs):
  Calls Tryz.prog 196 #[.pointer (some ⟨gx,0,none⟩)] w fun e w'=>∃g,e= .returned (.pointer (some ⟨g,0,none⟩))∧w.heap.size≤g∧iy w' g false (iH qs)∧Below w.heap.size w w':=by
 have HX:=zM (zA h wq);clear h wq
 by_cases hq:qs=[]
 ·have hs:wC false qs=0:=by simp[wC,hq]
  have hd:iH qs=[1]:=by simp[iH,hq]
  rw[hd];go_enter Tryz.func196,Tryz.ntmps196;go_wp2_with fail;refine(jL gx 2 false qs _ HX.out.1.den).mono ?_;rintro e w2 ⟨rfl,rfl⟩;rw[hs];clear hs hd hq;go_wp2_with fail;refine(jw 1 _ (by omega) (by omega)).mono ?_;rintro e w3 ⟨g,xs,rfl,h1,h2,h3,h4,h5⟩;have HI:=zM (zA h1 (zA h2 (zA h3 (zA h4 h5))));clear h1 h2 h3 h4 h5;go_wp2_with fail;go_ret;have e:xs=[1]:=HI.out.2.2.1.inj uS (by rw[HI.out.2.2.2.1,val_one]);exact⟨g,rfl,HI.out.1,by rw[←e];exact HI.out.2.1,HI.out.2.2.2.2⟩
 ·have hs:wC false qs=1:=by simp[wC,hq]
  have hd:iH qs=qs:=by simp[iH,hq]
  rw[hd];clear hd hq;go_enter Tryz.func196,Tryz.ntmps196;go_wp2_with fail;refine(jL gx 2 false qs _ HX.out.1.den).mono ?_;rintro e w2 ⟨rfl,rfl⟩;rw[hs];clear hs;go_wp2_with fail;refine(uP w.heap.size gx 2 false qs _ _ _ (bZ w _) (HX.out.1.den.below (ag (Below.refl _ _) _)) HX.out.2).mono ?_;rintro e w2 ⟨rfl,h1,h2⟩;have HI:=zM (zA h1 h2);clear h1 h2;go_wp2_with fail;go_ret;exact⟨w.heap.size,rfl,Nat.le_refl _,by simpa using HI.out.1,(gm.dU (ag (Below.refl _ _) _) HI.out.2).below (fun k hk=>by subst hk;exact Nat.le_refl _)⟩
end Go.Proofs.YthbdjmopolpjmaaGreatDoor.C
