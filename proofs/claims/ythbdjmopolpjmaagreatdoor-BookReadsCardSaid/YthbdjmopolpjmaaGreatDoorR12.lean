/- Part 12 of the proof. -/
import Derived.Test.YthbdjmopolpjmaaGreatDoorR11
set_option linter.unusedVariables false
set_option linter.unusedSimpArgs false
set_option maxHeartbeats 8000000
set_option maxRecDepth 100000
namespace Go.Proofs.YthbdjmopolpjmaaGreatDoor.C
open Go.RowKit Go.Proofs.YthbdjmopolpjmaaGreatDoorW.PrintWords Go.Proofs.YthbdjmopolpjmaaGreatDoorW.PrintLast Go.Proofs.YthbdjmopolpjmaaGreatDoorW.PrintMore Go.Proofs.YthbdjmopolpjmaaGreatDoor.F Go.Proofs.YthbdjmopolpjmaaGreatDoor.M
attribute [local go_sem] max2_int min2_int max_two min_two max_three min_three max_four min_four
def kU (W:World)(g:Nat)(np:Bool)(ps qs:List Int):Prop:=∃A c A2 c2,W.heap[g]?=some (.cells #[.bool np,.slice A ps.length c,.bool false,.slice A2 qs.length c2] 179 (0,0))∧ps.length≤c∧qs.length≤c2∧U W A ps∧U W A2 qs
def Low (ps qs xs ys:List Int):Prop:=Wd ps∧Wd qs∧qs≠[]∧val 4294967296 ps*ja (val 4294967296 xs) (val 4294967296 ys)=val 4294967296 xs∧val 4294967296 qs*ja (val 4294967296 xs) (val 4294967296 ys)=val 4294967296 ys
theorem qy {a b:Int}(hb:0<b):0<ja a b:=by
 unfold ja;have:=Nat.gcd_pos_of_pos_right a.toNat (show 0<b.toNat by omega);omega
theorem gcd_dvd {a b:Int}(ha:0≤a)(hb:0≤b):(∃k,a=k*ja a b)∧∃k,b=k*ja a b:=by
 unfold ja;obtain⟨k,hk⟩:=Nat.gcd_dvd_left a.toNat b.toNat;obtain⟨l,hl⟩:=Nat.gcd_dvd_right a.toNat b.toNat;refine⟨⟨(k:Int),?_⟩,(l:Int),?_⟩
 ·have:(a.toNat:Int)=((Nat.gcd a.toNat b.toNat *k:Nat):Int):=by rw[←hk]
  rw[Int.natCast_mul]at this;rw[Int.mul_comm];omega
 ·have:(b.toNat:Int)=((Nat.gcd a.toNat b.toNat *l:Nat):Int):=by rw[←hl]
  rw[Int.natCast_mul]at this;rw[Int.mul_comm];omega
theorem Gm {a g q r:Int}(hg:0<g)(hr0:0≤r)(h:a=q*g+r)(hr:r<g)(hd:∃k,a=k*g):q*g=a:=by
 obtain⟨k,hk⟩:=hd;have d1:=rX h hr0 hr;have d2:=rX (show a=k*g+0 by omega) (by omega) hg;omega
theorem aah (gz n:Nat)(neg:Bool)(A0:Option Addr)(c0:Nat)(xs:List Int)(w:World)(v0 v1 v2 v3:Value)(hn:xs.length=n)(hb:w.heap[gz]?=some (.cells #[v0,v1,v2,v3] 179 (0,0)))(hU:U w A0 xs)(hc0:n≤c0)(hw:Wd xs):
  Calls Tryz.prog 160 #[.pointer (some ⟨gz,0,none⟩),.bool neg,.slice A0 n c0] w fun e w'=>e= .returned (.pointer (some ⟨gz,0,none⟩))∧w'.heap[gz]?=some (.cells #[.bool (neg&& !xs.isEmpty),.slice A0 xs.length c0,v2,v3] 179 (0,0))∧gm (·=gz) w w':=by
 subst hn;obtain⟨m,hm,ht,hv,he⟩:=sZ 4294967296 xs (by have:=hw.2.2;omega);obtain⟨k,hk⟩:=he.rounds;have hr:xs.take m=xs:=Wd.inj ⟨fK hw.1 m,ht,by have:=hw.2.2;rw[List.length_take];omega⟩ hw hv;refine(LM k gz 0 neg A0 c0 xs _ w v0 v1 ((aj hb 0).trans rfl) ((aj hb 1).trans rfl) (au hb 0) (au hb 1) hU.now hc0 hk).mono fun e w' ⟨he,hw⟩=>?_
 subst hw;have hch:=yz (w:=w) (g:=gz) ⟨gz,0,none⟩ ⟨gz,0+1,none⟩ rfl rfl (.bool (neg&& !(xs.take m).isEmpty)) (.slice A0 (xs.take m).length c0);refine⟨he,?_,hch⟩;have h1:=aN hb 0 (.bool (neg&& !(xs.take m).isEmpty));have h2:=aN h1 1 (.slice A0 (xs.take m).length c0);rw[hr]at h2⊢;simpa using h2
theorem oU (gz gx ox gy oy:Nat)(nx ny:Bool)(xs ys:List Int)(w:World)(v0 v1 v2 v3:Value)(hz:w.heap[gz]?=some (.cells #[v0,v1,v2,v3] 179 (0,0)))(hx:rH w gx ox nx xs)(hy:rH w gy oy ny ys)(wx:Wd xs)(wy:Wd ys)(hn:ys≠[]):
  Calls Tryz.prog 118 #[.pointer (some ⟨gz,0,none⟩),.pointer (some ⟨gx,ox,none⟩),.pointer (some ⟨gy,oy,none⟩)] w fun e w'=>∃ps qs,e= .returned (.pointer (some ⟨gz,0,none⟩))∧Low ps qs xs ys∧kU w' gz (nx !=ny&& !ps.isEmpty) ps qs∧gm (·=gz) w w':=by
 have HZ:=zM hz;have HX:=zM (zA hx hy);have HW:=zM (zA wx (zA wy hn));clear hz hx hy wx wy hn;go_enter Tryz.func118,Tryz.ntmps118;go_wp2_with fail;refine(Dz w.heap.size gx ox nx xs _ _ _ (bZ w _) (HX.out.1.below (ag (Below.refl _ _) _)) HW.out.1).mono ?_;rintro e w1 ⟨rfl,h1,h2⟩;have hb1:Below w.heap.size w w1:=(gm.dU (ag (Below.refl _ _) _) h2).below (fun k hk=>by subst hk;exact Nat.le_refl _);have H1:=zM (zA h1 hb1);clear h1 h2 hb1;go_wp2_with fail;refine(Dz w1.heap.size gy oy ny ys _ _ _ (bZ w1 _) ((HX.out.2.below H1.out.2).below (ag (Below.refl _ _) _)) HW.out.2.1).mono ?_;rintro e w2 ⟨rfl,h1,h2⟩;have hb2:Below w1.heap.size w1 w2:=(gm.dU (ag (Below.refl _ _) _) h2).below (fun k hk=>by subst hk;exact Nat.le_refl _);have H2:=zM (zA h1 (zA hb2 (zA (H1.out.1.below hb2) (ah H1.out.2 H1.out.2.size hb2))));clear h1 h2 hb2;obtain⟨Ax,cx,hx0,_,_,_⟩:=HX.out.1.below H2.out.2.2.2;obtain⟨Ay,cy,hy0,_,_,_⟩:=HX.out.2.below H2.out.2.2.2;go_wp2_with fail;go_quiet (fail);go_wp2_with fail;have hb3:Below w2.heap.size w2 ((w2.drewN nq).alloc (.cells #[.bool false,.slice none 0 0] 173)):=ag (ai (Below.refl _ _) nq) _;refine(KG w2.heap.size w.heap.size w1.heap.size 0 0 false false xs ys _ _ _ _ _ (by simpa using bZ (w2.drewN nq) _) (H2.out.2.2.1.below hb3).c (H2.out.1.below hb3).c HW.out.1 HW.out.2.1).mono ?_;rintro e w3 ⟨gs,rfl,h1,h2,h3,h4⟩;have hch:gm (·=w2.heap.size) w2 w3:=gm.dU hb3 h4;have ZA:Below w2.heap.size w2 w3:=hch.below (fun k hk=>by subst hk;exact Nat.le_refl _);have H3:=zM (zA h1 (zA h2 (zA h3 (zA (H2.out.2.2.1.below ZA) (zA (H2.out.1.below ZA) (zA (ah H2.out.2.2.2 H2.out.2.2.2.size ZA) (zA H1.out.2.size H2.out.2.1.size)))))));clear h1 h2 h3 h4 hch ZA hb3 hx0 hy0;go_wp2_with fail;refine(jw 1 w3 (by omega) (by omega)).mono ?_;rintro e w4 ⟨g1,os,rfl,h1,h2,h3,h4,h5⟩;have H4:=zM (zA (H3.out.1.below h5) (zA h2 (zA h3 (zA h4 (zA (H3.out.2.2.2.1.below h5) (zA (H3.out.2.2.2.2.1.below h5) (ah H3.out.2.2.2.2.2.1 H3.out.2.2.2.2.2.1.size h5)))))));clear h1 h2 h3 h4 h5;obtain⟨z,hz⟩:∃z,Ir (num false gs) (num false os)=z:=⟨_,rfl⟩;go_wp2_with fail;refine(JV w2.heap.size 0 g1 0 false false gs os w4 H4.out.1.c H4.out.2.1.c H3.out.2.1 H4.out.2.2.1 (fun h=>by cases h) (fun h=>by cases h)).mono ?_;rintro e w5 ⟨rfl,h1⟩;rw[hz];have hG:z=Ir (ja (val 4294967296 xs) (val 4294967296 ys)) 1:=by rw[←hz];simp only[num,H3.out.2.2.1,H4.out.2.2.2.1];rfl
 have h2:=h1.below;have H5:=zM (zA (H4.out.1.below h2) (zA (H4.out.2.2.2.2.1.below h2) (zA (H4.out.2.2.2.2.2.1.below h2) (zA (ah H4.out.2.2.2.2.2.2 H4.out.2.2.2.2.2.2.size h2) hG))));clear h1 h2 hG hz;go_upto_if 33 with(fail);go_cut [] (fun wc=>∃(ps qs:List Int),Aside0 (Low ps qs xs ys∧iy wc w.heap.size false ps∧iy wc w1.heap.size false qs∧Below w.heap.size w wc))
 case first=>
  have hn:=HW.out.2.2;have py:=HW.out.2.1.pos hn;have px:=HW.out.1.qN;have hG0:=qy (a:=val 4294967296 xs) py;have hgs:gs≠[]:=by intro e;have h:=H3.out.2.2.1;rw[e]at h;simp only[val]at h;omega
  have hd:=gcd_dvd px (show 0≤val 4294967296 ys by omega);have HD:=zM (zA hG0 (zA hgs (zA hd hn)));clear hn py px hG0 hgs hd
  by_cases hz:0<z
  ·have hz1:=zT hz;obtain⟨Ap,cp,hbp,_,_⟩:=H5.out.2.1;have HBP:=zM hbp;clear hbp;go_wp2_with fail;refine(LP w.heap.size w.heap.size w2.heap.size false false xs gs w5 _ _ HBP.out H5.out.2.1 H5.out.1 HW.out.1 H3.out.2.1 HD.out.2.1).mono ?_;rintro e w6 ⟨q,r,rfl,h1,h2,h3,h4,h5,h6⟩;have hnw:¬Ty w5 131 w.heap.size:=H5.out.2.1.XJ;have hs1:¬w1.heap.size=w.heap.size:=by have:=H5.out.2.1.lt;have:=H1.out.1.lt;omega
   have hs2:¬w2.heap.size=w.heap.size:=by have:=H1.out.1.lt;have:=H3.out.2.2.2.2.2.2.2;omega
   have h7:=H5.out.1.qj h6 (by exact hs2) (fun k hk _=>by subst hk;exact hnw);have h8:=H5.out.2.2.1.qj h6 (by exact hs1) (fun k hk _=>by subst hk;exact hnw);have h9:Below w.heap.size w w6:=(gm.trans (S:=fun k=>k=w.heap.size) (gm.of_below H5.out.2.2.2.1) h6 (fun _ _ h=>h)).below (fun k hk=>by subst hk;exact Nat.le_refl _);have H6:=zM (zA h1 (zA h2 (zA (zA h3.qN (zA h4 h5)) (zA h7 (zA h8 h9)))));clear h1 h2 h3 h4 h5 h6 h7 h8 h9 hnw hs2 hs1;obtain⟨Aq,cq,hbq,_,_⟩:=H6.out.2.2.2.2.1;have HBQ:=zM hbq;clear hbq;go_wp2_with fail;refine(LP w1.heap.size w1.heap.size w2.heap.size false false ys gs w6 _ _ HBQ.out H6.out.2.2.2.2.1 H6.out.2.2.2.1 HW.out.2.1 H3.out.2.1 HD.out.2.1).mono ?_;rintro e w7 ⟨q2,r2,rfl,h1,h2,h3,h4,h5,h6⟩;have hnw:¬Ty w6 131 w1.heap.size:=H6.out.2.2.2.2.1.XJ;have hs1:¬w.heap.size=w1.heap.size:=by have:=H1.out.1.lt;omega
   have h8:=H6.out.1.qj h6 (by exact hs1) (fun k hk _=>by subst hk;exact hnw);have hle:w.heap.size≤w1.heap.size:=H1.out.2.size;have h9:Below w.heap.size w w7:=(gm.trans (S:=fun k=>k=w1.heap.size) (gm.of_below H6.out.2.2.2.2.2) h6 (fun _ _ h=>h)).below (fun k hk=>by subst hk;exact hle);have H7:=zM (zA h1 (zA h2 (zA (zA h3.qN (zA h4 h5)) (zA h8 h9))));clear h1 h2 h3 h4 h5 h6 h8 h9 hnw hs1 hle;go_wp2_with fail;go_meet;have hgv:=H3.out.2.2.1;have k1:=H6.out.2.2.1;have k2:=H7.out.2.2.1;rw[hgv]at k1 k2;have e1:=Gm HD.out.1 k1.1 k1.2.1 k1.2.2 HD.out.2.2.1.1;have e2:=Gm HD.out.1 k2.1 k2.2.1 k2.2.2 HD.out.2.2.1.2
   have hq2:q2≠[]:=by
    intro e;rw[e]at e2;simp only[val]at e2;have:=HW.out.2.1.pos HD.out.2.2.2;omega
   exact⟨q,q2,⟨⟨H6.out.2.1,H7.out.2.1,hq2,e1,e2⟩,by simpa using H7.out.2.2.2.1,by simpa using H7.out.1,H7.out.2.2.2.2⟩⟩
  ·have hz1:=zF hz
   have hG1:ja (val 4294967296 xs) (val 4294967296 ys)=1:=by
    have h:=H5.out.2.2.2.2;unfold Ir at h;have:=HD.out.1;split at h
    ·omega
    ·split at h
     ·assumption
     ·omega
   have HG1:=zM hG1;clear hG1;go_wp2_with fail;go_meet;exact⟨xs,ys,⟨⟨HW.out.1,HW.out.2.1,HW.out.2.2,by rw[HG1.out];omega,by rw[HG1.out];omega⟩,H5.out.2.1,H5.out.2.2.1,H5.out.2.2.2.1⟩⟩
 case rest=>
  obtain⟨ps,qs,HC⟩:=hcut;have HN:=zM HW.out.2.2;obtain⟨Ap,cp,hbp,hcp,hUp⟩:=HC.out.2.1;obtain⟨Aq,cq,hbq,hcq,hUq⟩:=HC.out.2.2.1;have hbz:wc.heap[gz]?=some (.cells #[v0,v1,v2,v3] 179 (0,0)):=(HC.out.2.2.2.block gz (dV HZ.out)).trans HZ.out;have HZ2:=zM hbz;have HU:=zM (zA hcp (zA hUp (zA hcq (zA hUq (zA hbq (show¬w1.heap.size=gz by have:=dV HZ.out;have:=H1.out.2.size;omega))))));have hx1:wc.cell? ⟨w.heap.size,1,none⟩=some (.slice Ap ps.length cp):=(aj hbp 1).trans rfl;clear hbz hbq hUq hcp hUp hcq hbp;go_wp2_with fail;go_region_with ((go_at_call 160;refine(aah gz ps.length (nx !=ny) Ap cp ps _ v0 v1 v2 v3 rfl (by exact HZ2.out) (by first|exact HU.out.2.1|exact HU.out.2.1.drew) HU.out.1 HC.out.1.1).mono ?_;rintro e w6 ⟨rfl,h4,h5⟩;have HG:=zM (zA h4 h5);clear h4 h5))
  all_goals(have hz0:=HG.out.1;have hq0:w6.heap[w1.heap.size]?=some (.cells #[.bool false,.slice Aq qs.length cq] 173 (0,0)):=(HG.out.2.block w1.heap.size (by have:=dV HU.out.2.2.2.2.1;simpa using this) HU.out.2.2.2.2.2).trans HU.out.2.2.2.2.1;have hq1:w6.cell? ⟨w1.heap.size,0,none⟩=some (.bool false):=(aj hq0 0).trans rfl;have hq2:w6.cell? ⟨w1.heap.size,1,none⟩=some (.slice Aq qs.length cq):=(aj hq0 1).trans rfl;have hz2:w6.cell? ⟨gz,2,none⟩=some v2:=(aj hz0 2).trans rfl;have hz3:w6.cell? ⟨gz,3,none⟩=some v3:=(aj hz0 3).trans rfl;have hf2:=au hz0 2;have hf3:=au hz0 3;clear hz0 hq0 hx1;go_wp2_with fail;go_ret;refine⟨ps,qs,rfl,HC.out.1,?_⟩)
  all_goals(
   have hch:gm (·=gz) wc ((w6.setCell {block:=gz,off:=2} (Value.bool false)).setCell {block:=gz,off:=3} (Value.slice Aq qs.length cq)):=((gm.dU (dB (Below.refl _ _)) HG.out.2).setCell _ (Or.inl rfl) _).setCell _ (Or.inl rfl) _;have hn:¬Ty wc 131 gz:=Ha HZ2.out (by decide);refine⟨⟨Ap,cp,Aq,cq,?_,HU.out.1,HU.out.2.2.1,HU.out.2.1.qj hch (fun k hk _=>by subst hk;exact hn),HU.out.2.2.2.1.qj hch (fun k hk _=>by subst hk;exact hn)⟩,gm.dU HC.out.2.2.2 hch⟩;have h1:=aN HG.out.1 2 (.bool false);have h2:=aN h1 3 (.slice Aq qs.length cq)
   simpa using h2)
def afW (W:World)(base:Nat)(v:Value)(xs:List Int):Prop:=Kd.R (Kd.int .u32) 131 W base (fun _=>True) v xs
theorem uO (gz:Nat)(s:ByteArray)(base:Int)(w:World)(v0 v1:Value)(hz:w.heap[gz]?=some (.cells #[v0,v1] 173 (0,0)))(hs:0<s.size)(hl:s.size≤1000)(hd:Num (bytesOf s)):
  Calls Tryz.prog 158 #[.pointer (some ⟨gz,0,none⟩),.string s,.int .i64 base] w fun e w'=>∃xs,e= .returned (.tuple #[.pointer (some ⟨gz,0,none⟩),.bool true])∧Wd xs∧val 4294967296 xs=dec 0 (bytesOf s)∧iy w' gz false xs∧gm (·=gz) w w':=by
 have HZ:=zM hz;have HD:=zM (zA hd hl);have kb:=fun(t:ByteArray) W=>uI (P:=Tryz.prog) 9 50 5 Tryz.underlying9 Tryz.underlying50 Tryz.underlying5 t W
 have hl1:decide (0<(s.size:Int))=true:=decide_eq_true (by omega);have hl2:=zT hs;have hb:=Ac hd 0 (by rw[bytesOf_length];exact hs);rw[gW]at hb;have c1:((bt s 0)==45)=false:=beq_eq_false_iff_ne.mpr (by omega);have c2:((bt s 0)==43)=false:=beq_eq_false_iff_ne.mpr (by omega);have hx:∀h:0<s.size,((s[0]'h).toNat:Int)=bt s 0:=dQ s 0;have hq:=eq_true hs
 have hne:s.toList.isEmpty=false:=by
  rw[ByteArray.toList_eq];have h:=bV s;cases hh:s.data.toList with
  |nil=>rw[hh]at h;simp at h;omega
  |cons a b=>rfl
 clear hz hd hl hb hs;go_enter Tryz.func158,Tryz.ntmps158;go_wp2_with fail;go_loopg [1,9] s.size (fun kq v1 v9 W=>∃(t:ByteArray) (xs:List Int),v1= .string t∧Aside0 (t.size≤kq∧t.size≤s.size∧Num (bytesOf t)∧dec (val 4294967296 xs) (bytesOf t)=dec 0 (bytesOf s)∧gV 4294967296 xs∧xs.length+t.size≤s.size∧afW W w.heap.size v9 xs∧Below w.heap.size w W))
 case atStart=>exact⟨s,[],rfl,⟨Nat.le_refl _,Nat.le_refl _,HD.out.1,rfl,nJ _,by simp,Kd.jB _ _ _ _ _,Below.refl _ _⟩⟩
 case round=>
  clear c1 c2 hx hq hl1 hl2 hne;obtain⟨t,xs,rfl,HR⟩:=hrel
  by_cases ht:t.size=0
  ·have hl1:decide (0<(t.size:Int))=false:=decide_eq_false (by omega);have hl2:decide (0<t.size)=false:=decide_eq_false (by omega);have ht0:=zM ht;clear ht;obtain⟨A,c,rfl,hc,hU⟩:=U.E5 HR.out.2.2.2.2.2.2.1;have HU:=zM (zA hc hU);clear hc hU;obtain⟨r,hr,hv,hcall⟩:=Dh gz false A c xs wr v0 v1 ((HR.out.2.2.2.2.2.2.2.block gz (dV HZ.out)).trans HZ.out) HU.out.2 HU.out.1 HR.out.2.2.2.2.1 (by have:=HR.out.2.2.2.2.2.1;have:=HD.out.2;omega);have HP:=zM (zA hr hv);have HC:=zM hcall;clear hr hv hcall;go_wp2_with fail;refine HC.out.mono ?_;rintro e w2 ⟨rfl,h1,h2⟩;have HF:=zM (zA h1 h2);clear h1 h2;go_wp2_with fail;go_ret2;refine⟨r,rfl,HP.out.1,?_,by simpa using HF.out.1,gm.dU HR.out.2.2.2.2.2.2.2 HF.out.2⟩;have h:=HR.out.2.2.2.1;have hb:bytesOf t=[]:=List.eq_nil_of_length_eq_zero (by rw[bytesOf_length];exact ht0.out);rw[hb]at h;exact HP.out.2.trans h
  ·have hl1:decide (0<(t.size:Int))=true:=decide_eq_true (by omega);have hl2:decide (0<t.size)=true:=decide_eq_true (by omega);have HT:=zM ht;clear ht;obtain⟨k1,rfl⟩:∃k1,gk=k1+1:=⟨gk- 1,by have:=HR.out.1;have:=HT.out;omega⟩
   obtain⟨n,hn,hn0,hn9,hnt⟩:∃n:Int,wrap64 ((wrap64 ((t.size:Int)- 1)).tmod 9+1)=n∧0≤n∧n≤9∧0<n∧n≤(t.size:Int):=by
    have h0:=HT.out;have h1:=HR.out.2.1;have h2:=HD.out.2;rw[fD (n:=(t.size:Int)- 1) (by omega) (by omega),Int.tmod_eq_emod_of_nonneg (by omega),fD (by omega) (by omega)];exact⟨_,rfl,by omega,by omega,by omega,by omega⟩
   obtain⟨u,hu⟩:∃u,t.extract 0 n.toNat=u:=⟨_,rfl⟩;obtain⟨t2,ht2⟩:∃t2,t.extract n.toNat t.size=t2:=⟨_,rfl⟩;have ahk:u.size=n.toNat:=by rw[←hu];simp only[ByteArray.size_extract];omega
   have ahj:t2.size=t.size- n.toNat:=by rw[←ht2];simp only[ByteArray.size_extract];omega
   have hub:bytesOf u=(bytesOf t).take n.toNat:=by rw[←hu,nZ _ _ _ (by omega)];simp
   have ht2b:bytesOf t2=(bytesOf t).drop n.toNat:=by rw[←ht2,nZ _ _ _ (by omega),List.take_of_length_le (by rw[bytesOf_length];omega)]
   have hsl:∀W,(Instr.slice 9 (.string t) none (some (.int .i64 n)) none).run Tryz.prog W= .ok (.string u) W:=by
    intro W;have h:=run_slice_string_to_if (P:=Tryz.prog) W 9 t .i64 n Tryz.underlying9;rw[h];simp[hu,hn0,hnt.2]
   have hsl2:∀W,(Instr.slice 9 (.string t) (some (.int .i64 n)) none none).run Tryz.prog W= .ok (.string t2) W:=by
    intro W;have h:=run_slice_string_from_if (P:=Tryz.prog) W 9 t .i64 n Tryz.underlying9;rw[h];simp[ht2,hn0,hnt.2]
   have HN:=zM (zA hn0 (zA hn9 (zA hnt (zA ahk (zA ahj (zA hub ht2b))))));clear hn0 hn9 hnt ahk ahj hub ht2b hu ht2;go_upto_region 9 with(fail);rw[hn];go_wp2_with fail;go_loopg [11,12,51] u.size (fun kq v11 v12 v51 W=>∃(part times j:Int),v11= .int .u32 part∧v12= .int .u32 times∧v51= .int .i64 j∧W=Lib.bytesWorld wr 5 u∧Aside0 (0≤j∧j≤u.size∧u.size≤kq+j∧part=dec 0 ((bytesOf u).take j.toNat)∧times=10^j.toNat))
   case atStart=>exact⟨0,1,0,rfl,rfl,rfl,rfl,⟨by omega,by omega,by omega,rfl,rfl⟩⟩
   case round=>
    obtain⟨part,times,j,rfl,rfl,rfl,rfl,HJ⟩:=hrel
    by_cases hj:j<(u.size:Int)
    ·have hj1:=zT hj;have hj2:=eq_true HJ.out.1;have hj3:=eq_true hj;have RP:(bytesOf u).length=u.size:=bytesOf_length u;have YN:u.size≤1000:=by have:=HN.out.2.2.2.1;have:=HN.out.2.1;omega
     obtain⟨ad,e,hx⟩:=(AZ wr 5 u (by omega)).at_ j HJ.out.1 hj;cases e;have hx:(Lib.bytesWorld wr 5 u).cell? {block:=wr.heap.size,off:=j.toNat}=some (.int .u8 (rd (bytesOf u) j)):=by rw[add_plain]at hx;simpa using hx
     have hc:=Ac (show Num (bytesOf u)by rw[HN.out.2.2.2.2.2.1];exact HR.out.2.2.1.take _) j (by rw[RP];have:=HJ.out.1;omega);have hts:=wM (xs:=bytesOf u) 0 j.toNat (by rw[RP];have:=HJ.out.1;omega);have hjj:((j.toNat:Nat):Int)=j:=by have:=HJ.out.1;omega
     rw[hjj]at hts;obtain⟨c,hcc⟩:∃c,rd (bytesOf u) j=c:=⟨_,rfl⟩;rw[hcc]at hx hc hts;have hc1:decide (c<48)=false:=decide_eq_false (by omega);have hc2:decide (57<c)=false:=decide_eq_false (by omega);have hpr:=jh ((show Num (bytesOf u)by rw[HN.out.2.2.2.2.2.1];exact HR.out.2.2.1.take _).take j.toNat);have HC:=zM (zA hc (zA hts (zA hpr (zA RP hjj))));clear hc hts hpr RP hj hjj hcc;go_wp2_with fail;have hp9:=yR j.toNat (by have:=HN.out.2.1;have:=HN.out.2.2.2.1;have:=HJ.out.1;have:=of_eq_true hj3;omega);have hp8:=yR (j.toNat+1) (by have:=HN.out.2.1;have:=HN.out.2.2.2.1;have:=HJ.out.1;have:=of_eq_true hj3;omega);have hlt:((bytesOf u).take j.toNat).length=j.toNat:=by rw[List.length_take,HC.out.2.2.2.1];have:=HJ.out.1;have:=of_eq_true hj3;omega
     have hpr:=HC.out.2.2.1;rw[hlt,←HJ.out.2.2.2.1]at hpr;have hts:=HC.out.2.1;rw[←HJ.out.2.2.2.1]at hts;have hc:=HC.out.1;have hj0:=HJ.out.1;have hjn:=of_eq_true hj3;have hkq:=HJ.out.2.2.1;have hti:=HJ.out.2.2.2.2;obtain⟨k2,rfl⟩:∃k2,gk=k2+1:=⟨gk- 1,by omega⟩;rw[Int.pow_succ,←hti]at hp8;rw[←hti]at hp9 hpr;have hj4:(j+1).toNat=j.toNat+1:=by omega
     have e1:(part*10%4294967296+(c- 48)%256)%4294967296=part*10+(c- 48):=by omega
     have e2:times*10%4294967296=times*10:=by omega
     have e3:wrap64 (j+1)=j+1:=fD (by omega) (by omega);go_roundg k2
     case measure=>omega
     case rel=>exact⟨part*10+(c- 48),times*10,j+1,by rw[e1],by rw[e2],by rw[e3],rfl,⟨by omega,by omega,by omega,by rw[hj4];exact hts.symm,by rw[hj4,Int.pow_succ,←hti]⟩⟩
    ·have hj1:=zF hj;have HJ2:=zM (show j=u.size by have:=HJ.out.2.1;omega);clear hj;have RP:(bytesOf u).length=u.size:=bytesOf_length u;have hju:(bytesOf u).take j.toNat=bytesOf u:=List.take_of_length_le (by rw[RP,HJ2.out];omega);have hnu:Num (bytesOf u):=by rw[HN.out.2.2.2.2.2.1];exact HR.out.2.2.1.take _
     have hpr:=jh hnu;have hun:u.size=n.toNat:=HN.out.2.2.2.1;have hn9:=HN.out.2.1;have hp9:=yR u.size (by omega);have hpart:=HJ.out.2.2.2.1;have D9:=HJ.out.2.2.2.2;rw[hju]at hpart;rw[show j.toNat=u.size by rw[HJ2.out];omega]at D9;rw[RP,←hpart,←D9]at hpr;rw[←D9]at hp9;obtain⟨r,he,hrd,hrl,RS⟩:=OC (add:=part) HR.out.2.2.2.2.1 (show 0≤times by omega) (by omega) (by omega) (by omega) (show xs.length<35184372088832 by have:=HR.out.2.2.2.2.2.1;have:=HD.out.2;omega);obtain⟨kk,hk⟩:=he.rounds;have HM:=zM (zA hk (zA hrd (zA hrl RS)));have HE:=zM (zA hpart D9);have hbb:Below wr.heap.size wr (Lib.bytesWorld wr 5 u):=lK (Below.refl _ _) (Nat.le_refl _) 5 u;have HB:=zM (zA (show afW (Lib.bytesWorld wr 5 u) w.heap.size u9 xs from Kd.dK HR.out.2.2.2.2.2.2.1 hbb) (ah HR.out.2.2.2.2.2.2.2 HR.out.2.2.2.2.2.2.2.size hbb));clear RP hju hnu hpr hun hn9 hp9 hpart D9 he hk hrd hrl RS hbb;go_wp2_with fail;go_region_with ((go_at_call 204;refine(dX.calls kk (fun _=>True) u9 xs times part r w _ (by first|exact HB.out.2|exact dB HB.out.2) (by first|exact HB.out.1|exact Kd.dR HB.out.1) HM.out.1).mono ?_;rintro e w3 ⟨v3,rfl,h1,h2,_⟩;have HF:=zM (zA h1 h2);clear h1 h2))
     all_goals(
      go_wp2_with fail;go_roundg k1
      case measure=>omega
      case rel=>
       have h1:=HN.out;have h2:=HR.out;refine⟨t2,r,rfl,⟨by omega,by omega,?_,?_,HM.out.2.1,by have:=HM.out.2.2.1;omega,Kd.gI HF.out.1 (fun _ _=>trivial),HF.out.2⟩⟩
       ·rw[h1.2.2.2.2.2.2];exact h2.2.2.1.drop _
       ·rw[HM.out.2.2.2,←h2.2.2.2.1,Qi _ (bytesOf t) n.toNat,h1.2.2.2.2.2.2,←h1.2.2.2.2.2.1,CU (bytesOf u),bytesOf_length,HE.out.1,HE.out.2])
def minus (s:ByteArray):Bool:=decide (0<s.size∧bt s 0=45)
def body (s:ByteArray):ByteArray:=if minus s then s.extract 1 s.size else s
def uk (s:ByteArray):Prop:=lU (body s)∧(minus s=true→dv (body s)≠0)
theorem Kv (s:ByteArray)(h:0<s.size):((s.extract 0 1).toList==[45])=decide (bt s 0=45):=by
 have h1:=bV s;rw[ByteArray.toList_eq];have e:(s.extract 0 1).data.toList=s.data.toList.take 1:=by simp[ByteArray.data_extract,Array.toList_extract,List.extract]
 rw[e];have hr:=gW s 0;cases hd:s.data.toList with
 |nil=>rw[hd]at h1;simp at h1;omega
 |cons a b=>
  have hb:bt s 0=(a.toNat:Int):=by rw[←hr];simp[bytesOf,hd,rd]
  rw[hb];simp only[List.take_succ_cons,List.take_zero]
  by_cases ha:a=45
  ·subst ha;decide
  ·have:¬((a.toNat:Int)=45):=fun h=>ha (UInt8.toNat_inj.1 (by simp;omega))
   rw[decide_eq_false this];simp[ha]
theorem yF (s:ByteArray):strings_CutPrefix.f s ⟨#[45]⟩=some (body s,minus s):=by
 unfold strings_CutPrefix.f stringslite_CutPrefix.f stringslite_HasPrefix.f;have h1:((⟨#[45]⟩:ByteArray).size:Int)=1:=rfl;rw[h1]
 by_cases h:0<s.size
 ·rw[if_pos (by omega),if_pos (by omega),if_pos (by omega)];have e:=Kv s h;have e2:(⟨#[45]⟩:ByteArray).toList=[45]:=by rw[ByteArray.toList_eq]
  rw[e2,show((1:Int).toNat)=1 from rfl,e];simp only[Option.bind_some];unfold body minus
  by_cases h2:bt s 0=45
  ·rw[decide_eq_true h2,if_pos rfl,if_pos (by omega),if_pos (by omega)];simp[h,h2]
  ·rw[decide_eq_false h2];simp[h2]
 ·rw[if_neg (by omega)];simp only[Option.bind_some];unfold body minus;simp[h]
theorem uF (s:ByteArray)(w:World)(h:lU s):Calls Tryz.prog 112 #[.string s] w fun e w'=>∃g xs,e= .returned (.pointer (some ⟨g,0,none⟩))∧w.heap.size≤g∧iy w' g false xs∧Wd xs∧val 4294967296 xs=dv s∧Below w.heap.size w w':=by
 obtain⟨b,he,hb⟩:=xJ s;obtain⟨k,hk⟩:=he.rounds;obtain rfl:=hb.2 h;have HK:=zM (zA hk h);clear hk hb he h;go_enter Tryz.func112,Tryz.ntmps112;go_wp2_with fail;refine(bM.calls k s true _ HK.out.1).mono ?_;rintro e w1 ⟨rfl,h1⟩;have hb1:=h1.below;have HF:=zM hb1;clear h1 hb1;go_wp2_with fail;refine(uO w1.heap.size s 10 _ _ _ (bZ w1 _) HK.out.2.1 (by have:=HK.out.2.2.1;omega) HK.out.2.2.2.2).mono ?_;rintro e w2 ⟨xs,rfl,h1,h2,h3,h4⟩;have hb2:Below w.heap.size w w2:=ah HF.out HF.out.size ((gm.dU (ag (Below.refl _ _) _) h4).below (fun k hk=>by subst hk;exact Nat.le_refl _));have HG:=zM (zA HF.out.size (zA h3 (zA h1 (zA h2 hb2))));clear h1 h2 h3 h4 hb2;go_wp2_with fail;go_ret;exact⟨w1.heap.size,xs,rfl,HG.out⟩
theorem Eh (s:ByteArray)(w:World)(h:¬lU s):Calls Tryz.prog 112 #[.string s] w fun e w'=>e= .returned (.pointer none)∧Below w.heap.size w w':=by
 obtain⟨b,he,hb⟩:=xJ s;obtain⟨k,hk⟩:=he.rounds;obtain rfl:b=false:=by cases b with|false=>rfl|true=>exact absurd (hb.1 rfl) h
 have HK:=zM hk;clear hk hb he h;go_enter Tryz.func112,Tryz.ntmps112;go_wp2_with fail;refine(bM.calls k s false _ HK.out).mono ?_;rintro e w1 ⟨rfl,h1⟩;have hb1:=h1.below;have HF:=zM hb1;clear h1 hb1;go_wp2_with fail;go_ret;exact⟨rfl,HF.out⟩
theorem TG (s:ByteArray)(w:World)(h:uk s):Calls Tryz.prog 111 #[.string s] w fun e w'=>∃g xs,e= .returned (.pointer (some ⟨g,0,none⟩))∧w.heap.size≤g∧iy w' g (minus s) xs∧Wd xs∧val 4294967296 xs=dv (body s)∧Below w.heap.size w w':=by
 have HK:=zM h;obtain⟨m,hm⟩:∃m,minus s=m:=⟨_,rfl⟩;have HC:=zM (yF s);have HM:=zM hm;rw[hm];clear h hm;go_enter Tryz.func111,Tryz.ntmps111;go_wp2_with fail;refine(strings_CutPrefix.calls s ⟨#[45]⟩ (body s) m _ (by rw[HC.out,HM.out])).mono ?_;rintro e w1 ⟨rfl,h1⟩;have hb1:=h1.below;have HF:=zM hb1;clear h1 hb1;go_wp2_with fail;refine(uF (body s) _ HK.out.1).mono ?_;rintro e w2 ⟨g,xs,rfl,h1,h2,h3,h4,h5⟩;have HG:=zM (zA (Nat.le_trans HF.out.size h1) (zA h2 (zA h3 (zA h4 (ah HF.out HF.out.size h5)))));clear h1 h2 h3 h4 h5;cases m with
 |false=>
  go_wp2_with fail;go_ret;exact⟨g,xs,rfl,HG.out⟩
 |true=>
  have hx:xs≠[]:=by
   intro e;have h1:=HG.out.2.2.2.1;rw[e]at h1;exact HK.out.2 HM.out (by simpa[val]using h1.symm)
  have hs:wC false xs=1:=by simp[wC,hx]
  have HX:=zM (zA hx hs);clear hx hs;go_wp2_with fail;refine(jL g 0 false xs _ HG.out.2.1.c).mono ?_;rintro e w' ⟨rfl,rfl⟩;rw[HX.out.2];obtain⟨A,c,hb,_⟩:=HG.out.2.1;have HB:=zM hb;clear hb;go_wp2_with fail;refine(XH g g 0 false xs _ _ _ HB.out HG.out.2.1.c HG.out.2.2.1).mono ?_;rintro e w3 ⟨rfl,h1,h2⟩;have HH:=zM (zA h1 h2);clear h1 h2;go_wp2_with fail;go_ret;refine⟨g,xs,rfl,HG.out.1,?_,HG.out.2.2.1,HG.out.2.2.2.1,?_⟩
  ·have h:=HH.out.1;have e:(!false&& !xs.isEmpty)=true:=by cases xs with|nil=>exact absurd rfl HX.out.1|cons _ _=>rfl
   rwa [e]at h
  ·exact(gm.dU HG.out.2.2.2.2 HH.out.2).below (fun k hk=>by subst hk;exact HG.out.1)
def kL (n d:ByteArray):Prop:=uk n∧lU d∧dv d≠0∧ja (dv (body n)) (dv d)=1
def uj (s:ByteArray)(w:World)(p:Option Addr):Prop:=(uk s∧∃g xs,p=some ⟨g,0,none⟩∧iy w g (minus s) xs∧Wd xs∧val 4294967296 xs=dv (body s))∨(¬uk s∧p=none)
def Dq (s:ByteArray)(w:World)(p:Option Addr):Prop:=(lU s∧∃g xs,p=some ⟨g,0,none⟩∧iy w g false xs∧Wd xs∧val 4294967296 xs=dv s)∨(¬lU s∧p=none)
theorem uj.below {s:ByteArray}{w w1:World}{p:Option Addr}(h:uj s w p)(hb:Below w.heap.size w w1):uj s w1 p:=by
 rcases h with⟨h,g,xs,h1,h2,h3⟩|h
 ·exact .inl ⟨h,g,xs,h1,h2.below hb,h3⟩
 ·exact .inr h
theorem Dq.below {s:ByteArray}{w w1:World}{p:Option Addr}(h:Dq s w p)(hb:Below w.heap.size w w1):Dq s w1 p:=by
 rcases h with⟨h,g,xs,h1,h2,h3⟩|h
 ·exact .inl ⟨h,g,xs,h1,h2.below hb,h3⟩
 ·exact .inr h
theorem Ls (s:ByteArray)(w:World):Calls Tryz.prog 112 #[.string s] w fun e w'=>∃p,e= .returned (.pointer p)∧Dq s w' p∧Below w.heap.size w w':=by
 by_cases h:lU s
 ·exact(uF s w h).mono fun e w' ⟨g,xs,he,_,h1,h2,h3,h4⟩=>⟨_,he,.inl ⟨h,g,xs,rfl,h1,h2,h3⟩,h4⟩
 ·exact(Eh s w h).mono fun e w' ⟨he,h4⟩=>⟨_,he,.inr ⟨h,rfl⟩,h4⟩
theorem Yw (s:ByteArray)(w:World)(h:¬uk s):Calls Tryz.prog 111 #[.string s] w fun e w'=>e= .returned (.pointer none)∧Below w.heap.size w w':=by
 have HK:=zM h;obtain⟨m,hm⟩:∃m,minus s=m:=⟨_,rfl⟩;have HC:=zM (yF s);have HM:=zM hm;clear h hm
 by_cases hn:lU (body s)
 ·have HN:=zM hn
  have hm2:m=true:=by
   cases m with
   |true=>rfl
   |false=>exact absurd ⟨hn,fun h=>by rw[HM.out]at h;cases h⟩ HK.out
  have hz:dv (body s)=0:=Classical.byContradiction fun h=>HK.out ⟨hn,fun _=>h⟩
  have HZ:=zM hz;subst hm2;clear hn hz;go_enter Tryz.func111,Tryz.ntmps111;go_wp2_with fail;refine(strings_CutPrefix.calls s ⟨#[45]⟩ (body s) true _ (by rw[HC.out,HM.out])).mono ?_;rintro e w1 ⟨rfl,h1⟩;have hb1:=h1.below;have HF:=zM hb1;clear h1 hb1;go_wp2_with fail;refine(uF (body s) _ HN.out).mono ?_;rintro e w2 ⟨g,xs,rfl,h1,h2,h3,h4,h5⟩;have hx:xs=[]:=by rw[HZ.out]at h4;exact(h3.zero).1 h4
  have hs:wC false xs=0:=by rw[hx];rfl
  have HG:=zM (zA h2 (zA hs (ah HF.out HF.out.size h5)));clear h1 h2 h3 h4 h5 hx hs;go_wp2_with fail;refine(jL g 0 false xs _ HG.out.1.c).mono ?_;rintro e w' ⟨rfl,rfl⟩;rw[HG.out.2.1];go_wp2_with fail;go_ret;exact⟨rfl,HG.out.2.2⟩
 ·have HN:=zM hn;clear hn;go_enter Tryz.func111,Tryz.ntmps111;go_wp2_with fail;refine(strings_CutPrefix.calls s ⟨#[45]⟩ (body s) m _ (by rw[HC.out,HM.out])).mono ?_;rintro e w1 ⟨rfl,h1⟩;have hb1:=h1.below;have HF:=zM hb1;clear h1 hb1;go_wp2_with fail;refine(Eh (body s) _ HN.out).mono ?_;rintro e w2 ⟨rfl,h1⟩;have HG:=zM (ah HF.out HF.out.size h1);clear h1;go_wp2_with fail;go_ret;exact⟨rfl,HG.out⟩
theorem TF (s:ByteArray)(w:World):Calls Tryz.prog 111 #[.string s] w fun e w'=>∃p,e= .returned (.pointer p)∧uj s w' p∧Below w.heap.size w w':=by
 by_cases h:uk s
 ·exact(TG s w h).mono fun e w' ⟨g,xs,he,_,h1,h2,h3,h4⟩=>⟨_,he,.inl ⟨h,g,xs,rfl,h1,h2,h3⟩,h4⟩
 ·exact(Yw s w h).mono fun e w' ⟨he,h4⟩=>⟨_,he,.inr ⟨h,rfl⟩,h4⟩
theorem Tc (n d:ByteArray)(w:World):Calls Tryz.prog 79 #[.agg #[.string n,.string d]] w fun e w'=>∃p,e= .returned (.pointer p)∧(p.isSome=true↔kL n d)∧Below w.heap.size w w':=by
 go_enter Tryz.func79,Tryz.ntmps79;go_wp2_with fail;go_cut [3,4] (fun v3 v4 wc=>∃p q,v3= .pointer p∧v4= .pointer q∧Aside0 (uj n wc p∧Dq d wc q∧Below w.heap.size w wc))
 case first=>
  go_region_with ((first
   |(go_at_call 111;refine(TF n _).mono ?_;rintro e w1 ⟨p,rfl,h1,h2⟩;have c0:=cell_later (a:=⟨w.heap.size,0,none⟩) (v:= .string n) h2 (by first|assumption|simp);have c1:=cell_later (a:=⟨w.heap.size,1,none⟩) (v:= .string d) h2 (by first|assumption|simp);have HF:=zM (zA h1 h2);clear h1 h2)
   |(go_at_call 112;refine(Ls d _).mono ?_;rintro e w2 ⟨q,rfl,h1,h2⟩;have c0:=cell_later (a:=⟨w.heap.size,0,none⟩) (v:= .string n) h2 (by first|assumption|simp);have c1:=cell_later (a:=⟨w.heap.size,1,none⟩) (v:= .string d) h2 (by first|assumption|simp);have HG:=zM (zA h1 h2);clear h1 h2)))
  all_goals(go_wp2_with fail;go_simp;go_meet)
  all_goals(first
   |exact⟨p,q,rfl,rfl,⟨HF.out.1.below HG.out.2,HG.out.1,ah (ah (dB (ag (Below.refl _ _) _)) (by simp) HF.out.2) (by have:=HF.out.2.size;simp at this;omega) HG.out.2⟩⟩
   |exact⟨p,q,rfl,rfl,⟨HF.out.1,HG.out.1.below HF.out.2,ah (ah (dB (ag (Below.refl _ _) _)) (by simp) HG.out.2) (by have:=HG.out.2.size;simp at this;omega) HF.out.2⟩⟩)
 case rest=>
  obtain⟨p,q,rfl,rfl,HC⟩:=hcut;rcases HC.out.1 with⟨hw,gx,xs,rfl,hx,wx,vx⟩|⟨hw,rfl⟩
  ·rcases HC.out.2.1 with⟨hn,gy,ys,rfl,hy,wy,vy⟩|⟨hn,rfl⟩
   ·have HX:=zM (zA hw (zA hn (zA hx (zA hy (zA wx (zA wy (zA vx vy)))))));clear hw hn hx hy wx wy vx vy;go_wp2_with fail;refine(jL gy 0 false ys _ HX.out.2.2.2.1.c).mono ?_;rintro e w' ⟨rfl,rfl⟩
    by_cases hz:ys=[]
    ·have hs:wC false ys=0:=by rw[hz];rfl
     rw[hs];have HZ:=zM (show dv d=0 by rw[←HX.out.2.2.2.2.2.2.2,hz];rfl);clear hz hs;go_wp2_with fail;go_ret;exact⟨none,rfl,⟨fun h=>by simp at h,fun h=>absurd HZ.out h.2.2.1⟩,HC.out.2.2⟩
    ·have hs:wC false ys=1:=by simp[wC,hz]
     rw[hs];have HZ:=zM hz;clear hz hs;go_wp2_with fail;have hB2:Below wc.heap.size wc ((wc.alloc (Obj.cells #[Value.bool false,Value.slice none 0 0] 173)).alloc (Obj.cells #[Value.bool false,Value.slice none 0 0] 173)):=ag (ag (Below.refl _ _) _) _;have HB2:=zM hB2;clear hB2;refine(Dz (wc.heap.size+1) gx 0 (minus n) xs _ _ _ (by simpa using bZ (wc.alloc (.cells #[.bool false,.slice none 0 0] 173)) (.cells #[.bool false,.slice none 0 0] 173)) (HX.out.2.2.1.below HB2.out).c HX.out.2.2.2.2.1).mono ?_;rintro e w3 ⟨rfl,h1,h2⟩;have h3:Below wc.heap.size wc w3:=(gm.dU HB2.out h2).below (fun k hk=>by subst hk;omega)
     have hz0:w3.heap[wc.heap.size]?=some (.cells #[.bool false,.slice none 0 0] 173 (0,0)):=h2.blk (by
      have h:=bZ wc (.cells #[.bool false,.slice none 0 0] 173)
      exact((ag (Below.refl _ _) (.cells #[.bool false,.slice none 0 0] 173)).block _ (dV h)).trans h) (by omega)
     have H3:=zM (zA h1 (zA h3 hz0));clear h1 h2 h3 hz0;go_wp2_with fail;refine(KG wc.heap.size (wc.heap.size+1) gy 0 0 false false xs ys _ _ _ _ _ H3.out.2.2 H3.out.1.c (HX.out.2.2.2.1.below H3.out.2.1).c HX.out.2.2.2.2.1 HX.out.2.2.2.2.2.1).mono ?_;rintro e w4 ⟨gs,rfl,h1,h2,h3,h4⟩;have H4:=zM (zA h1 (zA h2 (zA h3 ((gm.dU H3.out.2.1 h4).below (fun k hk=>by subst hk;exact Nat.le_refl _)))));clear h1 h2 h3 h4;go_wp2_with fail;refine(jw 1 w4 (by omega) (by omega)).mono ?_;rintro e w5 ⟨g1,os,rfl,h1,h2,h3,h4,h5⟩;have H5:=zM (zA (H4.out.1.below h5) (zA h2 (zA h3 (zA h4 (ah H4.out.2.2.2 H4.out.2.2.2.size h5)))));clear h1 h2 h3 h4 h5;obtain⟨z,hz⟩:∃z,Ir (num false gs) (num false os)=z:=⟨_,rfl⟩;go_wp2_with fail;refine(JV wc.heap.size 0 g1 0 false false gs os w5 H5.out.1.c H5.out.2.1.c H4.out.2.1 H5.out.2.2.1 (fun h=>by cases h) (fun h=>by cases h)).mono ?_;rintro e w6 ⟨rfl,h1⟩;rw[hz];have hG:z=Ir (ja (dv (body n)) (dv d)) 1:=by rw[←hz];simp only[num,H4.out.2.2.1,H5.out.2.2.2.1,HX.out.2.2.2.2.2.2.1,HX.out.2.2.2.2.2.2.2];rfl
     have h2:=h1.below;have H6:=zM (zA hG (ah H5.out.2.2.2.2 H5.out.2.2.2.2.size h2));clear h1 h2 hG hz
     by_cases hz:z=0
     ·have hz1:(z==0)=true:=beq_iff_eq.mpr hz;have hz2:(z !=0)=false:=bne_eq_false_iff_eq.mpr hz;have HZ2:=zM hz;clear hz;go_wp2_with fail;refine(oU w6.heap.size gx 0 gy 0 (minus n) false xs ys _ _ _ _ _ (bZ w6 _) ((HX.out.2.2.1.below H6.out.2).below (ag (Below.refl _ _) _)).c ((HX.out.2.2.2.1.below H6.out.2).below (ag (Below.refl _ _) _)).c HX.out.2.2.2.2.1 HX.out.2.2.2.2.2.1 HZ.out).mono ?_;rintro e w7 ⟨ps,qs,rfl,h1,h2,h3⟩;have H7:=zM ((gm.dU (ag (Below.refl _ _) _) h3).below (fun k hk=>by subst hk;exact Nat.le_refl _));clear h1 h2 h3;go_wp2_with fail;go_ret;refine⟨_,rfl,⟨fun _=>⟨HX.out.1,HX.out.2.1,?_,?_⟩,fun _=>rfl⟩,ah HC.out.2.2 HC.out.2.2.size (ah H6.out.2 H6.out.2.size H7.out)⟩
      ·rw[←HX.out.2.2.2.2.2.2.2];have:=HX.out.2.2.2.2.2.1.pos HZ.out;omega
      ·have h:=H6.out.1;rw[HZ2.out]at h;unfold Ir at h;split at h
       ·omega
       ·split at h
        ·assumption
        ·omega
     ·have hz1:(z==0)=false:=beq_eq_false_iff_ne.mpr hz;have hz2:(z !=0)=true:=bne_iff_ne.mpr hz;have HZ2:=zM hz;clear hz;go_wp2_with fail;go_ret;refine⟨none,rfl,⟨fun h=>by simp at h,fun h=>?_⟩,ah HC.out.2.2 HC.out.2.2.size H6.out.2⟩;have h1:=H6.out.1;rw[h.2.2.2]at h1;exact absurd h1 HZ2.out
   ·have HN:=zM hn;clear hn hw hx wx vx;go_wp2_with fail;go_ret;exact⟨none,rfl,⟨fun h=>by simp at h,fun h=>absurd h.2.1 HN.out⟩,HC.out.2.2⟩
  ·have HN:=zM hw;clear hw;go_wp2_with fail;go_ret;exact⟨none,rfl,⟨fun h=>by simp at h,fun h=>absurd h.1 HN.out⟩,HC.out.2.2⟩
theorem xW (n d:ByteArray)(w:World):Calls Tryz.prog 43 #[.agg #[.string n,.string d]] w fun e w'=>∃b,e= .returned (.bool b)∧(b=true↔kL n d)∧Below w.heap.size w w':=by
 go_enter Tryz.func43,Tryz.ntmps43;go_wp2_with fail;refine(Tc n d _).mono ?_;rintro e w1 ⟨p,rfl,h1,h2⟩;have HF:=zM (zA h1 (ah (ag (Below.refl w.heap.size w) (.cells #[.string n,.string d] 39)) (by simp) h2));clear h1 h2;go_wp2_with fail;go_ret;refine⟨p.isSome,?_,HF.out⟩;cases p<;>rfl
def mf (n d:ByteArray):ByteArray:=if(d.toList==[49])=true then n else n++⟨#[47]⟩++d
theorem Q5 (s:ByteArray):s.size≤(body s).size+1:=by
 unfold body;split
 ·simp only[ByteArray.size_extract];omega
 ·omega
theorem kL.sizes {n d:ByteArray}(h:kL n d):n.size≤601∧d.size≤600:=by
 have h1:=h.1.1.2.1;have h2:=h.2.1.2.1;have:=Q5 n;omega
theorem Jb (n d:ByteArray)(w:World)(h:kL n d):Calls Tryz.prog 121 #[.agg #[.string n,.string d]] w fun e w'=>e= .returned (.tuple #[.string (mf n d),.int .i64 0])∧Below w.heap.size w w':=by
 have hs:=h.sizes;have l1:¬9223372036854775807<n.size+1:=by omega
 have l2:¬9223372036854775807<n.size+1+d.size:=by omega
 have HR:=zM h;clear hs h;go_enter Tryz.func121,Tryz.ntmps121;go_wp2_with fail;refine(xW n d _).mono ?_;rintro e w1 ⟨b,rfl,h1,h2⟩;obtain rfl:=h1.2 HR.out;have c0:=cell_later (a:=⟨w.heap.size,0,none⟩) (v:= .string n) h2 (by simp);have c1:=cell_later (a:=⟨w.heap.size,1,none⟩) (v:= .string d) h2 (by simp);have HF:=zM (ah (ag (Below.refl w.heap.size w) (.cells #[.string n,.string d] 39)) (by simp) h2);clear h1 h2
 by_cases hd:(d.toList==[49])=true
 ·have HD:=zM hd;go_wp2_with fail;go_ret2;have e:mf n d=n:=if_pos HD.out;exact⟨by rw[e];rfl,HF.out⟩
 ·have HD:=zM hd;have hd2:(d.toList==[49])=false:=Bool.eq_false_iff.mpr hd;clear hd;go_wp2_with fail;go_ret2;have e:mf n d=n++⟨#[47]⟩++d:=if_neg HD.out;exact⟨by rw[e];rfl,HF.out⟩
theorem xK (n d:ByteArray)(w:World)(h:kL n d):Calls Tryz.prog 86 #[.agg #[.string n,.string d]] w fun e w'=>e= .returned (.string (mf n d))∧Below w.heap.size w w':=by
 have HR:=zM h;clear h;go_enter Tryz.func86,Tryz.ntmps86;go_wp2_with fail;refine(Jb n d _ HR.out).mono ?_;rintro e w1 ⟨rfl,h2⟩;have HF:=zM (ah (ag (Below.refl w.heap.size w) (.cells #[.string n,.string d] 39)) (by simp) h2);clear h2;go_wp2_with fail;go_ret;exact⟨rfl,HF.out⟩
theorem EI {s:ByteArray}(h:0<s.size):s.toList.isEmpty=false:=by
 rw[ByteArray.toList_eq];have h1:=bV s;cases hh:s.data.toList with
 |nil=>rw[hh]at h1;simp at h1;omega
 |cons a b=>rfl
theorem ML {s:ByteArray}(h:s.size=0):s.toList.isEmpty=true:=by
 rw[ByteArray.toList_eq];have h1:=bV s;rw[List.isEmpty_iff];exact List.eq_nil_of_length_eq_zero (by omega)
theorem IU {s:ByteArray}(h:(s.toList==[48])=true):s=⟨#[48]⟩:=by
 rw[ByteArray.toList_eq]at h;have e2:s.data.toList=[48]:=by simpa using h
 cases s;rename_i a;cases a;simpa using e2
def UE (n d s:ByteArray):Prop:=kL n d↔(lU s∧lU d∧dv d≠0∧ja (dv s) (dv d)=1)
theorem PK {n d:ByteArray}(h:minus n=false):UE n d n:=by
 have hb:body n=n:=by unfold body;rw[h];rfl
 unfold UE kL uk;rw[hb,h];simp
theorem PI {n d:ByteArray}(h:minus n=true)(h0:((body n).toList==[48])=false):UE n d (body n):=by
 unfold UE kL uk;refine⟨fun h1=>⟨h1.1.1,h1.2⟩,fun h1=>⟨⟨h1.1,fun _ hz=>?_⟩,h1.2⟩⟩;have:=(iZ h1.1.canon 48 (by decide) (by decide)).2 (by rw[hz];rfl);rw[h0]at this;cases this
theorem OB {n d:ByteArray}(h:minus n=true)(h0:((body n).toList==[48])=true):¬kL n d:=by
 intro h1;refine h1.1.2 h ?_;rw[IU h0];rfl
theorem qP (n d:ByteArray)(w:World):Calls Tryz.prog 57 #[.agg #[.string n,.string d]] w fun e w'=>∃b,e= .returned (.bool b)∧(b=true↔kL n d)∧Below w.heap.size w w':=by
 obtain⟨b2,he2,hb2⟩:=qO d;obtain⟨k2,hk2⟩:=he2.rounds;have HD:=zM (zA hk2 hb2);clear he2 hk2 hb2;have hB0:Below w.heap.size w (w.alloc (.cells #[.string n,.string d] 39)):=ag (Below.refl _ _) _;have hc1:(w.alloc (.cells #[.string n,.string d] 39)).cell? ⟨w.heap.size,1,none⟩=some (.string d):=by simp
 have hc0:(w.alloc (.cells #[.string n,.string d] 39)).cell? ⟨w.heap.size,0,none⟩=some (.string n):=by simp
 obtain⟨W,hW⟩:∃W,w.alloc (.cells #[.string n,.string d] 39)=W:=⟨_,rfl⟩;rw[hW]at hB0 hc0 hc1;have HB:=zM hB0;clear hB0
 by_cases hm:minus n=true
 ·have hmm:0<n.size∧bt n 0=45:=by unfold minus at hm;exact of_decide_eq_true hm
  have q0:=eq_true hmm.1;have qe:=EI hmm.1;have hx:∀h:0<n.size,((n[0]'h).toNat:Int)=bt n 0:=dQ n 0;have h45:((bt n 0)==45)=true:=beq_iff_eq.mpr hmm.2;have hbody:body n=n.extract 1 n.size:=by unfold body;rw[if_pos hm]
  obtain⟨s,hs⟩:∃s,n.extract 1 n.size=s:=⟨_,rfl⟩;have hbs:body n=s:=hbody.trans hs
  have hsl:∀W,(Instr.slice 9 (.string n) (some (.int .i64 1)) none none).run Tryz.prog W= .ok (.string s) W:=by
   intro W;have h:=run_slice_string_from_if (P:=Tryz.prog) W 9 n .i64 1 Tryz.underlying9;rw[h];simp[hs];omega
  have HM:=zM (zA hm hbs);obtain⟨b1,he1,hb1⟩:=qO s;obtain⟨k1,hk1⟩:=he1.rounds;have HK:=zM (zA hk1 hb1);clear he1 hk1 hb1 hmm hm hbody hs hbs
  by_cases h0:(s.toList==[48])=true
  ·have H0:=zM h0;go_enter Tryz.func57,Tryz.ntmps57;go_wp2_with fail;go_ret;refine⟨false,rfl,⟨(fun h=>by cases h),fun h=>absurd h (OB HM.out.1 (by rw[HM.out.2];exact H0.out))⟩,HB.out⟩
  ·have h01:(s.toList==[48])=false:=Bool.eq_false_iff.mpr h0;have HT:=zM (show UE n d s by have h:=PI (n:=n) (d:=d) HM.out.1 (by rw[HM.out.2];exact h01);rwa [HM.out.2]at h);clear h0;go_enter Tryz.func57,Tryz.ntmps57;go_wp2_with fail;refine(ed.calls _ s b1 _ HK.out.1).mono ?_;rintro e w1 ⟨rfl,h1⟩;have hb1:=h1.below;have hc2:=cell_later hb1 hc1;have H1:=zM (ah HB.out HB.out.size hb1);clear h1 hb1 hc0 hc1 hW;cases b1 with
   |false=>
    go_wp2_with fail;go_ret;exact⟨false,rfl,⟨(fun h=>by cases h),fun h=>absurd (HK.out.2.2 ((HT.out.1 h).1)) (by simp)⟩,H1.out⟩
   |true=>
    go_wp2_with fail;refine(ed.calls _ d b2 _ HD.out.1).mono ?_;rintro e w2 ⟨rfl,h1⟩;have hb2:=h1.below;have hc3:=cell_later hb2 hc2;have H2:=zM (ah H1.out H1.out.size hb2);clear h1 hb2 hc2;cases b2 with
    |false=>
     go_wp2_with fail;go_ret;exact⟨false,rfl,⟨(fun h=>by cases h),fun h=>absurd (HD.out.2.2 ((HT.out.1 h).2.1)) (by simp)⟩,H2.out⟩
    |true=>
     have hcs:lU s:=HK.out.2.1 (by first|rfl|trivial);have hcd:lU d:=HD.out.2.1 (by first|rfl|trivial);have hd0:=iZ hcd.canon 48 (by decide) (by decide);have HC:=zM (zA hcs hcd)
     by_cases hz:(d.toList==[48])=true
     ·have hz2:(d.toList !=[48])=false:=by rw[bne,hz];rfl
      have HZ:=zM (show dv d=0 from by rw[hd0.1 hz];rfl);clear hcs hcd hd0;go_wp2_with fail;go_ret;exact⟨false,rfl,⟨(fun h=>by cases h),fun h=>absurd HZ.out ((HT.out.1 h).2.2.1)⟩,H2.out⟩
     ·have hz1:(d.toList==[48])=false:=Bool.eq_false_iff.mpr hz;have hz2:(d.toList !=[48])=true:=by rw[bne,hz1];rfl
      have HZ:=zM (show dv d≠0 from fun h=>hz (hd0.2 (by rw[h];rfl)));clear hcs hcd hd0 hz;go_wp2_with fail;refine(qw s d _ HC.out.1.canon HC.out.2.canon (by have:=HC.out.1.2.1;omega) (by have:=HC.out.2.2.1;omega)).mono ?_;rintro e w3 ⟨g,rfl,h1,h2,h3⟩;have hg1:=iZ h1 49 (by decide) (by decide);have H3:=zM (zA h2 (zA hg1 (ah H2.out H2.out.size h3)));clear h1 h2 h3 hg1
      by_cases hg:(g.toList==[49])=true
      ·have HG:=zM hg;go_wp2_with fail;go_ret;exact⟨true,rfl,⟨fun _=>HT.out.2 ⟨HC.out.1,HC.out.2,HZ.out,by rw[←H3.out.1,H3.out.2.1.1 HG.out];rfl⟩,fun _=>rfl⟩,H3.out.2.2⟩
      ·have hg2:(g.toList==[49])=false:=Bool.eq_false_iff.mpr hg;have HG:=zM hg;clear hg;go_wp2_with fail;go_ret;exact⟨false,rfl,⟨(fun h=>by cases h),fun h=>absurd (H3.out.2.1.2 (by rw[H3.out.1,(HT.out.1 h).2.2.2];rfl)) HG.out⟩,H3.out.2.2⟩
 ·have hm2:minus n=false:=Bool.eq_false_iff.mpr hm;have HT:=zM (PK (d:=d) hm2);obtain⟨b1,he1,hb1⟩:=qO n;obtain⟨k1,hk1⟩:=he1.rounds;have HK:=zM (zA hk1 hb1);clear he1 hk1 hb1 hm2
  by_cases hz:n.size=0
  ·have qe:=ML hz;clear hm hz;go_enter Tryz.func57,Tryz.ntmps57;go_wp2_with fail;refine(ed.calls _ n b1 _ HK.out.1).mono ?_;rintro e w1 ⟨rfl,h1⟩;have hb1:=h1.below;have hc2:=cell_later hb1 hc1;have H1:=zM (ah HB.out HB.out.size hb1);clear h1 hb1 hc0 hc1 hW;cases b1 with
   |false=>
    go_wp2_with fail;go_ret;exact⟨false,rfl,⟨(fun h=>by cases h),fun h=>absurd (HK.out.2.2 ((HT.out.1 h).1)) (by simp)⟩,H1.out⟩
   |true=>
    go_wp2_with fail;refine(ed.calls _ d b2 _ HD.out.1).mono ?_;rintro e w2 ⟨rfl,h1⟩;have hb2:=h1.below;have hc3:=cell_later hb2 hc2;have H2:=zM (ah H1.out H1.out.size hb2);clear h1 hb2 hc2;cases b2 with
    |false=>
     go_wp2_with fail;go_ret;exact⟨false,rfl,⟨(fun h=>by cases h),fun h=>absurd (HD.out.2.2 ((HT.out.1 h).2.1)) (by simp)⟩,H2.out⟩
    |true=>
     have hcs:lU n:=HK.out.2.1 (by first|rfl|trivial);have hcd:lU d:=HD.out.2.1 (by first|rfl|trivial);have hd0:=iZ hcd.canon 48 (by decide) (by decide);have HC:=zM (zA hcs hcd)
     by_cases hz:(d.toList==[48])=true
     ·have hz2:(d.toList !=[48])=false:=by rw[bne,hz];rfl
      have HZ:=zM (show dv d=0 from by rw[hd0.1 hz];rfl);clear hcs hcd hd0;go_wp2_with fail;go_ret;exact⟨false,rfl,⟨(fun h=>by cases h),fun h=>absurd HZ.out ((HT.out.1 h).2.2.1)⟩,H2.out⟩
     ·have hz1:(d.toList==[48])=false:=Bool.eq_false_iff.mpr hz;have hz2:(d.toList !=[48])=true:=by rw[bne,hz1];rfl
      have HZ:=zM (show dv d≠0 from fun h=>hz (hd0.2 (by rw[h];rfl)));clear hcs hcd hd0 hz;go_wp2_with fail;refine(qw n d _ HC.out.1.canon HC.out.2.canon (by have:=HC.out.1.2.1;omega) (by have:=HC.out.2.2.1;omega)).mono ?_;rintro e w3 ⟨g,rfl,h1,h2,h3⟩;have hg1:=iZ h1 49 (by decide) (by decide);have H3:=zM (zA h2 (zA hg1 (ah H2.out H2.out.size h3)));clear h1 h2 h3 hg1
      by_cases hg:(g.toList==[49])=true
      ·have HG:=zM hg;go_wp2_with fail;go_ret;exact⟨true,rfl,⟨fun _=>HT.out.2 ⟨HC.out.1,HC.out.2,HZ.out,by rw[←H3.out.1,H3.out.2.1.1 HG.out];rfl⟩,fun _=>rfl⟩,H3.out.2.2⟩
      ·have hg2:(g.toList==[49])=false:=Bool.eq_false_iff.mpr hg;have HG:=zM hg;clear hg;go_wp2_with fail;go_ret;exact⟨false,rfl,⟨(fun h=>by cases h),fun h=>absurd (H3.out.2.1.2 (by rw[H3.out.1,(HT.out.1 h).2.2.2];rfl)) HG.out⟩,H3.out.2.2⟩
  ·have qe:=EI (show 0<n.size by omega);have q0:=eq_true (show 0<n.size by omega);have hx:∀h:0<n.size,((n[0]'h).toNat:Int)=bt n 0:=dQ n 0;have h45:((bt n 0)==45)=false:=beq_eq_false_iff_ne.mpr (fun h=>hm (by unfold minus;exact decide_eq_true ⟨by omega,h⟩));clear hm hz;go_enter Tryz.func57,Tryz.ntmps57;go_wp2_with fail;refine(ed.calls _ n b1 _ HK.out.1).mono ?_;rintro e w1 ⟨rfl,h1⟩;have hb1:=h1.below;have hc2:=cell_later hb1 hc1;have H1:=zM (ah HB.out HB.out.size hb1);clear h1 hb1 hc0 hc1 hW;cases b1 with
   |false=>
    go_wp2_with fail;go_ret;exact⟨false,rfl,⟨(fun h=>by cases h),fun h=>absurd (HK.out.2.2 ((HT.out.1 h).1)) (by simp)⟩,H1.out⟩
   |true=>
    go_wp2_with fail;refine(ed.calls _ d b2 _ HD.out.1).mono ?_;rintro e w2 ⟨rfl,h1⟩;have hb2:=h1.below;have hc3:=cell_later hb2 hc2;have H2:=zM (ah H1.out H1.out.size hb2);clear h1 hb2 hc2;cases b2 with
    |false=>
     go_wp2_with fail;go_ret;exact⟨false,rfl,⟨(fun h=>by cases h),fun h=>absurd (HD.out.2.2 ((HT.out.1 h).2.1)) (by simp)⟩,H2.out⟩
    |true=>
     have hcs:lU n:=HK.out.2.1 (by first|rfl|trivial);have hcd:lU d:=HD.out.2.1 (by first|rfl|trivial);have hd0:=iZ hcd.canon 48 (by decide) (by decide);have HC:=zM (zA hcs hcd)
     by_cases hz:(d.toList==[48])=true
     ·have hz2:(d.toList !=[48])=false:=by rw[bne,hz];rfl
      have HZ:=zM (show dv d=0 from by rw[hd0.1 hz];rfl);clear hcs hcd hd0;go_wp2_with fail;go_ret;exact⟨false,rfl,⟨(fun h=>by cases h),fun h=>absurd HZ.out ((HT.out.1 h).2.2.1)⟩,H2.out⟩
     ·have hz1:(d.toList==[48])=false:=Bool.eq_false_iff.mpr hz;have hz2:(d.toList !=[48])=true:=by rw[bne,hz1];rfl
      have HZ:=zM (show dv d≠0 from fun h=>hz (hd0.2 (by rw[h];rfl)));clear hcs hcd hd0 hz;go_wp2_with fail;refine(qw n d _ HC.out.1.canon HC.out.2.canon (by have:=HC.out.1.2.1;omega) (by have:=HC.out.2.2.1;omega)).mono ?_;rintro e w3 ⟨g,rfl,h1,h2,h3⟩;have hg1:=iZ h1 49 (by decide) (by decide);have H3:=zM (zA h2 (zA hg1 (ah H2.out H2.out.size h3)));clear h1 h2 h3 hg1
      by_cases hg:(g.toList==[49])=true
      ·have HG:=zM hg;go_wp2_with fail;go_ret;exact⟨true,rfl,⟨fun _=>HT.out.2 ⟨HC.out.1,HC.out.2,HZ.out,by rw[←H3.out.1,H3.out.2.1.1 HG.out];rfl⟩,fun _=>rfl⟩,H3.out.2.2⟩
      ·have hg2:(g.toList==[49])=false:=Bool.eq_false_iff.mpr hg;have HG:=zM hg;clear hg;go_wp2_with fail;go_ret;exact⟨false,rfl,⟨(fun h=>by cases h),fun h=>absurd (H3.out.2.1.2 (by rw[H3.out.1,(HT.out.1 h).2.2.2];rfl)) HG.out⟩,H3.out.2.2⟩
theorem Jh (n d:ByteArray)(w:World)(h:kL n d):Calls Tryz.prog 58 #[.agg #[.string n,.string d]] w fun e w'=>e= .returned (.tuple #[.string (mf n d),.int .i64 0])∧Below w.heap.size w w':=by
 have hs:=h.sizes;have l1:¬9223372036854775807<n.size+1:=by omega
 have l2:¬9223372036854775807<n.size+1+d.size:=by omega
 have HR:=zM h;clear hs h;go_enter Tryz.func58,Tryz.ntmps58;go_wp2_with fail;refine(qP n d _).mono ?_;rintro e w1 ⟨b,rfl,h1,h2⟩;obtain rfl:=h1.2 HR.out;have c0:=cell_later (a:=⟨w.heap.size,0,none⟩) (v:= .string n) h2 (by simp);have c1:=cell_later (a:=⟨w.heap.size,1,none⟩) (v:= .string d) h2 (by simp);have HF:=zM (ah (ag (Below.refl w.heap.size w) (.cells #[.string n,.string d] 39)) (by simp) h2);clear h1 h2
 by_cases hd:(d.toList==[49])=true
 ·have HD:=zM hd;go_wp2_with fail;go_ret2;have e:mf n d=n:=if_pos HD.out;exact⟨by rw[e];rfl,HF.out⟩
 ·have HD:=zM hd;have hd2:(d.toList==[49])=false:=Bool.eq_false_iff.mpr hd;clear hd;go_wp2_with fail;go_ret2;have e:mf n d=n++⟨#[47]⟩++d:=if_neg HD.out;exact⟨by rw[e];rfl,HF.out⟩
def EV (x:iU)(A:Option Addr)(c:Nat):Value:= .agg #[.int .i64 x.f0,.string x.f1,.string x.f2.f0,.string x.f2.f1,.string x.f3.f0,.string x.f3.f1,.string x.f4,.int .i64 x.f5,.slice A x.f6.length c,.int .i64 x.f7,.bool x.f8]
def Bounds (x:iU):Prop:=1≤x.f0∧x.f0≤4096∧0≤x.f7∧x.f7≤4096∧0≤x.f5∧x.f5≤1000000
open Classical in
noncomputable def iK (x:iU):Int:=if Bounds x then(if kL x.f2.f0 x.f2.f1∧kL x.f3.f0 x.f3.f1 then(if minus x.f3.f0=true then 9 else if 8<x.f6.length then 4 else 0)else 3)else 1
theorem fG {x:iU}(h:¬Bounds x):iK x=1:=by unfold iK;rw[if_neg h]
theorem lG {x:iU}(h:Bounds x)(h2:¬(kL x.f2.f0 x.f2.f1∧kL x.f3.f0 x.f3.f1)):iK x=3:=by unfold iK;rw[if_pos h,if_neg h2]
theorem rQ {x:iU}(h:Bounds x)(h2:kL x.f2.f0 x.f2.f1∧kL x.f3.f0 x.f3.f1)(h3:minus x.f3.f0=true):iK x=9:=by unfold iK;rw[if_pos h,if_pos h2,if_pos h3]
theorem uZ {x:iU}(h:Bounds x)(h2:kL x.f2.f0 x.f2.f1∧kL x.f3.f0 x.f3.f1)(h3:¬minus x.f3.f0=true)(h4:8<x.f6.length):iK x=4:=by unfold iK;rw[if_pos h,if_pos h2,if_neg h3,if_pos h4]
theorem CQ {x:iU}(h:Bounds x)(h2:kL x.f2.f0 x.f2.f1∧kL x.f3.f0 x.f3.f1)(h3:¬minus x.f3.f0=true)(h4:¬8<x.f6.length):iK x=0:=by unfold iK;rw[if_pos h,if_pos h2,if_neg h3,if_neg h4]
theorem kL.pos {n d:ByteArray}(h:kL n d):0<n.size:=by
 have h1:=h.1.1.1;unfold body at h1;split at h1
 ·rename_i hm;unfold minus at hm;exact(of_decide_eq_true hm).1
 ·exact h1
theorem U0 (x:iU)(A:Option Addr)(c:Nat)(w:World):Calls Tryz.prog 25 #[EV x A c] w fun e w'=>e= .returned (.int .i64 (iK x))∧Below w.heap.size w w':=by
 have oV:=zM (ag (Below.refl w.heap.size w) (.cells #[.int .i64 x.f0,.string x.f1,.string x.f2.f0,.string x.f2.f1,.string x.f3.f0,.string x.f3.f1,.string x.f4,.int .i64 x.f5,.slice A x.f6.length c,.int .i64 x.f7,.bool x.f8] 41))
 by_cases c0:x.f0<1
 ·have d0:=zT c0;have HX:=zM (fG (x:=x) (fun h=>by unfold Bounds at h;omega));clear c0;go_enter Tryz.func25,Tryz.ntmps25;unfold EV;go_wp2_with fail;go_ret;exact⟨by rw[HX.out];rfl,oV.out⟩
 ·have d0:=zF c0
  by_cases c1:4096<x.f0
  ·have d1:=zT c1;have HX:=zM (fG (x:=x) (fun h=>by unfold Bounds at h;omega));clear c0 c1;go_enter Tryz.func25,Tryz.ntmps25;unfold EV;go_wp2_with fail;go_ret;exact⟨by rw[HX.out];rfl,oV.out⟩
  ·have d1:=zF c1
   by_cases c2:x.f7<0
   ·have d2:=zT c2;have HX:=zM (fG (x:=x) (fun h=>by unfold Bounds at h;omega));clear c0 c1 c2;go_enter Tryz.func25,Tryz.ntmps25;unfold EV;go_wp2_with fail;go_ret;exact⟨by rw[HX.out];rfl,oV.out⟩
   ·have d2:=zF c2
    by_cases c3:4096<x.f7
    ·have d3:=zT c3;have HX:=zM (fG (x:=x) (fun h=>by unfold Bounds at h;omega));clear c0 c1 c2 c3;go_enter Tryz.func25,Tryz.ntmps25;unfold EV;go_wp2_with fail;go_ret;exact⟨by rw[HX.out];rfl,oV.out⟩
    ·have d3:=zF c3
     by_cases c4:x.f5<0
     ·have d4:=zT c4;have HX:=zM (fG (x:=x) (fun h=>by unfold Bounds at h;omega));clear c0 c1 c2 c3 c4;go_enter Tryz.func25,Tryz.ntmps25;unfold EV;go_wp2_with fail;go_ret;exact⟨by rw[HX.out];rfl,oV.out⟩
     ·have d4:=zF c4
      by_cases c5:1000000<x.f5
      ·have d5:=zT c5;have HX:=zM (fG (x:=x) (fun h=>by unfold Bounds at h;omega));clear c0 c1 c2 c3 c4 c5;go_enter Tryz.func25,Tryz.ntmps25;unfold EV;go_wp2_with fail;go_ret;exact⟨by rw[HX.out];rfl,oV.out⟩
      ·have d5:=zF c5;have HB:=zM (show Bounds x by unfold Bounds;omega);clear c0 c1 c2 c3 c4 c5;go_enter Tryz.func25,Tryz.ntmps25;unfold EV;go_wp2_with fail;refine(qP x.f2.f0 x.f2.f1 _).mono ?_;rintro e w1 ⟨b1,rfl,h1,h2⟩;have g4:=cell_later (a:=⟨w.heap.size,4,none⟩) (v:= .string x.f3.f0) h2 (by simp);have g5:=cell_later (a:=⟨w.heap.size,5,none⟩) (v:= .string x.f3.f1) h2 (by simp);have g8:=cell_later (a:=⟨w.heap.size,8,none⟩) (v:= .slice A x.f6.length c) h2 (by simp);have H1:=zM (zA h1 (ah oV.out (by simp) h2));clear h1 h2;cases b1 with
       |false=>
        go_wp2_with fail;go_ret;exact⟨by rw[lG HB.out (fun h=>absurd (H1.out.1.2 h.1) (by simp))];rfl,H1.out.2⟩
       |true=>
        go_wp2_with fail;refine(qP x.f3.f0 x.f3.f1 _).mono ?_;rintro e w2 ⟨b2,rfl,h1,h2⟩;have k4:=cell_later h2 g4;have k8:=cell_later h2 g8;have H2:=zM (zA h1 (ah H1.out.2 H1.out.2.size h2));clear h1 h2 g4 g5 g8;cases b2 with
        |false=>
         go_wp2_with fail;go_ret;exact⟨by rw[lG HB.out (fun h=>absurd (H2.out.1.2 h.2) (by simp))];rfl,H2.out.2⟩
        |true=>
         have HR:=zM (zA (H1.out.1.1 (by first|rfl|trivial)) (H2.out.1.1 (by first|rfl|trivial)));have hp:=HR.out.2.pos;have q0:=eq_true hp;have hx:∀h:0<x.f3.f0.size,((x.f3.f0[0]'h).toNat:Int)=bt x.f3.f0 0:=dQ x.f3.f0 0
         by_cases hm:bt x.f3.f0 0=45
         ·have h45:((bt x.f3.f0 0)==45)=true:=beq_iff_eq.mpr hm;have HM:=zM (show minus x.f3.f0=true by unfold minus;exact decide_eq_true ⟨hp,hm⟩);clear hm hp;go_wp2_with fail;go_ret;exact⟨by rw[rQ HB.out HR.out HM.out];rfl,H2.out.2⟩
         ·have h45:((bt x.f3.f0 0)==45)=false:=beq_eq_false_iff_ne.mpr hm;have HM:=zM (show¬minus x.f3.f0=true by unfold minus;exact fun h=>hm (of_decide_eq_true h).2);clear hm hp
          by_cases hl:8<x.f6.length
          ·have l1:=zT hl;have l2:decide (8<(x.f6.length:Int))=true:=decide_eq_true (by omega);have HL:=zM hl;clear hl;go_wp2_with fail;go_ret;exact⟨by rw[uZ HB.out HR.out HM.out HL.out];rfl,H2.out.2⟩
          ·have l1:=zF hl;have l2:decide (8<(x.f6.length:Int))=false:=decide_eq_false (by omega);have HL:=zM hl;clear hl;go_wp2_with fail;go_ret;exact⟨by rw[CQ HB.out HR.out HM.out HL.out];rfl,H2.out.2⟩
end Go.Proofs.YthbdjmopolpjmaaGreatDoor.C
namespace Go.Proofs.YthbdjmopolpjmaaGreatDoor.M
open Go.RowKit Go.Proofs.YthbdjmopolpjmaaGreatDoorW.PrintWords Go.Proofs.YthbdjmopolpjmaaGreatDoorW.PrintLast Go.Proofs.YthbdjmopolpjmaaGreatDoorW.PrintMore Go.Proofs.YthbdjmopolpjmaaGreatDoor.F Go.Proofs.YthbdjmopolpjmaaGreatDoor.C
def l7 (c:Int):List Int:=if c=92 then[92,92]else if c=9 then[92,116]else if c=10 then[92,110]else[c]
def kS (l:List Int):List Int:=l.flatMap l7
def esc (s:ByteArray):ByteArray:=strOfNums (kS (bytesOf s))
def Bts (l:List Int):Prop:=∀x∈l,0≤x∧x<256
theorem JP (s:ByteArray):Bts (bytesOf s):=by
 intro x hx;unfold bytesOf at hx;obtain⟨b,_,rfl⟩:=List.mem_map.1 hx;have:=b.toNat_lt;omega
theorem Bts.append {a b:List Int}(h:Bts a)(k:Bts b):Bts (a++b):=fun x hx=>by
 rcases List.mem_append.1 hx with hx|hx
 ·exact h x hx
 ·exact k x hx
theorem UR {c:Int}(h:0≤c∧c<256):Bts (l7 c):=by
 unfold l7;split
 ·intro x hx;simp at hx;omega
 ·split
  ·intro x hx;simp at hx;omega
  ·split
   ·intro x hx;simp at hx;omega
   ·intro x hx;simp at hx;omega
theorem UQ {l:List Int}(h:Bts l):Bts (kS l):=by
 intro x hx;unfold kS at hx;obtain⟨c,hc,hx⟩:=List.mem_flatMap.1 hx;exact UR (h c hc) x hx
theorem Kr (c:Int):1≤(l7 c).length∧(l7 c).length≤2:=by
 unfold l7;split
 ·simp
 ·split
  ·simp
  ·split<;>simp
theorem Bg (a b:List Int):kS (a++b)=kS a++kS b:=by simp[kS]
theorem Vt (c:Int):kS [c]=l7 c:=by simp[kS]
theorem uA (l:List Int):l.length≤(kS l).length∧(kS l).length≤2*l.length:=by
 induction l with
 |nil=>simp[kS]
 |cons c l ih=>
  have h:=Kr c;have e:kS (c::l)=l7 c++kS l:=by simp[kS]
  rw[e,List.length_append,List.length_cons];omega
theorem JQ (s:ByteArray):bytesOf (esc s)=kS (bytesOf s):=jo _ (UQ (JP s))
theorem iO (s:ByteArray):strOfNums (bytesOf s)=s:=by
 unfold strOfNums bytesOf;rw[List.map_map];have h2:∀b∈s.data.toList,((fun i:Int=>UInt8.ofNat i.toNat)∘fun b:UInt8=>(b.toNat:Int)) b=b:=fun b _=>by simp
 rw[(List.map_congr_left h2).trans (List.map_id _)]
theorem AY {s t:ByteArray}(h:bytesOf s=bytesOf t):s=t:=by rw[←iO s,h,iO]
theorem DV (s:ByteArray):(esc s).size≤2*s.size:=by
 rw[←bytesOf_length,JQ];have:=(uA (bytesOf s)).2;rw[bytesOf_length]at this;exact this
theorem Dk (s:ByteArray)(i:Nat)(h:i<s.size):(bytesOf s).take (i+1)=(bytesOf s).take i++[bt s (i:Int)]:=by
 rw[List.take_succ_eq_append_getElem (by rw[bytesOf_length];exact h)]
 congr 2
 have h1:=gW s (i:Int);rw[←h1];unfold rd;rw[List.getD_eq_getElem?_getD,List.getElem?_eq_getElem (by rw[bytesOf_length];simpa using h)];simp
theorem Gi (s:ByteArray)(i:Nat)(h:i<s.size):kS ((bytesOf s).take (i+1))=kS ((bytesOf s).take i)++l7 (bt s (i:Int)):=by
 rw[Dk s i h,Bg,Vt]
def jn (ts:List ByteArray):ByteArray:=⟨(Lib.join (ts.map (·.data.toList)) [9]).toArray⟩
def RY:List ByteArray→List Int
 | []=>[]
 |t::ts=>bytesOf t++ts.flatMap (fun t=>9::bytesOf t)
theorem xq (ts:List ByteArray):bytesOf (jn ts)=RY ts:=by
 cases ts with
 |nil=>rfl
 |cons t ts=>
  unfold jn bytesOf;simp only[List.map_cons,Lib.join_cons,RY,List.map_append]
  congr 1
  unfold Lib.joinTail
  induction ts with
  |nil=>rfl
  |cons u ts ih=>
   simp only[List.map_cons,List.flatten_cons,List.map_append,List.flatMap_cons,ih];simp[bytesOf]
noncomputable def parts (x:iU):List ByteArray:=[⟨(Lib.itoa x.f0).toArray⟩,⟨(Lib.itoa x.f7).toArray⟩,⟨(Lib.itoa x.f5).toArray⟩,⟨(if x.f8 then #[120]else #[43])⟩,esc x.f1,mf x.f2.f0 x.f2.f1,mf x.f3.f0 x.f3.f1,esc x.f4]++x.f6.map esc
noncomputable def line (x:iU):List Int:=RY (parts x)++[10]
noncomputable def lines (l:List iU):List Int:=l.flatMap line
noncomputable def bad:List iU→Int→Option (Int×Int)
 | [],_=>none
 |x::l,i=>if iK x=0 then bad l (i+1)else some (iK x,i)
noncomputable def prt (l:List iU):ByteArray×Int×Int:=
 match bad l 0 with
 |some (e,i)=>(⟨#[]⟩,e,i)
 |none=>if 4096<l.length then(⟨#[]⟩,4,0)else if 65536<(lines l).length then(⟨#[]⟩,4,0)else(strOfNums (lines l),0,0)
theorem Oz (l:List iU)(i:Nat)(h:i<l.length):lines (l.take (i+1))=lines (l.take i)++line (l[i]'h):=by
 unfold lines;rw[List.take_succ_eq_append_getElem h,List.flatMap_append];simp only[List.flatMap_cons,List.flatMap_nil,List.append_nil]
theorem EZ (l:List iU)(i:Nat):(lines (l.take i)).length≤(lines l).length:=by
 have h:lines l=lines (l.take i)++lines (l.drop i):=by unfold lines;rw[←List.flatMap_append,List.take_append_drop]
 rw[h,List.length_append];omega
theorem UN {l:List iU}:∀{i:Int},bad l i=none↔∀x∈l,iK x=0:=by
 induction l with
 |nil=>intro i;simp[bad]
 |cons x l ih=>
  intro i;simp only[bad]
  by_cases h:iK x=0
  ·rw[if_pos h,ih];simp[h]
  ·rw[if_neg h];simp[h]
theorem ac9 {l:List iU}:∀{j:Nat} (i:Int) (hj:j<l.length),(∀k (hk:k<j),iK (l[k]'(by omega))=0)→iK (l[j]'hj)≠0→bad l i=some (iK (l[j]'hj),i+j):=by
 induction l with
 |nil=>intro j i hj;simp at hj
 |cons x l ih=>
  intro j i hj h0 h1;cases j with
  |zero=>
   simp only[bad,List.getElem_cons_zero]at h1⊢;rw[if_neg h1];simp
  |succ j=>
   have hx:iK x=0:=h0 0 (by omega);simp only[bad,List.getElem_cons_succ]at h1⊢;rw[if_pos hx,ih (i+1) (by simpa using hj) (fun k hk=>by simpa using h0 (k+1) (by omega)) h1]
   congr 2
   omega
theorem rZ {c:Int}(h1:c≠92)(h2:c≠9)(h3:c≠10):l7 c=[c]:=by unfold l7;rw[if_neg h1,if_neg h2,if_neg h3]
theorem DU {c:Int}(h:c=92∨c=9∨c=10):(l7 c).length=2:=by
 rcases h with rfl|rfl|rfl<;>rfl
theorem Gg (c:Int)(l:List Int):kS (c::l)=l7 c++kS l:=by simp[kS]
theorem Gh:∀{l:List Int},(kS l).length=l.length→kS l=l
 | [],_=>rfl
 |c::l,h=>by
  rw[Gg]at h⊢;rw[List.length_append,List.length_cons]at h;have h1:=Kr c;have h2:=(uA l).1;have h3:(l7 c).length=1:=by omega
  have h4:(kS l).length=l.length:=by omega
  rw[Gh h4]
  by_cases hc:c=92∨c=9∨c=10
  ·rw[DU hc]at h3;omega
  ·rw[rZ (fun e=>hc (.inl e)) (fun e=>hc (.inr (.inl e))) (fun e=>hc (.inr (.inr e)))];rfl
theorem Vu {s:ByteArray}(h:(kS (bytesOf s)).length=s.size):esc s=s:=by
 unfold esc;rw[Gh (by rw[bytesOf_length];exact h),iO]
theorem count_cons (l:List UInt8)(b c:UInt8):Lib.countByte (b::l) c=Lib.countByte l c+(if b=c then 1 else 0):=by
 unfold Lib.countByte;rw[List.count_cons]
 by_cases h:b=c<;>simp[h]
theorem Gj (s:ByteArray):(kS (bytesOf s)).length=s.size+Lib.countByte s.data.toList 10+Lib.countByte s.data.toList 9+Lib.countByte s.data.toList 92:=by
 have key:∀l:List UInt8,(kS (l.map fun b=>(b.toNat:Int))).length=l.length+Lib.countByte l 10+Lib.countByte l 9+Lib.countByte l 92:=by
  intro l
  induction l with
  |nil=>rfl
  |cons b l ih=>
   rw[List.map_cons,Gg,List.length_append,ih,count_cons,count_cons,count_cons,List.length_cons]
   by_cases h10:b=10
   ·subst h10;simp[l7];omega
   ·by_cases h9:b=9
    ·subst h9;simp[l7];omega
    ·by_cases YM:b=92
     ·subst YM;simp[l7];omega
     ·have h0:∀c:UInt8,b≠c→(b.toNat:Int)≠(c.toNat:Int):=fun c hc he=>hc (UInt8.toNat_inj.1 (by omega))
      rw[rZ (h0 92 YM) (h0 9 h9) (h0 10 h10),if_neg h10,if_neg h9,if_neg YM];simp;omega
 rw[←bV];exact key s.data.toList
end Go.Proofs.YthbdjmopolpjmaaGreatDoor.M
namespace Go.Proofs.YthbdjmopolpjmaaGreatDoor.C
open Go.RowKit Go.Proofs.YthbdjmopolpjmaaGreatDoorW.PrintWords Go.Proofs.YthbdjmopolpjmaaGreatDoorW.PrintLast Go.Proofs.YthbdjmopolpjmaaGreatDoorW.PrintMore Go.Proofs.YthbdjmopolpjmaaGreatDoor.F Go.Proofs.YthbdjmopolpjmaaGreatDoor.M
def hold (v:Value):Option (DataW Value×List MemPlace):=some (.held v,[])
def first(l:List iU)(id:Int):Option iU:=l.find? (fun x=>x.f0==id)
def BU (E:Nat)(l:List Int):List Value:=nums .u8 l++List.replicate (E- l.length) (.int .u8 0)
def Bf (W:World)(q E:Nat)(l:List Int):Prop:=W.heap[q]?=some (.cells (BU E l).toArray 5 (0,0))∧l.length≤E
theorem AX {E:Nat}{l:List Int}(h:l.length≤E):(BU E l).length=E:=by simp[BU,nums];omega
theorem Bf.start (W:World)(E:Nat):Bf (W.alloc (.cells (madeCells #[.int .u8 0] E) 5)) W.heap.size E []:=by
 refine⟨?_,by simp⟩;rw[bZ]
 congr 2
 apply Array.ext
 ·simp[BU,nums,size_madeCells]
 ·intro i h1 h2;have h1':i<E:=by simpa[size_madeCells]using h1
  simp[BU,nums,madeCells];rw[Nat.mod_one];rfl
theorem Bf.store {W:World}{q E:Nat}{l:List Int}(h:Bf W q E l)(hl:l.length<E)(x:Int):Bf (W.setCell ⟨q,l.length,none⟩ (.int .u8 x)) q E (l++[x]):=by
 refine⟨?_,by simp;omega⟩;have h1:=aN h.1 l.length (.int .u8 x);rw[h1]
 congr 2
 obtain⟨m,hm⟩:∃m,E- l.length=m+1:=⟨E- l.length- 1,by omega⟩;have hm2:E- (l++[x]).length=m:=by simp;omega
 simp only[List.setIfInBounds_toArray]
 congr 1
 unfold BU;rw[hm,hm2,nums_append,List.replicate_succ,List.set_append_right _ _ (by simp[nums])];simp[nums]
theorem Bf.copy {W:World}{q E:Nat}{l l2:List Int}(h:Bf W q E l)(hl:l.length+l2.length≤E):Bf (W.setRow q ((BU E l).toArray.toList.take l.length++nums .u8 l2++(BU E l).toArray.toList.drop (l.length+(nums .u8 l2).length)).toArray) q E (l++l2):=by
 refine⟨?_,by simp;omega⟩;rw[setRow_heap W q _ _ 5 _ h.1]
 congr 3
 unfold BU;have e1:(nums .u8 l).length=l.length:=nums_length _ _;have e2:(nums .u8 l2).length=l2.length:=nums_length _ _;rw[List.take_left' e1,e2,List.drop_append,nums_append,List.drop_of_length_le (by omega),e1,List.nil_append,List.drop_replicate]
 congr 2
 simp;omega
theorem Bf.cell {W:World}{q E:Nat}{l:List Int}(h:Bf W q E l)(j:Nat)(hj:j<l.length):W.cell? ⟨q,j,none⟩=some (.int .u8 (l.getD j 0)):=by
 rw[aj h.1 j];simp[BU,nums,List.getElem?_append,hj,List.getD_eq_getElem?_getD]
theorem Bf.at_ {W:World}{q E:Nat}{l:List Int}(h:Bf W q E l)(j:Nat)(hj:j<E):∃v,W.cell? ⟨q,j,none⟩=some v∧W.frozen? ⟨q,j,none⟩=false:=by
 have hlen:j<(BU E l).length:=by rw[AX h.2];exact hj
 exact⟨_,(aj h.1 j).trans (by rw[List.getElem?_toArray,List.getElem?_eq_getElem hlen]),au h.1 j⟩
theorem Bf.conv {W:World}{q E:Nat}{l:List Int}(h:Bf W q E l)(hl:l.length=E):(convert 50 9 (.slice (some ⟨q,0,none⟩) E E)).run Tryz.prog W= .ok (.string (strOfNums l)) W:=by
 refine run_convert_bytes_arg W 50 5 Tryz.underlying50 Tryz.underlying5 q 0 E E l hl (fun i hi=>?_) 9 Tryz.underlying9;rw[Nat.zero_add];exact h.cell i (by omega)
theorem Bf.lt {W:World}{q E:Nat}{l:List Int}(h:Bf W q E l):q<W.heap.size:=dV h.1
theorem Bf.drew {W:World}{q E:Nat}{l:List Int}(h:Bf W q E l):Bf W.drew q E l:=h
theorem Bf.Ye {W:World}{q E:Nat}{l l2:List Int}(h:Bf W q E l)(hl:l.length+l2.length≤E)(b c sLen:Nat)(hs:sLen=l2.length)(hc:∀j,j<l2.length→W.cell? ⟨b,j,none⟩=some (.int .u8 (l2.getD j 0)))(dLen dCap:Nat)(hd:dLen=E- l.length)(ty:TypeId):
  ∃W2,(Builtin.copy_ #[50,50] ty #[.slice (some ⟨q,l.length,none⟩) dLen dCap,.slice (some ⟨b,0,none⟩) sLen c]).run Tryz.prog W= .ok (goInt sLen) W2∧Bf W2 q E (l++l2)∧(∀B w0,B≤q→Below B w0 W→Below B w0 W2):=by
 have hr:=run_copy_row (P:=Tryz.prog) W 50 50 ty 5 q l.length dLen dCap ⟨b,0,none⟩ sLen c (BU E l).toArray 5 (nums .u8 l2) Tryz.underlying50 (by
   have h5:=info5;obtain⟨i,hi,hz⟩:=Option.map_eq_some_iff.1 h5;rw[hi];simp only[Prod.mk.injEq]at hz;simp[hz.2.1]) h.1 (by rw[nums_length,hs,hd];exact(Nat.min_eq_left (by omega)).symm) (fun j v hj=>by
   rw[add_plain]
   have hjl:j<l2.length:=by
    have:=(List.getElem?_eq_some_iff.1 hj).1;rw[nums_length]at this;exact this
   rw[hc j hjl,←hj];simp[nums,List.getD_eq_getElem?_getD,List.getElem?_eq_getElem hjl]) (by simp[AX h.2,nums_length];omega) (fun v hv=>by
   unfold nums at hv;obtain⟨x,_,rfl⟩:=List.mem_map.1 hv
   rfl)
 refine⟨_,hr.trans ?_,h.copy hl,fun B w0 hB hb=>?_⟩
 ·rw[nums_length,hs]
 ·exact hb.trans ⟨rfl,rfl,rfl,by simp[World.setRow],fun k hk=>setRow_other W q k _ (by omega)⟩
namespace Once
theorem disable (w:World):(callFunc 234 #[]).run Tryz.prog w= .ok (.value (.tuple #[])) w:=run_call_mark0 Tryz.func234 (by kernel_rfl) (by kernel_rfl) (by kernel_rfl) .disable (by kernel_rfl) w
theorem enable (w:World):(callFunc 236 #[]).run Tryz.prog w= .ok (.value (.tuple #[])) w:=run_call_mark0 Tryz.func236 (by kernel_rfl) (by kernel_rfl) (by kernel_rfl) .enable (by kernel_rfl) w
theorem acquire (a:Addr)(w:World):(callFunc 237 #[.pointer (some a)]).run Tryz.prog w= .ok (.value (.tuple #[])) w:=run_call_marked Tryz.func237 (by kernel_rfl) (by kernel_rfl) (by kernel_rfl) .acquire (by kernel_rfl) a w
theorem releaseMerge (a:Addr)(w:World):(callFunc 239 #[.pointer (some a)]).run Tryz.prog w= .ok (.value (.tuple #[])) w:=run_call_marked Tryz.func239 (by kernel_rfl) (by kernel_rfl) (by kernel_rfl) .releaseMerge (by kernel_rfl) a w
theorem store_deferred (a:Addr)(x:Value)(u:FrameMode)(w:World)(hc:w.cell? a=some x)(hz:w.frozen? a=false):
  CallsD Tryz.prog 168 #[.pointer (some a),.bool true] u w fun e u' w'=>u'=u∧(e= .returned (.tuple #[])∧w'=w.drew.setCell a (.int .u32 1)):=by
 have hc':w.drew.cell? a=some x:=by go_simp
 have hz':w.drew.frozen? a=false:=by go_simp
 have hst:=run_call_store (P:=Tryz.prog) Tryz.func213 (by kernel_rfl) (by kernel_rfl) (by kernel_rfl) (by kernel_rfl) (k:= .u32) (y:=1) hc' hz';go_enter_d Tryz.func168,Tryz.ntmps168;go_wp2;go_region_calls
 all_goals(go_end0;exact⟨rfl,rfl⟩)
theorem unlock_deferred (a:Addr)(u:FrameMode)(w:World)(hc:w.cell? a=some (.int .i32 1))(hz:w.frozen? a=false):
  CallsD Tryz.prog 167 #[.pointer (some a)] u w fun e u' w'=>u'=u∧(e= .returned (.tuple #[])∧w'=w.setCell a (.int .i32 0)):=by
 have hd:=disable;have he:=enable;have hr:=releaseMerge;have hadd:=run_call_add (P:=Tryz.prog) Tryz.func240 (by kernel_rfl) (by kernel_rfl) (by kernel_rfl) .i32 (by kernel_rfl) (y:= -1) (s:=0) hc hz (by simp[go_sem];rfl);have hcv:=run_convert_to_unsafe (P:=Tryz.prog) (src:=317) (dst:=113) Tryz.underlying317 Tryz.underlying113 (by kernel_rfl) hc;go_enter_d Tryz.func167,Tryz.ntmps167;go_wp2;go_end0;go_wp2;go_end0;exact⟨rfl,rfl⟩
theorem lock_free (a:Addr)(w:World)(hc:w.cell? a=some (.int .i32 0))(hz:w.frozen? a=false):
  Calls Tryz.prog 166 #[.pointer (some a)] w fun e w'=>e= .returned (.tuple #[])∧w'=w.setCell a (.int .i32 1):=by
 have hd:=disable;have he:=enable;have ha:=acquire;have hcas:=run_call_cas_hit (P:=Tryz.prog) Tryz.func235 (by kernel_rfl) (by kernel_rfl) (by kernel_rfl) .i32 (by kernel_rfl) (y:=1) hc hz;have hc':(w.setCell a (.int .i32 1)).cell? a=some (.int .i32 1):=World.cell?_setCell_same w a _ hc;have hcv:=run_convert_to_unsafe (P:=Tryz.prog) (src:=317) (dst:=113) Tryz.underlying317 Tryz.underlying113 (by kernel_rfl) hc';go_enter Tryz.func166,Tryz.ntmps166;go_wp2
 first|go_end0|(simp only[Exit.inBlock,Exit.then];refine bodyPost_ret (results_none rfl _ _ _) rfl ?_)|refine bodyPost_ret (results_none rfl _ _ _) rfl ?_
 go_wp2;go_end0;exact⟨rfl,rfl⟩
end Once
end Go.Proofs.YthbdjmopolpjmaaGreatDoor.C
