/- Part 11 of the proof. -/
import Derived.Test.YthbdjmopolpjmaaGreatDoorK10
set_option linter.unusedVariables false
set_option linter.unusedSimpArgs false
set_option maxHeartbeats 8000000
set_option maxRecDepth 100000
namespace Go.Proofs.YthbdjmopolpjmaaGreatDoor.C
open Go.RowKit Go.Proofs.YthbdjmopolpjmaaGreatDoorW.PrintWords Go.Proofs.YthbdjmopolpjmaaGreatDoorW.PrintLast Go.Proofs.YthbdjmopolpjmaaGreatDoorW.PrintMore Go.Proofs.YthbdjmopolpjmaaGreatDoor.F Go.Proofs.YthbdjmopolpjmaaGreatDoor.M
attribute [local go_sem] max2_int min2_int max_two min_two max_three min_three max_four min_four
theorem U.drew {W:World}{A:Option Addr}{xs:List Int}(h:U W A xs):U W.drew A xs:=h.below (dB (Below.refl _ _))
structure Row (W:World)(g:Nat)(x:List Int):Prop where
 cell:∀j,j<x.length→W.cell? ⟨g,j,none⟩=some (.int .u32 (x.getD j 0))
 ty:∃cells,W.heap[g]?=some (.cells cells 131 (0,0))
theorem Row.E5 {W:World}{base:Nat}{ok:Nat→Prop}{v:Value}{xs:List Int}(h:Kd.R (Kd.int .u32) 131 W base ok v xs)(hp:0<xs.length):∃g cap,v= .slice (some ⟨g,0,none⟩) xs.length cap∧base≤g∧xs.length≤cap∧Row W g xs:=by
 obtain⟨g,cap,rfl,hb,_,hty⟩:=Kd.jf h hp;obtain⟨_,hc,hC⟩:=Kd.dA h;refine⟨g,cap,rfl,hb,hc,⟨fun j hj=>?_,hty⟩⟩;have:=Kd.VR hC (j:Int) (by omega) (by omega);rw[add_plain]at this;simpa[rd]using this
theorem Row.keep {W W1:World}{g:Nat}{x:List Int}(h:Row W g x)(hb:W1.heap[g]?=W.heap[g]?):Row W1 g x:=by
 obtain⟨cells,hc⟩:=h.ty;refine⟨fun j hj=>?_,cells,hb.trans hc⟩;rw[aj (hb.trans hc),←aj hc];exact h.cell j hj
theorem Row.lt {W:World}{g:Nat}{x:List Int}(h:Row W g x):g<W.heap.size:=by
 obtain⟨c,hc⟩:=h.ty;exact dV hc
theorem Row.below {W W1:World}{g:Nat}{x:List Int}(h:Row W g x)(hb:Below W.heap.size W W1):Row W1 g x:=h.keep (hb.block g h.lt)
theorem Row.free {W:World}{g:Nat}{x:List Int}(h:Row W g x)(j:Nat):W.frozen? ⟨g,j,none⟩=false:=by
 obtain⟨c,hc⟩:=h.ty;exact au hc j
theorem Row.mut {W:World}{g:Nat}{z:List Int}(h:Row W g z){m l:Nat}(hl:m+l+1≤z.length):NF 131 .u32 W W g m (l+1) (win z m l):=
 ⟨QP hl,fun j hj=>by rw[aaz hl hj];exact h.cell (m+j) (by omega),fun j=>h.free j,gm.refl _ _,fun _ _=>rfl,h.ty⟩
theorem SS {z r:List Int}{m l j:Nat}(hl:m+l+1≤z.length)(hr:r.length=l+1):(z.take m++r++z.drop (m+l+1)).getD j 0=if j<m then z.getD j 0 else if j<m+(l+1)then r.getD (j- m) 0 else z.getD j 0:=by
 have htl:(z.take m).length=m:=by rw[List.length_take];omega
 simp only[List.getD_eq_getElem?_getD];split
 ·rename_i h;rw[List.append_assoc,List.getElem?_append_left (by omega),List.getElem?_take_of_lt h]
 ·split
  ·rename_i h1 h2;rw[List.append_assoc,List.getElem?_append_right (by omega),List.getElem?_append_left (by omega),htl]
  ·rename_i h1 h2;rw[List.append_assoc,List.getElem?_append_right (by omega),List.getElem?_append_right (by omega),htl,hr,List.getElem?_drop]
   congr 2
   omega
theorem Row.adv {W W1:World}{g:Nat}{z r:List Int}(h:Row W g z){m l:Nat}(hl:m+l+1≤z.length)(hm:NF 131 .u32 W W1 g m (l+1) r):Row W1 g (z.take m++r++z.drop (m+l+1)):=by
 have hrl:=hm.len;have htl:(z.take m).length=m:=by rw[List.length_take];omega
 refine⟨fun j hj=>?_,hm.ty⟩;have htot:(z.take m++r++z.drop (m+l+1)).length=z.length:=by simp;omega
 rw[htot]at hj;rw[SS hl hrl];split
 ·rw[hm.out j (.inl (by omega)),h.cell j hj]
 ·split
  ·have:=hm.cell (j- m) (by omega);rw[show m+(j- m)=j by omega]at this;exact this
  ·rw[hm.out j (.inr (by omega)),h.cell j hj]
theorem Row.set {W:World}{g:Nat}{x:List Int}(h:Row W g x)(i:Nat)(v:Int):Row (W.setCell ⟨g,i,none⟩ (.int .u32 v)) g (x.set i v):=by
 obtain⟨cells,hc⟩:=h.ty;have hs:=aN hc i (.int .u32 v);refine⟨fun j hj=>?_,_,hs⟩;rw[List.length_set]at hj
 by_cases e:i=j
 ·subst e;have hx:=h.cell i hj;rw[aj hc]at hx;have hlt:i<cells.size:=(Array.getElem?_eq_some_iff.1 hx).1;rw[aj hs];simp[hlt,hj]
 ·rw[uw e,h.cell j hj];simp[List.getElem?_set_ne e]
theorem Row.U {W:World}{g:Nat}{x:List Int}(h:Row W g x)(hm:x.length≤9223372036854775807):C.U W (some ⟨g,0,none⟩) x:=by
 intro W' hW;have hg:W'.heap[g]?=W.heap[g]?:=hW g h.ty h.lt;have h':=h.keep hg;refine Kd.xe (d:=(0:Int)) ⟨rfl,hm,fun _=>⟨_,rfl,fun j hj=>?_⟩⟩;rw[add_plain];exact h'.cell j hj
theorem ZY {P:Program}(e:TypeId){z:Value}{s y:Nat}(h:(P.info? e).map (fun i=>(i.zero,i.size,i.bytes))=some (some z,s,y)):∃i,P.info? e=some i:=by
 obtain⟨i,hi,_⟩:=Option.map_eq_some_iff.1 h;exact⟨i,hi⟩
theorem Qg (g n c L:Nat)(a b:Int)(h0:0≤a)(h1:a≤b)(hm:b≤n)(hc:n≤c)(hlt:a<n)(hL:b.toNat- a.toNat=L):
  ∀W:World,(Instr.slice 171 (.slice (some ⟨g,0,none⟩) n c) (some (.int .i64 a)) (some (.int .i64 b)) none).run Tryz.prog W= .ok (.slice (some ⟨g,a.toNat,none⟩) L (c- a.toNat)) W:=by
 intro W;obtain⟨i,hi,_,hsz,_⟩:=info_parts kQ;have hel:Tryz.prog.elem 171=131:=by simp[Program.elem,Tryz.underlying171]
 have hu:Tryz.prog.underlying 171=some (.slice (Tryz.prog.elem 171)):=by rw[hel];exact Tryz.underlying171
 rw[run_slice_lh W 171 (some ⟨g,0,none⟩) n c hu .i64 .i64 a b h0 h1 (by omega),hel];have hne:¬c=a.toNat:=by omega
 subst hL;simp[sizeOf,typeInfo,hi,hsz,sliced,Result.andThen,hne];unfold Addr.add;split<;>simp_all
theorem Yc (W:World)(n:Nat)(hn:0<n)(hm:n≤9223372036854775807):Row (W.alloc (.cells (madeCells #[.int .u32 0] n) 131)) W.heap.size (List.replicate n 0):=by
 have h:Kd.R (Kd.int .u32) 131 (W.alloc (.cells (madeCells #[.int .u32 0] n) 131)) W.heap.size (fun _=>True) (.slice (some ⟨W.heap.size,0,none⟩) n n) (List.replicate n 0):=
  Kd.iR (by have:=Em W W.heap.size 131 .u32 n (Nat.le_refl _) hm;simpa[encs,nums]using this) (fun _ _=>trivial)
 obtain⟨g,cap,e,_,_,hr⟩:=Row.E5 h (by simpa using hn);injection e with e1;injection e1 with e1;injection e1 with e1;subst e1;exact hr
theorem RI (k g h m c0 cv:Nat)(z v':List Int)(l:Nat)(x:Int)(r:List Int)(W:World)(hz:Row W g z)(hv:Row W h v')(hgh:h≠g)(hl:m+l+1≤z.length)(hvl:l≤v'.length)(hvm:v'.length≤9223372036854775807)(hcv:l≤cv)(hk:aW.f k (win z m l) (v'.take l)=some (x,r)):
  Calls Tryz.prog 209 #[.slice (some ⟨g,m,none⟩) (l+1) c0,.slice (some ⟨h,0,none⟩) l cv] W fun e w'=>e= .returned (.int .u32 x)∧Row w' g (z.take m++r++z.drop (m+l+1))∧gm (·=g) W w':=by
 have htl:(v'.take l).length=l:=by rw[List.length_take];omega
 have hV:∀W',gm (·=g) W W'→Kd.C (Kd.int .u32) W' (some ⟨h,0,none⟩) (v'.take l).length (v'.take l):=fun W' hc=>
  (((hv.keep (hc.block h hv.lt hgh)).U hvm).take hvl).now
 have:=Oh k g m c0 (win z m l) (some ⟨h,0,none⟩) cv (v'.take l) x r W (l+1) (hz.mut hl) hV (by omega) hk;rw[htl]at this;exact this.mono fun e w' ⟨he,hm⟩=>⟨he,hz.adv hl hm,hm.qj⟩
theorem QN (n:Nat)(A0:Option Addr)(c0:Nat)(xs r:List Int)(w:World)(hn:xs.length=n)(hU:U w A0 xs)(hc0:n≤c0)(h:H9 xs r):
  Calls Tryz.prog 206 #[.slice A0 n c0] w fun e w'=>e= .returned (.slice A0 r.length c0)∧r.length≤c0∧U w' A0 r∧Below w.heap.size w w':=by
 subst hn;exact Jn A0 c0 xs r w hU hc0 h
theorem X8 (n:Nat)(A0:Option Addr)(c0:Nat)(xs r:List Int)(s:Int)(w:World)(hn:xs.length=n)(hU:U w A0 xs)(hc0:n≤c0)(k:Nat)(h:di.f k xs s=some r):
  Calls Tryz.prog 210 #[.slice A0 n c0,.int .i64 s] w fun e w'=>∃A c,e= .returned (.slice A r.length c)∧r.length≤c∧U w' A r∧Below w.heap.size w w':=by
 subst hn;refine(di.calls k A0 c0 xs s r w hU.now hc0 h).mono fun e w' ⟨v,he,hR,hb⟩=>?_
 obtain⟨A,c,rfl,h1,h2⟩:=U.E5 hR;exact⟨A,c,he,h1,h2,hb⟩
theorem Lj (A:Option Addr)(c:Nat)(a u:List Int)(n:Int)(w:World)(hA:U w A a)(hc:a.length≤c)(k:Nat)(hk:dH.f k a n=some u)(hp:0<u.length):
  Calls Tryz.prog 208 #[.slice A a.length c,.int .i64 n] w fun e w'=>∃g cap,e= .returned (.slice (some ⟨g,0,none⟩) u.length cap)∧w.heap.size≤g∧u.length≤cap∧Row w' g u∧Below w.heap.size w w':=
 (dH.calls k A c a n u w hA.now hc hk).mono fun e w' ⟨v,he,hR,hb⟩=>by
  obtain⟨g,cap,rfl,h1,h2,h3⟩:=Row.E5 hR hp;exact⟨g,cap,he,h1,h2,h3,hb⟩
def Nl (a b:List Int)(w:World)(e:Ending)(w':World):Prop:=∃q r,Wd q∧Wd r∧val 4294967296 a=val 4294967296 q*val 4294967296 b+val 4294967296 r∧val 4294967296 r<val 4294967296 b∧Hl q r w e w'
theorem Tm {a b V Q R s:Int}(hs:1≤s)(h:a*s=Q*V+R)(hV:V=b*s)(hR:R<V)(h0:0≤R):∃R',R=R'*s∧a=Q*b+R'∧R'<b∧0≤R':=by
 refine⟨a- Q*b,?_,by omega,?_,?_⟩
 ·rw[Int.sub_mul,h,hV];grind
 ·have e:(a- Q*b)*s=R:=by rw[Int.sub_mul,h,hV];grind
  by_cases hlt:a- Q*b<b
  ·exact hlt
  ·exfalso
   have:=Int.mul_le_mul_of_nonneg_right (show b≤a- Q*b by omega) (show 0≤s by omega);omega
 ·have e:(a- Q*b)*s=R:=by rw[Int.sub_mul,h,hV];grind
  by_cases hlt:0≤a- Q*b
  ·exact hlt
  ·exfalso
   have:=Int.mul_le_mul_of_nonneg_right (show a- Q*b≤-1 by omega) (show 0≤s by omega);omega
theorem Oa (A0:Option Addr)(c0:Nat)(a:List Int)(A1:Option Addr)(c1:Nat)(b:List Int)(w:World)(hA:U w A0 a)(ha:a.length≤c0)(hB:U w A1 b)(hb:b.length≤c1)(wa:Wd a)(wb:Wd b)(hge:val 4294967296 b≤val 4294967296 a)(hb1:1<b.length):
  Calls Tryz.prog 159 #[.slice A0 a.length c0,.slice A1 b.length c1] w (Nl a b w):=by
 obtain⟨rc,hr,_,_,hev⟩:=nI wa.1 wb.1 wa.2.1 wb.2.1 (by have:=wa.2.2;omega) (by have:=wb.2.2;omega);obtain⟨k,hk⟩:=hev.rounds;have hneg:decide (rc<0)=false:=decide_eq_false (fun h=>by have:=hr.1.1 h;omega);have hbn:b≠[]:=by intro e;subst e;simp at hb1
 have aca:=gG wb.1 ((b.length:Int)- 1) (by omega);have bnz:rd b ((b.length:Int)- 1)≠0:=by rw[aan hbn];exact wb.2.1 hbn
 obtain⟨s,hs,hlz,htop⟩:=PD (t:=rd b ((b.length:Int)- 1)) (by omega) (by omega);obtain⟨u,heu,hud,YN,huv⟩:=Ee (a:=a) (n:=(s:Int)) (by omega) (by omega) wa.1 (by have:=wa.2.2;omega);obtain⟨v',hev',hvd,hvl,hvv⟩:=Ee (a:=b) (n:=(s:Int)) (by omega) (by omega) wb.1 (by have:=wb.2.2;omega);rw[Int.toNat_natCast]at huv hvv;obtain⟨k2,hk2⟩:=heu.rounds;obtain⟨k3,hk3⟩:=hev'.rounds;obtain⟨v1,v2,v3,v4,hlen,hinv⟩:=Rq wa.1 wb.1 wa.2.1 wb.2.1 hbn hge hs htop hud YN huv hvd hvl hvv;have HA:=zM hA;have HB:=zM hB;have Hwa:=zM wa;have HL:=zM (zA ha hb);have HCL:=zM (bY.calls k A0 c0 a A1 c1 b rc w hA.now ha hB.now hb hk);have hl1:((b.length:Int)==1)=false:=by rw[beq_eq_false_iff_ne];omega
 have hw0:wrap64 ((b.length:Int)- 1)=(b.length:Int)- 1:=fD (by omega) (by have:=wb.2.2;omega);obtain⟨tp,htp⟩:∃t:Int,(b.length:Int)- 1=t:=⟨_,rfl⟩;have hw1:wrap64 ((b.length:Int)- 1)=tp:=hw0.trans htp;have hw2:IntKind.i64.wrap ((b.length:Int)- 1)=tp:=(dL _).trans hw1;rw[htp]at aca bnz hlz htop;have p1:0≤tp:=by omega
 have q1:tp<(b.length:Int):=by omega
 have HX:=zM (zA aca (zA bnz (zA hlz (zA htp hs))));have Hk2:=zM hk2;have Hk3:=zM hk3;have HV:=zM (zA v1 (zA v2 (zA v3 v4)));have HI:=zM hinv;have HU:=zM (zA YN (zA hvl (zA hlen hb1)));clear hA hB ha hb wa wb hge hb1 hr hev hk hbn aca bnz hlz htop heu hud YN huv hev' hvd hvl hvv hk2 hk3 v1 v2 v3 v4 hlen hinv hw0 htp;go_enter Tryz.func159,Tryz.ntmps159;go_wp2_with fail;refine HCL.out.mono ?_;rintro e w1 ⟨rfl,hd⟩;have HD:=zM hd;have HA1:=zM (HA.out.drawn hd);obtain⟨ad,e2,hx2⟩:=Kd.dM (HB.out.drawn hd).now tp p1 q1;cases e2;have HB1:=zM (HB.out.drawn hd);clear hd HCL HB;go_wp2_with fail;refine(Tryz.bits_LeadingZeros32 (rd b tp) w1 HX.out.1.1 (by have:=HX.out.1.2;omega)).mono ?_;rintro e w1x ⟨rfl,rfl⟩;rw[HX.out.2.2.1];go_wp2_with fail;go_cut [9,10] (fun v9 v10 wc=>∃g cu h cv,v9= .slice (some ⟨g,0,none⟩) u.length cu∧v10= .slice (some ⟨h,0,none⟩) b.length cv∧Aside0 (w.heap.size≤g∧u.length≤cu∧Row wc g u∧b.length≤cv∧Row wc h v'∧g<h∧Below w.heap.size w wc))
 case first=>
  obtain⟨Xo,oL,_,wO,_⟩:=info_parts kQ
  go_region_with ((first
   |(go_at_call_of 208 (Value.slice A0 a.length c0);refine(Lj A0 c0 a u s _ (by first|exact HA1.out|exact HA1.out.drew) HL.out.1 k2 Hk2.out (by have:=HU.out.1;omega)).mono ?_;rintro e w2 ⟨g,cu,rfl,hg,hcu,hrow,hbel⟩;have HF:=zM (zA hg (zA hcu (zA hrow hbel)));clear hg hcu hrow hbel;have HB2:=zM ((HB1.out.drew).below HF.out.2.2.2))
   |(go_at_call_of 208 (Value.slice (some ad) b.length c1);refine(Lj (some ad) c1 b v' s _ (by first|exact HB2.out|exact HB2.out.drew) HL.out.2 k3 Hk3.out (by have:=HU.out.2.1;omega)).mono ?_;rintro e w3 ⟨h,cv,rfl,hh,hcv,hrow3,abb⟩;have hct:=xy (P:=Tryz.prog) 171 131 .i64 Tryz.underlying171 oL (some ⟨h,0,none⟩) v'.length cv (b.length:Int) (by omega) (by have:=HU.out.2.1;omega) hcv;simp only[Int.toNat_natCast]at hct;have HG:=zM (zA hh (zA hcv (zA hrow3 abb)));clear hh hcv hrow3 abb)))
  go_wp2_with fail;go_meet;have hb1:Below w.heap.size w w2:=ah (dB HD.out.below) (by have:=HD.out.below.size;simpa using this) HF.out.2.2.2;have hb2:Below w.heap.size w w3:=ah hb1 hb1.size HG.out.2.2.2;have h1:=HF.out.2.2.1.lt;have h2:=HG.out.1;have h3:=HF.out.1;have h4:=HD.out.below.size;have h5:=HU.out.2.1;have h6:=HG.out.2.1;exact⟨g,cu,h,cv,rfl,rfl,⟨by simp at h3;omega,HF.out.2.1,HF.out.2.2.1.below HG.out.2.2.2,by omega,HG.out.2.2.1,by omega,hb2⟩⟩
 case rest=>
  obtain⟨g,cu,h,cv,rfl,rfl,HC⟩:=hcut;obtain⟨n,hn⟩:∃n:Nat,a.length+1- b.length=n:=⟨_,rfl⟩;have hal:=Hwa.out.2.2;have hu1:=HU.out.1;have hu3:=HU.out.2.2.1;have hw3:wrap64 ((u.length:Int)- (b.length:Int))=(n:Int):=by rw[fD (by omega) (by omega)];omega
  have hw4:wrap64 ((n:Int)- 1)=(n:Int)- 1:=fD (by omega) (by omega);have hmk:=pX (P:=Tryz.prog) 171 131 .u32 4 Tryz.underlying171 kQ (by decide) n (by omega);have ZF:0<n:=by omega
  have HN:=zM (zA hn (zA ZF (zA hal (zA hu1 hu3))));have HQ:=zM (Yc wc n ZF (by omega));rw[hn]at HI;clear hn hal hu1 hu3 ZF;go_wp2_with fail;go_loopw [12] (fun v12 W=>∃(i:Int) (z q:List Int),v12= .int .i64 i∧Aside0 (-1≤i∧tZ (val 4294967296 a*2^s) (v'.take b.length) n (i+1).toNat z q∧Row W g z∧Row W h v'∧Row W wc.heap.size q∧Below w.heap.size w W)) (fun v12 _=>(intOf v12+1).toNat)
  case atStart=>exact⟨(n:Int)- 1,u,List.replicate n 0,(by rw[hw4]),⟨by omega,(by rw[show((n:Int)- 1+1).toNat=n by omega];exact HI.out),HC.out.2.2.1.below (ag (Below.refl _ _) _),HC.out.2.2.2.2.1.below (ag (Below.refl _ _) _),HQ.out,ah HC.out.2.2.2.2.2.2 HC.out.2.2.2.2.2.2.size (ag (Below.refl _ _) _)⟩⟩
  case round=>
   obtain⟨i,z,q,rfl,HR⟩:=hrel;clear HI HQ hmk hw3 hw4
   by_cases hi0:0≤i
   case neg=>
    have hi:=zF hi0;have hD:=HR.out.2.1;rw[show(i+1).toNat=0 by omega]at hD;clear hi0;have hal:=HN.out.2.2.1;have hzl:=hD.zl;have Wn:=hD.ql;rw[HV.out.1]at hzl;have hu3:=HN.out.2.2.2.2;have hn1:=HN.out.1;have hs1:=(lH s hs).1;obtain⟨e1,e2⟩:=Zm hD;rw[HV.out.1]at e1 e2;have e0:=dW (B:=4294967296) (by omega) (fK hD.zd b.length);obtain⟨R',r1,r2,r3,r4⟩:=Tm hs1 e1 HV.out.2.2.1 e2 e0;have hzt:(z.take b.length).length=b.length:=by rw[List.length_take];omega
    obtain⟨rr,her,hrd,hrl,RS⟩:=Mc (a:=z.take b.length) (n:=(s:Int)) (by omega) (by omega) (fK hD.zd b.length) (by rw[hzt];have:=HU.out.2.2.1;omega) R' (by rw[Int.toNat_natCast];exact r1);obtain⟨kr,hkr⟩:=her.rounds;rw[hzt]at hrl;obtain⟨tq,htq,wtq,vtq,ltq⟩:=zk (xs:=q) hD.qd (by omega);obtain⟨tr,htr,wtr,vtr,ltr⟩:=zk (xs:=rr) hrd (by omega);have HT:=zM (zA htq htr);have YY:=zM (show Wd tq∧Wd tr∧val 4294967296 a=val 4294967296 tq*val 4294967296 b+val 4294967296 tr∧val 4294967296 tr<val 4294967296 b from⟨wtq,wtr,by rw[vtq,vtr,RS];exact r2,by rw[vtr,RS];exact r3⟩);have Hkr:=zM hkr;have HZ:=zM (zA hzt (zA hzl (zA Wn (zA hrl hn1))));have HUq:=zM (HR.out.2.2.2.2.1.U (by omega));have HUz:=zM ((HR.out.2.2.1.U (by omega)).take (m:=b.length) (by omega));clear hD hal hzl Wn hu3 hn1 hs1 e1 e2 e0 r1 r2 r3 r4 hzt her hrd hrl RS hkr htq wtq vtq ltq htr wtr vtr ltr;go_wp2_with fail;have hct:=xy (P:=Tryz.prog) 171 131 .i64 Tryz.underlying171 (Classical.choose_spec (ZY 131 kQ)) (some ⟨g,0,none⟩) u.length cu (b.length:Int) (by omega) (by have:=HU.out.1;have:=HU.out.2.2.1;omega) HC.out.2.1;simp only[Int.toNat_natCast]at hct;have HW0:=zM (Below.refl wr.heap.size wr)
    go_region_with ((first
     |(go_at_call_of 206 (Value.slice (some ⟨wc.heap.size,0,none⟩) n n);refine(QN n (some ⟨wc.heap.size,0,none⟩) n q tq _ HZ.out.2.2.1 (by first|exact HUq.out|exact HUq.out.drew) (Nat.le_refl _) HT.out.1).mono ?_;rintro e w2 ⟨rfl,ha1,ha2,ha3⟩;have HF:=zM (zA ha1 (zA ha2 ha3));clear ha1 ha2 ha3;have ake:=zM (HUz.out.drew.below HF.out.2.2))
     |(go_at_call 210;refine(X8 b.length (some ⟨g,0,none⟩) cu (z.take b.length) rr s _ HZ.out.1 ake.out (by have:=HU.out.1;have:=HU.out.2.2.1;have:=HC.out.2.1;omega) kr Hkr.out).mono ?_;rintro e w3 ⟨A3,c3,rfl,hb1,hb2,hb3⟩;have HG:=zM (zA hb1 (zA hb2 hb3));clear hb1 hb2 hb3)
     |(go_at_call_of 206 (Value.slice A3 rr.length c3);refine(QN rr.length A3 c3 rr tr _ rfl HG.out.2.1 HG.out.1 HT.out.2).mono ?_;rintro e w4 ⟨rfl,hc1,hc2,hc3⟩;have HH:=zM (zA hc1 (zA hc2 hc3));clear hc1 hc2 hc3)))
    go_wp2_with fail;go_simp;go_ret2;have g1:=HF.out;have g2:=HG.out;have g3:=HH.out;have k1:Below wr.heap.size wr w2:=ah (dB (Below.refl _ _)) (by simp) g1.2.2;have k2:Below w2.heap.size w2 w4:=ah g2.2.2 g2.2.2.size g3.2.2;have kw:=HR.out.2.2.2.2.2;exact⟨tq,tr,YY.out.1,YY.out.2.1,YY.out.2.2.1,YY.out.2.2.2,_,_,_,_,rfl,g1.1,g3.1,g1.2.1.below k2,g3.2.1,ah kw kw.size (ah k1 k1.size k2)⟩
   case pos=>
    have hi:=zT hi0;have hD:=HR.out.2.1;rw[show(i+1).toNat=i.toNat+1 by omega]at hD;have hal:=HN.out.2.2.1;have hu1:=HU.out.1;have hu2:=HU.out.2.1;have hu3:=HU.out.2.2.1;have hn1:=HN.out.1;have hmn:=hD.hm;have hzl:=hD.zl;have Wn:=hD.ql;have hwin:=hD.window HV.out.2.1;rw[HV.out.1]at hzl hwin;obtain⟨x,r,hgk,hL⟩:=KJ (u:=win z i.toNat b.length) (v:=v'.take b.length) hwin.1 HV.out.2.1 (by rw[QP (by omega),HV.out.1]) (by rw[HV.out.1];omega) (by rw[HV.out.1];omega) (by rw[HV.out.1];exact HV.out.2.2.2) hwin.2.1;obtain⟨kg,hkg⟩:=hgk.rounds;have hL':M.Left (val 4294967296 (win z i.toNat (v'.take b.length).length)) (val 4294967296 (v'.take b.length)) (v'.take b.length).length x r:=by rw[HV.out.1]at hL⊢;exact hL
    have HS:=zM (hD.step HV.out.2.1 hL');rw[HV.out.1]at HS;have e1:wrap64 (i+(b.length:Int))=i+b.length:=fD (by omega) (by omega);have e2:wrap64 (i+(b.length:Int)+1)=i+b.length+1:=fD (by omega) (by omega);have e3:wrap64 (i- 1)=i- 1:=fD (by omega) (by omega);have hct:=Qg g u.length cu (b.length+1) i (i+b.length+1) (by omega) (by omega) (by omega) (by have:=HC.out.2.1;omega) (by omega) (by omega);have hgh:h≠g:=by have:=HC.out.2.2.2.2.2.1;omega
    have HGR:=zM (RI kg g h i.toNat (cu- i.toNat) cv z v' b.length x r wr HR.out.2.2.1 HR.out.2.2.2.1 hgh (by omega) (by omega) (by omega) (by have:=HC.out.2.2.2.1;omega) hkg);have HZ:=zM (zA hn1 (zA hmn (zA hzl (zA Wn (zA hgh hi0)))));have qm:i<(n:Int):=by omega
    clear hD hal hu1 hu2 hu3 hn1 hmn hzl Wn hwin hgk hkg hL hL' hgh;go_wp2_with fail;refine HGR.out.mono ?_;rintro e wg ⟨rfl,hr1,hc1⟩;have hgq:¬wc.heap.size=g:=by have:=HC.out.2.2.1.lt;omega
    have hrq:Row wg wc.heap.size q:=HR.out.2.2.2.2.1.keep (hc1.block _ HR.out.2.2.2.2.1.lt hgq);have RS:Row wg h v':=HR.out.2.2.2.1.keep (hc1.block _ HR.out.2.2.2.1.lt HZ.out.2.2.2.2.1);have hxq:=hrq.cell i.toNat (by have:=HZ.out.2.2.2.1;omega);have hfq:=hrq.free i.toNat;have hbw:Below w.heap.size w wg:=(gm.trans (S:=fun k=>k=g) (gm.of_below HR.out.2.2.2.2.2) hc1 (fun _ _ h=>h)).below (fun k hk=>by subst hk;exact HC.out.1);have HG1:=zM (zA hr1 (zA RS (zA hrq (zA hbw hgq))));clear hr1 hc1 hrq RS hbw hgq HGR hct;replace hi0:=eq_true hi0;replace qm:=eq_true qm;go_wp2_with fail;go_roundw
    case measure=>have:=of_eq_true hi0;simp[intOf,e3];omega
    case rel=>
     have hi1:=of_eq_true hi0;have hsz:w.heap.size≤wc.heap.size:=HC.out.2.2.2.2.2.2.size;refine⟨i- 1,_,q.set i.toNat x,(by rw[e3]),⟨by omega,by rw[show(i- 1+1).toNat=i.toNat by omega];exact HS.out,HG1.out.1.keep (Below.heap_setCell _ _ _ _ (fun e=>HG1.out.2.2.2.2 e.symm)),HG1.out.2.1.keep (Below.heap_setCell _ _ _ _ (fun e=>?_)),HG1.out.2.2.1.set _ _,HG1.out.2.2.2.1.setCell (by simpa using hsz) _⟩⟩;have:=HC.out.2.2.2.2.1.lt;have e':h=wc.heap.size:=e;omega
theorem EK:Wd []:=⟨nJ _,MO,by simp⟩
theorem N9 (A0:Option Addr)(c0:Nat)(a:List Int)(A1:Option Addr)(c1:Nat)(b:List Int)(w:World)(hA:U w A0 a)(ha:a.length≤c0)(hB:U w A1 b)(hb:b.length≤c1)(wa:Wd a)(wb:Wd b)(hbn:b≠[]):
  Calls Tryz.prog 159 #[.slice A0 a.length c0,.slice A1 b.length c1] w (Nl a b w):=by
 by_cases hlt:val 4294967296 a<val 4294967296 b
 ·exact(J4 A0 c0 a A1 c1 b w hA ha hB hb wa wb hlt).mono fun e w' h=>⟨[],a,EK,wa,by simp[val],hlt,h⟩
 ·by_cases h1:b.length=1
  ·obtain⟨q,r,h1,h2,h3,h4,hc⟩:=Iw A0 c0 a A1 c1 b w hA ha hB hb wa wb (by omega) h1;exact hc.mono fun e w' h=>⟨q,r,h1,h2,h3,h4,h⟩
  ·have:=List.length_pos_iff.2 hbn;exact Oa A0 c0 a A1 c1 b w hA ha hB hb wa wb (by omega) (by omega)
theorem G9 {x:Int}{xs:List Int}(h:Trim (x::xs)):Trim xs:=by
 intro hn;have:=h (by simp)
 rwa [List.getLast_cons hn]at this
theorem val_inj {B:Int}(hB:0<B):∀{xs ys:List Int},gV B xs→Trim xs→gV B ys→Trim ys→val B xs=val B ys→xs=ys
 | [],ys,_,_,hy,ty,h=>((tC hB hy ty).1 (by simpa[val]using h.symm)).symm
 |x::xs,[],hx,tx,_,_,h=>(tC hB hx tx).1 (by simpa[val]using h)
 |x::xs,y::ys,hx,tx,hy,ty,h=>by
  have h1:=jX.1 hx;have h2:=jX.1 hy;simp only[val]at h;have e1:=rX (show x+B*val B xs=val B xs*B+x by rw[Int.mul_comm];omega) h1.1.1 h1.1.2;have e2:=rX (show x+B*val B xs=val B ys*B+y by rw[Int.mul_comm (val B ys)];omega) h2.1.1 h2.1.2;rw[val_inj hB h1.2 (G9 tx) h2.2 (G9 ty) (by omega),show x=y by omega]
theorem Wd.inj {xs ys:List Int}(hx:Wd xs)(hy:Wd ys)(h:val 4294967296 xs=val 4294967296 ys):xs=ys:=val_inj (by omega) hx.1 hx.2.1 hy.1 hy.2.1 h
theorem Wd.pos {xs:List Int}(hx:Wd xs)(hn:xs≠[]):0<val 4294967296 xs:=vV (by omega) hx.1 hx.2.1 hn
theorem Wd.qN {xs:List Int}(hx:Wd xs):0≤val 4294967296 xs:=dW (by omega) hx.1
theorem Wd.zero {xs:List Int}(hx:Wd xs):val 4294967296 xs=0↔xs=[]:=tC (by omega) hx.1 hx.2.1
theorem Es (n g:Nat)(neg:Bool)(A0:Option Addr)(c0:Nat)(xs:List Int)(w:World)(v0 v1:Value)(hn:xs.length=n)(hb:w.heap[g]?=some (.cells #[v0,v1] 173 (0,0)))(hU:U w A0 xs)(hc0:n≤c0)(hw:Wd xs):
  Calls Tryz.prog 160 #[.pointer (some ⟨g,0,none⟩),.bool neg,.slice A0 n c0] w fun e w'=>e= .returned (.pointer (some ⟨g,0,none⟩))∧iy w' g (neg&& !xs.isEmpty) xs∧gm (·=g) w w':=by
 subst hn;obtain⟨r,hr,hv,hc⟩:=Dh g neg A0 c0 xs w v0 v1 hb hU hc0 hw.1 hw.2.2;obtain rfl:=hr.inj hw hv;exact hc
theorem yD (n:Nat)(A:Option Addr)(c:Nat)(xs:List Int)(w:World)(hn:xs.length=n)(hU:U w A xs)(hw:Wd xs):
  Calls Tryz.prog 161 #[.slice A n c] w fun e w'=>∃A' c',e= .returned (.slice A' n c')∧n≤c'∧U w' A' xs∧Below w.heap.size w w':=by
 subst hn;exact F5 A c xs w hU.now (by have:=hw.2.2;omega)
theorem gm.dU {S:Nat→Prop}{w w1 w2:World}(h:Below w.heap.size w w1)(k:gm S w1 w2):gm S w w2:=(gm.of_below (S:=S) h).trans k (fun _ _ h=>h)
theorem PQ {w w2:World}(h:Below w.drew.heap.size w.drew w2):Below w.heap.size w w2:=⟨h.os,h.tape,h.output,h.size,h.block⟩
theorem XH (gz gx ox:Nat)(neg:Bool)(xs:List Int)(w:World)(v0 v1:Value)(hz:w.heap[gz]?=some (.cells #[v0,v1] 173 (0,0)))(hx:rH w gx ox neg xs)(hw:Wd xs):
  Calls Tryz.prog 156 #[.pointer (some ⟨gz,0,none⟩),.pointer (some ⟨gx,ox,none⟩)] w fun e w'=>e= .returned (.pointer (some ⟨gz,0,none⟩))∧iy w' gz (!neg&& !xs.isEmpty) xs∧gm (·=gz) w w':=by
 obtain⟨A,c,hx0,hx1,hc,hU⟩:=hx;have HU:=zM hU;have HZ:=zM hz;have HW:=zM hw;have HC:=zM hc;have HX:=zM (zA hx0 hx1);clear hU hz hw hc;go_enter Tryz.func156,Tryz.ntmps156;go_wp2_with fail
 go_region_with ((first
  |(go_at_call 161;refine(yD xs.length A c xs _ rfl (by first|exact HU.out|exact HU.out.drew) HW.out).mono ?_;rintro e w2 ⟨A2,c2,rfl,h1,h2,h3⟩;have HF:=zM (zA h1 (zA h2 h3));have hy0:=aI h3 HX.out.1;have hy1:=aI h3 HX.out.2;clear h1 h2 h3)
  |(go_at_call 160;refine(Es xs.length gz (!neg) A2 c2 xs _ v0 v1 rfl (by have h:=(HF.out.2.2).block gz (by have:=dV HZ.out;simpa using this);exact h.trans HZ.out) HF.out.2.1 HF.out.1 HW.out).mono ?_;rintro e w3 ⟨rfl,h4,h5⟩;have HG:=zM (zA h4 h5);clear h4 h5)))
 all_goals(go_wp2_with fail;go_ret;exact⟨rfl,HG.out.1,gm.dU (PQ HF.out.2.2) HG.out.2⟩)
theorem Dz (gz gx ox:Nat)(neg:Bool)(xs:List Int)(w:World)(v0 v1:Value)(hz:w.heap[gz]?=some (.cells #[v0,v1] 173 (0,0)))(hx:rH w gx ox neg xs)(hw:Wd xs):
  Calls Tryz.prog 115 #[.pointer (some ⟨gz,0,none⟩),.pointer (some ⟨gx,ox,none⟩)] w fun e w'=>e= .returned (.pointer (some ⟨gz,0,none⟩))∧iy w' gz false xs∧gm (·=gz) w w':=by
 obtain⟨A,c,hx0,hx1,hc,hU⟩:=hx;have HU:=zM hU;have HZ:=zM hz;have HW:=zM hw;have HC:=zM hc;clear hU hz hw hc hx0;go_enter Tryz.func115,Tryz.ntmps115;go_wp2_with fail;refine(yD xs.length A c xs _ rfl (by first|exact HU.out|exact HU.out.drew) HW.out).mono ?_;rintro e w2 ⟨A2,c2,rfl,h1,h2,h3⟩;have HF:=zM (zA h1 (zA h2 h3));clear h1 h2 h3;go_wp2_with fail;refine(Es xs.length gz false A2 c2 xs _ v0 v1 rfl ((HF.out.2.2.block gz (dV HZ.out)).trans HZ.out) HF.out.2.1 HF.out.1 HW.out).mono ?_;rintro e w3 ⟨rfl,h4,h5⟩;have HG:=zM (zA h4 h5);clear h4 h5;go_wp2_with fail;go_ret;exact⟨rfl,by simpa using HG.out.1,gm.dU HF.out.2.2 HG.out.2⟩
def wC (neg:Bool)(xs:List Int):Int:=if xs=[]then 0 else if neg then -1 else 1
theorem jL (g o:Nat)(neg:Bool)(xs:List Int)(w:World)(hx:rH w g o neg xs):
  Calls Tryz.prog 113 #[.pointer (some ⟨g,o,none⟩)] w fun e w'=>e= .returned (.int .i64 (wC neg xs))∧w=w':=by
 obtain⟨A,c,hx0,hx1,hc,hU⟩:=hx;clear hc hU
 by_cases hn:xs=[]
 ·subst hn;have h0:(((0:Nat):Int)==0)=true:=rfl;simp only[List.length_nil]at hx1;go_enter Tryz.func113,Tryz.ntmps113;go_wp2;go_ret;exact⟨rfl,rfl⟩
 ·have hl:((xs.length:Int)==0)=false:=by rw[beq_eq_false_iff_ne];have:=List.length_pos_iff.2 hn;omega
  have hl2:(xs.length==0)=false:=by rw[beq_eq_false_iff_ne];have:=List.length_pos_iff.2 hn;omega
  have HN:=zM hn;cases neg
  ·have hs:wC false xs=1:=by simp[wC,hn]
   have HS:=zM hs;clear hs hn;go_enter Tryz.func113,Tryz.ntmps113;go_wp2;go_ret;exact⟨by rw[HS.out];rfl,rfl⟩
  ·have hs:wC true xs= -1:=by simp[wC,hn]
   have HS:=zM hs;clear hs hn;go_enter Tryz.func113,Tryz.ntmps113;go_wp2;go_ret;exact⟨by rw[HS.out];rfl,rfl⟩
theorem NZ (A0:Option Addr)(c0:Nat)(a:List Int)(A1:Option Addr)(c1:Nat)(b:List Int)(wa:Wd a)(wb:Wd b)(ha:a.length≤c0)(hb:b.length≤c1):
  ∃r,Sg r (val 4294967296 a) (val 4294967296 b)∧-4611686018427387904≤r∧r≤4611686018427387904∧∀w,U w A0 a→U w A1 b→Calls Tryz.prog 162 #[.slice A0 a.length c0,.slice A1 b.length c1] w fun e w'=>e= .returned (.int .i64 r)∧aJ w w':=by
 obtain⟨rc,hr,h1,h2,hev⟩:=nI wa.1 wb.1 wa.2.1 wb.2.1 (by have:=wa.2.2;omega) (by have:=wb.2.2;omega);obtain⟨k,hk⟩:=hev.rounds;exact⟨rc,hr,h1,h2,fun w hA hB=>bY.calls k A0 c0 a A1 c1 b rc w hA.now ha hB.now hb hk⟩
def Ir (a b:Int):Int:=if a<b then -1 else if a=b then 0 else 1
def Cl (k r:Int):Prop:=(k<0∧r= -1)∨(k=0∧r=0)∨(0<k∧r=1)
theorem Qc {a b k:Int}(h1:k<0↔a<b)(h2:k=0↔a=b):Cl k (Ir a b):=by
 unfold Ir Cl
 by_cases ha:a<b
 ·left;exact⟨h1.2 ha,by rw[if_pos ha]⟩
 ·by_cases hb:a=b
  ·right;left;exact⟨h2.2 hb,by rw[if_neg ha,if_pos hb]⟩
  ·right;right;have n1:¬k<0:=fun h=>ha (h1.1 h)
   have n2:¬k=0:=fun h=>hb (h2.1 h)
   exact⟨by omega,by rw[if_neg ha,if_neg hb]⟩
theorem Di {z z':Int}(h:z=z'):Ending.returned (.int .i64 z)= .returned (.int .i64 z'):=by rw[h]
theorem drawn_drew {w w2:World}(h:aJ w.drew w2):aJ w w2:=by
 obtain⟨n,rfl⟩:=h;exact⟨⟨1+n,World.drewN_drewN w 1 n⟩⟩
theorem JV (gx ox gy oy:Nat)(nx ny:Bool)(xs ys:List Int)(w:World)(hx:rH w gx ox nx xs)(hy:rH w gy oy ny ys)(wx:Wd xs)(wy:Wd ys)(zx:nx=true→xs≠[])(zy:ny=true→ys≠[]):
  Calls Tryz.prog 116 #[.pointer (some ⟨gx,ox,none⟩),.pointer (some ⟨gy,oy,none⟩)] w fun e w'=>e= .returned (.int .i64 (Ir (num nx xs) (num ny ys)))∧aJ w w':=by
 have HX:=zM hx;have HY:=zM hy;obtain⟨A,c,hx0,hx1,hc,hU⟩:=hx;obtain⟨A2,c2,hy0,hy1,hc2,KN⟩:=hy;obtain⟨rc,hr,r1,r2,hcall⟩:=NZ A c xs A2 c2 ys wx wy hc hc2;have HU:=zM (zA hU KN);have HC:=zM hcall;have px:=wx.qN;have py:=wy.qN;have pz1:=fun h=>wx.pos (zx h)
 have pz2:=fun h=>wy.pos (zy h)
 cases nx<;>cases ny
 case false.false=>
  have HE:=zM (Qc (a:=num false xs) (b:=num false ys) (k:=rc) (by simpa[num]using hr.1) (by simpa[num]using hr.2));clear hcall hU KN hc hc2 wx wy zx zy hr px py pz1 pz2;go_enter Tryz.func116,Tryz.ntmps116;go_wp2_with fail;go_region_with ((go_at_call 162;refine(HC.out _ (by first|exact HU.out.1|exact HU.out.1.drew) (by first|exact HU.out.2|exact HU.out.2.drew)).mono ?_;rintro e w2 ⟨rfl,h1⟩;have HF:=zM h1;have hx0':=aI h1.below hx0;have hy0':=aI h1.below hy0;clear h1))
  all_goals(go_wp2_with fail;go_quiet (fail);go_wp2)
  all_goals(go_ret;refine⟨Di ?_,aJ.step (drawn_drew HF.out) _⟩)
  all_goals(rcases HE.out with h|h|h<;>(first|omega|(split at * <;>omega)))
 case true.true=>
  have hn:wrap64 (-rc)= -rc:=fD (by omega) (by omega);have HE:=zM (Qc (a:=num true xs) (b:=num true ys) (k:= -rc) (by have:=hr.1;have:=hr.2;simp[num];omega) (by have:=hr.2;simp[num];omega));clear hcall hU KN hc hc2 wx wy zx zy hr px py pz1 pz2;go_enter Tryz.func116,Tryz.ntmps116;go_wp2_with fail;go_region_with ((go_at_call 162;refine(HC.out _ (by first|exact HU.out.1|exact HU.out.1.drew) (by first|exact HU.out.2|exact HU.out.2.drew)).mono ?_;rintro e w2 ⟨rfl,h1⟩;have HF:=zM h1;have hx0':=aI h1.below hx0;have hy0':=aI h1.below hy0;clear h1))
  all_goals(go_wp2_with fail;go_quiet (fail);go_wp2)
  all_goals(go_ret;refine⟨Di ?_,aJ.step (drawn_drew HF.out) _⟩)
  all_goals(rcases HE.out with h|h|h<;>(first|omega|(split at * <;>omega)))
 case false.true=>
  obtain⟨kk,hkk⟩:∃kk:Int,wC false xs- wC true ys=kk:=⟨_,rfl⟩;have hbd: -2≤kk∧kk≤2:=by rw[←hkk];unfold wC;repeat' split<;>omega
  have hw:wrap64 (wC false xs- wC true ys)=kk:=by rw[hkk];exact fD (by omega) (by omega)
  have HE:=zM (Qc (a:=num false xs) (b:=num true ys) (k:=kk) (by have h2:=pz2 rfl;have h3:=zy rfl;rw[←hkk];simp only[wC,if_neg h3,num];simp;split<;>omega) (by have h2:=pz2 rfl;have h3:=zy rfl;rw[←hkk];simp only[wC,if_neg h3,num];simp;split<;>omega));clear hcall hU KN hc hc2 wx wy zx zy hr px py pz1 pz2 hkk hbd;go_enter Tryz.func116,Tryz.ntmps116;go_wp2_with fail;go_region_with ((go_at_call 162;refine(HC.out _ (by first|exact HU.out.1|exact HU.out.1.drew) (by first|exact HU.out.2|exact HU.out.2.drew)).mono ?_;rintro e w2 ⟨rfl,h1⟩;have HF:=zM h1;have hx0':=aI h1.below hx0;have hy0':=aI h1.below hy0;clear h1))
  all_goals(go_wp2_with fail;go_quiet (fail);go_wp2_with fail)
  all_goals(refine(jL gx ox false xs _ ((HX.out.below (drawn_drew HF.out).below).below (ai (Below.refl _ _) _))).mono ?_;rintro e w' ⟨rfl,rfl⟩;go_wp2_with fail;refine(jL gy oy true ys _ ((HY.out.below (drawn_drew HF.out).below).below (ai (Below.refl _ _) _))).mono ?_;rintro e w' ⟨rfl,rfl⟩;go_wp2)
  all_goals(go_ret;refine⟨Di ?_,aJ.step (drawn_drew HF.out) _⟩)
  all_goals(rcases HE.out with h|h|h<;>(first|omega|(split at * <;>omega)))
 case true.false=>
  obtain⟨kk,hkk⟩:∃kk:Int,wC true xs- wC false ys=kk:=⟨_,rfl⟩;have hbd: -2≤kk∧kk≤2:=by rw[←hkk];unfold wC;repeat' split<;>omega
  have hw:wrap64 (wC true xs- wC false ys)=kk:=by rw[hkk];exact fD (by omega) (by omega)
  have HE:=zM (Qc (a:=num true xs) (b:=num false ys) (k:=kk) (by have h2:=pz1 rfl;have h3:=zx rfl;rw[←hkk];simp only[wC,if_neg h3,num];simp;split<;>omega) (by have h2:=pz1 rfl;have h3:=zx rfl;rw[←hkk];simp only[wC,if_neg h3,num];simp;split<;>omega));clear hcall hU KN hc hc2 wx wy zx zy hr px py pz1 pz2 hkk hbd;go_enter Tryz.func116,Tryz.ntmps116;go_wp2_with fail;go_region_with ((go_at_call 162;refine(HC.out _ (by first|exact HU.out.1|exact HU.out.1.drew) (by first|exact HU.out.2|exact HU.out.2.drew)).mono ?_;rintro e w2 ⟨rfl,h1⟩;have HF:=zM h1;have hx0':=aI h1.below hx0;have hy0':=aI h1.below hy0;clear h1))
  all_goals(go_wp2_with fail;go_quiet (fail);go_wp2_with fail)
  all_goals(refine(jL gx ox true xs _ ((HX.out.below (drawn_drew HF.out).below).below (ai (Below.refl _ _) _))).mono ?_;rintro e w' ⟨rfl,rfl⟩;go_wp2_with fail;refine(jL gy oy false ys _ ((HY.out.below (drawn_drew HF.out).below).below (ai (Below.refl _ _) _))).mono ?_;rintro e w' ⟨rfl,rfl⟩;go_wp2)
  all_goals(go_ret;refine⟨Di ?_,aJ.step (drawn_drew HF.out) _⟩)
  all_goals(rcases HE.out with h|h|h<;>(first|omega|(split at * <;>omega)))
theorem Fp (gz:Nat)(n:Int)(w:World)(v0 v1:Value)(hz:w.heap[gz]?=some (.cells #[v0,v1] 173 (0,0)))(h0:0≤n)(h1:n<9223372036854775808):
  Calls Tryz.prog 163 #[.pointer (some ⟨gz,0,none⟩),.int .i64 n] w fun e w'=>∃xs,e= .returned (.pointer (some ⟨gz,0,none⟩))∧iy w' gz false xs∧Wd xs∧val 4294967296 xs=n∧gm (·=gz) w w':=by
 have HZ:=zM hz;have hu:IntKind.u64.wrap n=n:=u64 h0 (by omega);have hd:decide (n<0)=false:=decide_eq_false (by omega)
 have hdig:gV 4294967296 [n%4294967296,n/4294967296]:=by
  refine jX.2 ⟨by omega,jX.2 ⟨by omega,nJ _⟩⟩
 have hv:val 4294967296 [n%4294967296,n/4294967296]=n:=by simp only[val];omega
 have HP:=zM (fun(W:World) (hb:W.heap[gz]?=some (.cells #[v0,v1] 173 (0,0))) A hU=>Dh gz false A 2 [n%4294967296,n/4294967296] W v0 v1 hb hU (by simp) hdig (by simp));have HL:=zM (fun W:World=>Qz W [n%4294967296,n/4294967296] (by simp));have HB:=zM (zA h0 h1);have HV:=zM hv;clear hz hdig hv;go_enter Tryz.func163,Tryz.ntmps163;go_wp2_with fail;have HUl:=zM (by simpa[nums]using HL.out w);obtain⟨r,wr_,hvr,hc⟩:=HP.out _ (((ag (Below.refl w.heap.size w) _).block gz (dV HZ.out)).trans HZ.out) _ HUl.out;refine hc.mono ?_;rintro e w' ⟨rfl,hI,hch⟩;have HI:=zM (zA hI (zA hch (zA wr_ hvr)));clear hI hch wr_ hvr hc;go_wp2_with fail;go_ret;exact⟨r,rfl,by simpa using HI.out.1,HI.out.2.2.1,by rw[HI.out.2.2.2];exact HV.out,gm.dU (ag (Below.refl _ _) _) HI.out.2.1⟩
theorem bZ (w:World)(o:Obj):(w.alloc o).heap[w.heap.size]?=some o:=by simpa using heap_alloc_new w o
theorem jw (n:Int)(w:World)(h0:0≤n)(h1:n<9223372036854775808):
  Calls Tryz.prog 117 #[.int .i64 n] w fun e w'=>∃g xs,e= .returned (.pointer (some ⟨g,0,none⟩))∧w.heap.size≤g∧iy w' g false xs∧Wd xs∧val 4294967296 xs=n∧Below w.heap.size w w':=by
 have HB:=zM (zA h0 h1);clear h0 h1;go_enter Tryz.func117,Tryz.ntmps117;go_wp2_with fail;refine(Fp w.heap.size n _ _ _ (bZ w _) HB.out.1 HB.out.2).mono ?_;rintro e w' ⟨xs,rfl,hI,hw,hv,hc⟩;have HI:=zM (zA hI (zA hw (zA hv hc)));clear hI hw hv hc;go_wp2_with fail;go_ret;exact⟨w.heap.size,xs,rfl,Nat.le_refl _,HI.out.1,HI.out.2.1,HI.out.2.2.1,(gm.dU (ag (Below.refl _ _) _) HI.out.2.2.2).below (fun k hk=>by subst hk;exact Nat.le_refl _)⟩
theorem Vj (n0 n1:Nat)(A0:Option Addr)(c0:Nat)(a:List Int)(A1:Option Addr)(c1:Nat)(b:List Int)(w:World)(h0:a.length=n0)(h1:b.length=n1)(hA:U w A0 a)(ha:n0≤c0)(hB:U w A1 b)(hb:n1≤c1)(wa:Wd a)(wb:Wd b)(hbn:b≠[]):
  Calls Tryz.prog 159 #[.slice A0 n0 c0,.slice A1 n1 c1] w (Nl a b w):=by
 subst h0;subst h1;exact N9 A0 c0 a A1 c1 b w hA ha hB hb wa wb hbn
theorem LP (gz gx gy:Nat)(nx ny:Bool)(xs ys:List Int)(w:World)(v0 v1:Value)(hz:w.heap[gz]?=some (.cells #[v0,v1] 173 (0,0)))(hx:iy w gx nx xs)(hy:iy w gy ny ys)(wx:Wd xs)(wy:Wd ys)(hn:ys≠[]):
  Calls Tryz.prog 164 #[.pointer (some ⟨gz,0,none⟩),.pointer (some ⟨gx,0,none⟩),.pointer (some ⟨gy,0,none⟩)] w fun e w'=>∃q r,e= .returned (.pointer (some ⟨gz,0,none⟩))∧iy w' gz (nx !=ny&& !q.isEmpty) q∧Wd q∧Wd r∧val 4294967296 xs=val 4294967296 q*val 4294967296 ys+val 4294967296 r∧val 4294967296 r<val 4294967296 ys∧gm (·=gz) w w':=by
 obtain⟨A,c,hx0,hx1,hc,hU⟩:=hx.c;obtain⟨A2,c2,hy0,hy1,hc2,KN⟩:=hy.c;have HZ:=zM hz;have HU:=zM (zA hU KN);have HC:=zM (zA hc hc2);have HW:=zM (zA wx (zA wy hn));clear hU KN hc hc2 wx wy hn hz hx hy;go_enter Tryz.func164,Tryz.ntmps164;go_wp2_with fail;go_cut [7,8] (fun v7 v8 wc=>∃q r A3 c3,v7= .slice A3 q.length c3∧Aside0 (Wd q∧Wd r∧val 4294967296 xs=val 4294967296 q*val 4294967296 ys+val 4294967296 r∧val 4294967296 r<val 4294967296 ys∧q.length≤c3∧U wc A3 q∧Below w.heap.size w wc))
 case first=>
  go_region_with ((go_at_call 159;refine(Vj xs.length ys.length A c xs A2 c2 ys _ rfl rfl (by first|exact HU.out.1|exact HU.out.1.drew) HC.out.1 (by first|exact HU.out.2|exact HU.out.2.drew) HC.out.2 HW.out.1 HW.out.2.1 HW.out.2.2).mono ?_;rintro e w2 ⟨q,r,wq,wr,e1,e2,A3,c3,A4,c4,rfl,h3,h4,h5,h6,h7⟩;have HF:=zM (zA wq (zA wr (zA e1 (zA e2 (zA h3 (zA h5 h7))))));clear wq wr e1 e2 h3 h4 h5 h6 h7))
  all_goals(go_wp2_with fail;go_meet;exact⟨q,r,A3,c3,rfl,⟨HF.out.1,HF.out.2.1,HF.out.2.2.1,HF.out.2.2.2.1,HF.out.2.2.2.2.1,HF.out.2.2.2.2.2.1,PQ HF.out.2.2.2.2.2.2⟩⟩)
 case rest=>
  obtain⟨q,r,A3,c3,rfl,HF⟩:=hcut;have hx0':=aI HF.out.2.2.2.2.2.2 hx0;have hy0':=aI HF.out.2.2.2.2.2.2 hy0;go_wp2_with fail;go_region_with ((go_at_call 160;refine(Es q.length gz (nx !=ny) A3 c3 q _ v0 v1 rfl (by have h:=(HF.out.2.2.2.2.2.2).block gz (dV HZ.out);exact h.trans HZ.out) (by first|exact HF.out.2.2.2.2.2.1|exact HF.out.2.2.2.2.2.1.drew) HF.out.2.2.2.2.1 HF.out.1).mono ?_;rintro e w3 ⟨rfl,h4,h5⟩;have HG:=zM (zA h4 h5);clear h4 h5))
  all_goals(go_wp2_with fail;go_ret;exact⟨q,r,rfl,HG.out.1,HF.out.1,HF.out.2.1,HF.out.2.2.1,HF.out.2.2.2.1,gm.dU (dB HF.out.2.2.2.2.2.2) HG.out.2⟩)
def ja (a b:Int):Int:=(Nat.gcd a.toNat b.toNat:Nat)
theorem KH {a b q r:Int}(ha:0≤a)(hb:0<b)(hr:0≤r)(h:a=q*b+r)(hlt:r<b):ja b r=ja a b:=by
 have d:=rX h hr hlt;unfold ja
 congr 1
 have e:r.toNat=a.toNat%b.toNat:=by
  rw[←Int.toNat_emod ha (by omega),d.2]
 rw[e,Nat.gcd_comm,←Nat.gcd_rec,Nat.gcd_comm]
theorem gcd_zero {a:Int}(ha:0≤a):ja a 0=a:=by unfold ja;simp;omega
theorem KG (gz gx gy ox oy:Nat)(nx ny:Bool)(xs ys:List Int)(w:World)(v0 v1 p1 p2:Value)(hz:w.heap[gz]?=some (.cells #[v0,v1] 173 (0,0)))(hx:rH w gx ox nx xs)(hy:rH w gy oy ny ys)(wx:Wd xs)(wy:Wd ys):
  Calls Tryz.prog 114 #[.pointer (some ⟨gz,0,none⟩),p1,p2,.pointer (some ⟨gx,ox,none⟩),.pointer (some ⟨gy,oy,none⟩)] w fun e w'=>∃g,e= .returned (.pointer (some ⟨gz,0,none⟩))∧iy w' gz false g∧Wd g∧val 4294967296 g=ja (val 4294967296 xs) (val 4294967296 ys)∧gm (·=gz) w w':=by
 obtain⟨A,c,hx0,hx1,hc,hU⟩:=hx;obtain⟨A2,c2,hy0,hy1,hc2,KN⟩:=hy;have HZ:=zM hz;have HU:=zM (zA hU KN);have HC:=zM (zA hc hc2);have HW:=zM (zA wx wy);obtain⟨G,hG⟩:∃G,ja (val 4294967296 xs) (val 4294967296 ys)=G:=⟨_,rfl⟩;have HG:=zM hG;clear hU KN hc hc2 wx wy hz hx0 hy0 hG;go_enter Tryz.func114,Tryz.ntmps114;go_wp2_with fail;go_quiet (fail);go_wp2_with fail;go_loopg [11,12] (val 4294967296 ys).toNat (fun kq v11 v12 W=>∃(a b:List Int) (A3:Option Addr) (c3:Nat) (A4:Option Addr) (c4:Nat),v11= .slice A3 a.length c3∧v12= .slice A4 b.length c4∧Aside0 (Wd a∧Wd b∧ja (val 4294967296 a) (val 4294967296 b)=G∧(val 4294967296 b).toNat≤kq∧a.length≤c3∧b.length≤c4∧U W A3 a∧U W A4 b∧Below w.heap.size w W))
 case atStart=>exact⟨xs,ys,A,c,A2,c2,rfl,rfl,⟨HW.out.1,HW.out.2,HG.out,Nat.le_refl _,HC.out.1,HC.out.2,HU.out.1.drewN _,HU.out.2.drewN _,ai (Below.refl _ _) _⟩⟩
 case round=>
  clear HU HC hx1 hy1;obtain⟨a,b,A3,c3,A4,c4,rfl,rfl,HR⟩:=hrel
  by_cases hb:b=[]
  ·have hl:decide (0<b.length)=false:=by subst hb;rfl
   have hl2:decide (0<(b.length:Int))=false:=by subst hb;rfl
   have HB:=zM hb;clear hb;go_wp2_with fail;refine(yD a.length A3 c3 a _ rfl HR.out.2.2.2.2.2.2.1 HR.out.1).mono ?_;rintro e w2 ⟨A5,c5,rfl,h1,h2,h3⟩;have HF:=zM (zA h1 (zA h2 h3));clear h1 h2 h3;have hbw:Below w.heap.size w w2:=ah HR.out.2.2.2.2.2.2.2.2 HR.out.2.2.2.2.2.2.2.2.size HF.out.2.2;have YZ:=zM hbw;clear hbw;go_wp2_with fail;refine(Es a.length gz false A5 c5 a _ v0 v1 rfl ((YZ.out.block gz (dV HZ.out)).trans HZ.out) HF.out.2.1 HF.out.1 HR.out.1).mono ?_;rintro e w3 ⟨rfl,h4,h5⟩;have HH:=zM (zA h4 h5);clear h4 h5;go_wp2_with fail;go_ret;refine⟨a,rfl,by simpa using HH.out.1,HR.out.1,?_,gm.dU YZ.out HH.out.2⟩;have h:=HR.out.2.2.1;rw[HB.out]at h;simp only[val]at h;rw[gcd_zero HR.out.1.qN]at h;exact h.trans HG.out.symm
  ·have hl:decide (0<b.length)=true:=decide_eq_true (List.length_pos_iff.2 hb);have hl2:decide (0<(b.length:Int))=true:=decide_eq_true (by have:=List.length_pos_iff.2 hb;omega);have HB:=zM hb;clear hb;go_wp2_with fail;refine(Vj a.length b.length A3 c3 a A4 c4 b _ rfl rfl HR.out.2.2.2.2.2.2.1 HR.out.2.2.2.2.1 HR.out.2.2.2.2.2.2.2.1 HR.out.2.2.2.2.2.1 HR.out.1 HR.out.2.1 HB.out).mono ?_;rintro e w2 ⟨q,r,wq,wr,e1,e2,A5,c5,A6,c6,rfl,h3,h4,h5,h6,h7⟩;have HF:=zM (zA wr (zA e1 (zA e2 (zA h4 (zA h6 h7)))));clear wq wr e1 e2 h3 h4 h5 h6 h7;go_wp2_with fail;have hpos:=HR.out.2.1.pos HB.out;have hrn:=HF.out.1.qN;cases gk with
   |zero=>exact absurd HR.out.2.2.2.1 (by omega)
   |succ k1=>
    go_roundg k1
    case measure=>omega
    case rel=>exact⟨b,r,A4,c4,A6,c6,rfl,rfl,⟨HR.out.2.1,HF.out.1,by rw[←HR.out.2.2.1];exact KH HR.out.1.qN hpos hrn HF.out.2.1 HF.out.2.2.1,by have:=HR.out.2.2.2.1;have:=HF.out.2.2.1;omega,HR.out.2.2.2.2.2.1,HF.out.2.2.2.1,HR.out.2.2.2.2.2.2.2.1.below HF.out.2.2.2.2.2,HF.out.2.2.2.2.1,ah HR.out.2.2.2.2.2.2.2.2 HR.out.2.2.2.2.2.2.2.2.size HF.out.2.2.2.2.2⟩⟩
theorem DR (c:Int)(cs:List Int):dec 0 (c::cs)=(c- 48)*10^cs.length+dec 0 cs:=by
 simp only[dec];rw[CU];simp
theorem Qj:∀{xs ys:List Int},Num xs→Num ys→xs.length=ys.length→dec 0 xs=dec 0 ys→xs=ys
 | [],ys,_,_,hl,_=>(List.eq_nil_of_length_eq_zero hl.symm).symm
 |x::xs,[],_,_,hl,_=>by simp at hl
 |x::xs,y::ys,hx,hy,hl,h=>by
  have hl':xs.length=ys.length:=by simpa using hl
  rw[DR,DR,←hl']at h;have h1:=jh (xs:=xs) (fun c hc=>hx c (by simp[hc]));have h2:=jh (xs:=ys) (fun c hc=>hy c (by simp[hc]));rw[←hl']at h2;have hp:(0:Int)<10^xs.length:=Int.pow_pos (by decide);have d1:=rX (a:=dec 0 xs+(x- 48)*10^xs.length) (b:=10^xs.length) (q:=x- 48) (r:=dec 0 xs) (by omega) h1.1 h1.2;have d2:=rX (a:=dec 0 ys+(y- 48)*10^xs.length) (b:=10^xs.length) (q:=y- 48) (r:=dec 0 ys) (by omega) h2.1 h2.2;have e:dec 0 xs+(x- 48)*10^xs.length=dec 0 ys+(y- 48)*10^xs.length:=by omega
  rw[e]at d1;have hxy:x=y:=by have:=d1.1.symm.trans d2.1;omega
  have hd:dec 0 xs=dec 0 ys:=d1.2.symm.trans d2.2;rw[hxy,Qj (fun c hc=>hx c (by simp[hc])) (fun c hc=>hy c (by simp[hc])) hl' hd]
theorem AY {s t:ByteArray}(h:bytesOf s=bytesOf t):s=t:=by
 have h1:s.data.toList=t.data.toList:=by
  refine List.map_inj_right (f:=fun b:UInt8=>(b.toNat:Int)) (fun a b hab=>?_)|>.1 h
  exact UInt8.toNat_inj.1 (Int.ofNat.inj hab)
 have h2:s.data=t.data:=Array.toList_inj.1 h1;cases s;cases t;simpa using h2
theorem DL {s:ByteArray}(h:Canon s)(h2:2≤s.size):10^(s.size- 1)≤dv s:=by
 have hl:=bytesOf_length s;have hr:=gW s 0;have hd:=Ac h.2.2 0 (by rw[hl];exact h.1);have hne:bt s 0≠48:=fun e=>by have:=h.2.1 e;omega
 unfold dv;have hnum:=h.2.2;cases hb:bytesOf s with
 |nil=>rw[hb]at hl;simp at hl;omega
 |cons c cs=>
  rw[hb]at hl hr hd hnum;have e:rd (c::cs) 0=c:=rfl;rw[e]at hr hd;have hp:=jh (xs:=cs) (fun x hx=>hnum x (by simp[hx]));rw[DR];simp only[List.length_cons]at hl;rw[show s.size- 1=cs.length by omega];have h10:(0:Int)<10^cs.length:=Int.pow_pos (by decide);have:=Int.mul_le_mul_of_nonneg_right (show 1≤c- 48 by omega) (Int.le_of_lt h10);omega
theorem rU {s t:ByteArray}(h:Canon s)(ht:Canon t)(hle:dv s≤dv t):s.size≤t.size:=by
 rcases Nat.lt_or_ge s.size 2 with h2|h2
 ·have:=ht.1;omega
 ·have h1:=DL h h2;have h3:=(jh ht.2.2).2;rw[bytesOf_length]at h3;unfold dv at hle;refine Classical.byContradiction fun hn=>?_
  have h4:=kH (B:=10) (by omega) (show t.size≤s.size- 1 by omega);unfold dv at h1;omega
theorem zH {s t:ByteArray}(h:Canon s)(ht:Canon t)(he:dv s=dv t):s=t:=by
 have h1:=rU h ht (by omega);have h2:=rU ht h (by omega);exact AY (Qj h.2.2 ht.2.2 (by rw[bytesOf_length,bytesOf_length];omega) he)
theorem JU (d:UInt8)(h0:48≤d.toNat)(h1:d.toNat≤57):Canon ⟨#[d]⟩∧dv ⟨#[d]⟩=d.toNat- 48:=by
 refine⟨⟨by simp[ByteArray.size],fun _=>by simp[ByteArray.size],fun x hx=>?_⟩,?_⟩
 ·simp[bytesOf]at hx;omega
 ·simp[dv,bytesOf,dec]
theorem iZ {s:ByteArray}(h:Canon s)(d:UInt8)(h0:48≤d.toNat)(h1:d.toNat≤57):(s.toList==[d])=true↔dv s=(d.toNat:Int)- 48:=by
 obtain⟨h2,h3⟩:=JU d h0 h1;rw[ByteArray.toList_eq];constructor
 ·intro e;have e2:s.data.toList=[d]:=by simpa using e
  have:s=⟨#[d]⟩:=by cases s;rename_i a;cases a;simpa using e2
  rw[this,h3]
 ·intro e;have:s=⟨#[d]⟩:=zH h h2 (by rw[e,h3]);rw[this];simp
theorem qw (a b:ByteArray)(w:World)(ha:Canon a)(hb:Canon b)(la:a.size≤1000)(lb:b.size≤1000):
  Calls Tryz.prog 93 #[.string a,.string b] w fun e w'=>∃g,e= .returned (.string g)∧Canon g∧dv g=ja (dv a) (dv b)∧Below w.heap.size w w':=by
 have HA:=zM (zA ha (zA hb (zA la lb)));obtain⟨G,hG⟩:∃G,ja (dv a) (dv b)=G:=⟨_,rfl⟩;have HG:=zM hG;rw[hG];clear ha hb la lb hG;go_enter Tryz.func93,Tryz.ntmps93;go_wp2_with fail;go_loopg [0,1] ((dv b).toNat+1) (fun kq v0 v1 W=>∃s t:ByteArray,v0= .string s∧v1= .string t∧Aside0 (Canon s∧Canon t∧s.size≤1000∧t.size≤1000∧ja (dv s) (dv t)=G∧(dv t).toNat+1≤kq∧Below w.heap.size w W))
 case atStart=>exact⟨a,b,rfl,rfl,⟨HA.out.1,HA.out.2.1,HA.out.2.2.1,HA.out.2.2.2,HG.out,Nat.le_refl _,Below.refl _ _⟩⟩
 case round=>
  obtain⟨s,t,rfl,rfl,HR⟩:=hrel;have his:=iZ HR.out.2.1 48 (by decide) (by decide);have hs0:0≤dv s:=(jh HR.out.1.2.2).1;have ht0:0≤dv t:=(jh HR.out.2.1.2.2).1
  by_cases hz:dv t=0
  ·have h1:(t.toList==[48])=true:=his.2 (by rw[hz];rfl);have h2:(t.toList !=[48])=false:=by rw[bne,h1];rfl
   have HZ:=zM (zA hz hs0);clear his hz hs0 ht0;go_wp2_with fail;go_ret;refine⟨s,rfl,HR.out.1,?_,HR.out.2.2.2.2.2.2⟩;have h:=HR.out.2.2.2.2.1;rw[HZ.out.1,gcd_zero HZ.out.2]at h;exact h
  ·have h1:(t.toList==[48])=false:=Bool.eq_false_iff.mpr (fun h=>hz (by rw[his.1 h];rfl));have h2:(t.toList !=[48])=true:=by rw[bne,h1];rfl
   have HZ:=zM (zA hz (zA hs0 ht0));clear his hz hs0 ht0;obtain⟨k1,rfl⟩:∃k1,gk=k1+1:=⟨gk- 1,by have:=HR.out.2.2.2.2.2.1;omega⟩;go_wp2_with fail;refine(J3 s t _ HR.out.1 HR.out.2.1 HZ.out.1 HR.out.2.2.1 HR.out.2.2.2.1).mono ?_;rintro e w2 ⟨q,r,rfl,h3,⟨k,hk⟩,h5,h6,h7⟩;have HF:=zM (zA h3 (zA hk (zA h5 (zA h6 (ah HR.out.2.2.2.2.2.2 HR.out.2.2.2.2.2.2.size h7)))));clear h3 hk h5 h6 h7;go_wp2_with fail;go_roundg k1
   case measure=>omega
   case rel=>
    have h1:=HZ.out;have h2:=HF.out;refine⟨t,r,rfl,rfl,⟨HR.out.2.1,h2.1,HR.out.2.2.2.1,?_,?_,?_,h2.2.2.2.2⟩⟩
    ·have:=rU h2.1 HR.out.2.1 (by omega);have:=HR.out.2.2.2.1;omega
    ·rw[←HR.out.2.2.2.2.1];exact KH h1.2.1 (by omega) h2.2.2.1 h2.2.1 h2.2.2.2.1
    ·have:=HR.out.2.2.2.2.2.1;omega
def kU (W:World)(g:Nat)(np:Bool)(ps qs:List Int):Prop:=∃A c A2 c2,W.heap[g]?=some (.cells #[.bool np,.slice A ps.length c,.bool false,.slice A2 qs.length c2] 179 (0,0))∧ps.length≤c∧qs.length≤c2∧U W A ps∧U W A2 qs
def Low (ps qs xs ys:List Int):Prop:=Wd ps∧Wd qs∧qs≠[]∧val 4294967296 ps*ja (val 4294967296 xs) (val 4294967296 ys)=val 4294967296 xs∧val 4294967296 qs*ja (val 4294967296 xs) (val 4294967296 ys)=val 4294967296 ys
theorem qy {a b:Int}(hb:0<b):0<ja a b:=by
 unfold ja;have:=Nat.gcd_pos_of_pos_right a.toNat (show 0<b.toNat by omega);omega
theorem gcd_dvd {a b:Int}(ha:0≤a)(hb:0≤b):(∃k,a=k*ja a b)∧∃k,b=k*ja a b:=by
 unfold ja;obtain⟨k,hk⟩:=Nat.gcd_dvd_left a.toNat b.toNat;obtain⟨l,hl⟩:=Nat.gcd_dvd_right a.toNat b.toNat;refine⟨⟨(k:Int),?_⟩,(l:Int),?_⟩
 ·have:(a.toNat:Int)=((Nat.gcd a.toNat b.toNat *k:Nat):Int):=by rw[←hk]
  rw[Int.natCast_mul]at this;rw[Int.mul_comm];omega
 ·have:(b.toNat:Int)=((Nat.gcd a.toNat b.toNat *l:Nat):Int):=by rw[←hl]
  rw[Int.natCast_mul]at this;rw[Int.mul_comm];omega
theorem Gm {a g q r:Int}(hg:0<g)(hr0:0≤r)(h:a=q*g+r)(hr:r<g)(hd:∃k,a=k*g):q*g=a:=by
 obtain⟨k,hk⟩:=hd;have d1:=rX h hr0 hr;have d2:=rX (show a=k*g+0 by omega) (by omega) hg;omega
theorem aah (gz n:Nat)(neg:Bool)(A0:Option Addr)(c0:Nat)(xs:List Int)(w:World)(v0 v1 v2 v3:Value)(hn:xs.length=n)(hb:w.heap[gz]?=some (.cells #[v0,v1,v2,v3] 179 (0,0)))(hU:U w A0 xs)(hc0:n≤c0)(hw:Wd xs):
  Calls Tryz.prog 160 #[.pointer (some ⟨gz,0,none⟩),.bool neg,.slice A0 n c0] w fun e w'=>e= .returned (.pointer (some ⟨gz,0,none⟩))∧w'.heap[gz]?=some (.cells #[.bool (neg&& !xs.isEmpty),.slice A0 xs.length c0,v2,v3] 179 (0,0))∧gm (·=gz) w w':=by
 subst hn;obtain⟨m,hm,ht,hv,he⟩:=sZ 4294967296 xs (by have:=hw.2.2;omega);obtain⟨k,hk⟩:=he.rounds;have hr:xs.take m=xs:=Wd.inj ⟨fK hw.1 m,ht,by have:=hw.2.2;rw[List.length_take];omega⟩ hw hv;refine(LM k gz 0 neg A0 c0 xs _ w v0 v1 ((aj hb 0).trans rfl) ((aj hb 1).trans rfl) (au hb 0) (au hb 1) hU.now hc0 hk).mono fun e w' ⟨he,hw⟩=>?_
 subst hw;have hch:=yz (w:=w) (g:=gz) ⟨gz,0,none⟩ ⟨gz,0+1,none⟩ rfl rfl (.bool (neg&& !(xs.take m).isEmpty)) (.slice A0 (xs.take m).length c0);refine⟨he,?_,hch⟩;have h1:=aN hb 0 (.bool (neg&& !(xs.take m).isEmpty));have h2:=aN h1 1 (.slice A0 (xs.take m).length c0);rw[hr]at h2⊢;simpa using h2
theorem oU (gz gx ox gy oy:Nat)(nx ny:Bool)(xs ys:List Int)(w:World)(v0 v1 v2 v3:Value)(hz:w.heap[gz]?=some (.cells #[v0,v1,v2,v3] 179 (0,0)))(hx:rH w gx ox nx xs)(hy:rH w gy oy ny ys)(wx:Wd xs)(wy:Wd ys)(hn:ys≠[]):
  Calls Tryz.prog 118 #[.pointer (some ⟨gz,0,none⟩),.pointer (some ⟨gx,ox,none⟩),.pointer (some ⟨gy,oy,none⟩)] w fun e w'=>∃ps qs,e= .returned (.pointer (some ⟨gz,0,none⟩))∧Low ps qs xs ys∧kU w' gz (nx !=ny&& !ps.isEmpty) ps qs∧gm (·=gz) w w':=by
 have HZ:=zM hz;have HX:=zM (zA hx hy);have HW:=zM (zA wx (zA wy hn));clear hz hx hy wx wy hn;go_enter Tryz.func118,Tryz.ntmps118;go_wp2_with fail;refine(Dz w.heap.size gx ox nx xs _ _ _ (bZ w _) (HX.out.1.below (ag (Below.refl _ _) _)) HW.out.1).mono ?_;rintro e w1 ⟨rfl,h1,h2⟩;have hb1:Below w.heap.size w w1:=(gm.dU (ag (Below.refl _ _) _) h2).below (fun k hk=>by subst hk;exact Nat.le_refl _);have H1:=zM (zA h1 hb1);clear h1 h2 hb1;go_wp2_with fail;refine(Dz w1.heap.size gy oy ny ys _ _ _ (bZ w1 _) ((HX.out.2.below H1.out.2).below (ag (Below.refl _ _) _)) HW.out.2.1).mono ?_;rintro e w2 ⟨rfl,h1,h2⟩;have hb2:Below w1.heap.size w1 w2:=(gm.dU (ag (Below.refl _ _) _) h2).below (fun k hk=>by subst hk;exact Nat.le_refl _);have H2:=zM (zA h1 (zA hb2 (zA (H1.out.1.below hb2) (ah H1.out.2 H1.out.2.size hb2))));clear h1 h2 hb2;obtain⟨Ax,cx,hx0,_,_,_⟩:=HX.out.1.below H2.out.2.2.2;obtain⟨Ay,cy,hy0,_,_,_⟩:=HX.out.2.below H2.out.2.2.2;go_wp2_with fail;go_quiet (fail);go_wp2_with fail;have hb3:Below w2.heap.size w2 ((w2.drewN nq).alloc (.cells #[.bool false,.slice none 0 0] 173)):=ag (ai (Below.refl _ _) nq) _;refine(KG w2.heap.size w.heap.size w1.heap.size 0 0 false false xs ys _ _ _ _ _ (by simpa using bZ (w2.drewN nq) _) (H2.out.2.2.1.below hb3).c (H2.out.1.below hb3).c HW.out.1 HW.out.2.1).mono ?_;rintro e w3 ⟨gs,rfl,h1,h2,h3,h4⟩;have hch:gm (·=w2.heap.size) w2 w3:=gm.dU hb3 h4;have ZA:Below w2.heap.size w2 w3:=hch.below (fun k hk=>by subst hk;exact Nat.le_refl _);have H3:=zM (zA h1 (zA h2 (zA h3 (zA (H2.out.2.2.1.below ZA) (zA (H2.out.1.below ZA) (zA (ah H2.out.2.2.2 H2.out.2.2.2.size ZA) (zA H1.out.2.size H2.out.2.1.size)))))));clear h1 h2 h3 h4 hch ZA hb3 hx0 hy0;go_wp2_with fail;refine(jw 1 w3 (by omega) (by omega)).mono ?_;rintro e w4 ⟨g1,os,rfl,h1,h2,h3,h4,h5⟩;have H4:=zM (zA (H3.out.1.below h5) (zA h2 (zA h3 (zA h4 (zA (H3.out.2.2.2.1.below h5) (zA (H3.out.2.2.2.2.1.below h5) (ah H3.out.2.2.2.2.2.1 H3.out.2.2.2.2.2.1.size h5)))))));clear h1 h2 h3 h4 h5;obtain⟨z,hz⟩:∃z,Ir (num false gs) (num false os)=z:=⟨_,rfl⟩;go_wp2_with fail;refine(JV w2.heap.size 0 g1 0 false false gs os w4 H4.out.1.c H4.out.2.1.c H3.out.2.1 H4.out.2.2.1 (fun h=>by cases h) (fun h=>by cases h)).mono ?_;rintro e w5 ⟨rfl,h1⟩;rw[hz];have hG:z=Ir (ja (val 4294967296 xs) (val 4294967296 ys)) 1:=by rw[←hz];simp only[num,H3.out.2.2.1,H4.out.2.2.2.1];rfl
 have h2:=h1.below;have H5:=zM (zA (H4.out.1.below h2) (zA (H4.out.2.2.2.2.1.below h2) (zA (H4.out.2.2.2.2.2.1.below h2) (zA (ah H4.out.2.2.2.2.2.2 H4.out.2.2.2.2.2.2.size h2) hG))));clear h1 h2 hG hz;go_upto_if 33 with(fail);go_cut [] (fun wc=>∃(ps qs:List Int),Aside0 (Low ps qs xs ys∧iy wc w.heap.size false ps∧iy wc w1.heap.size false qs∧Below w.heap.size w wc))
 case first=>
  have hn:=HW.out.2.2;have py:=HW.out.2.1.pos hn;have px:=HW.out.1.qN;have hG0:=qy (a:=val 4294967296 xs) py;have hgs:gs≠[]:=by intro e;have h:=H3.out.2.2.1;rw[e]at h;simp only[val]at h;omega
  have hd:=gcd_dvd px (show 0≤val 4294967296 ys by omega);have HD:=zM (zA hG0 (zA hgs (zA hd hn)));clear hn py px hG0 hgs hd
  by_cases hz:0<z
  ·have hz1:=zT hz;obtain⟨Ap,cp,hbp,_,_⟩:=H5.out.2.1;have HBP:=zM hbp;clear hbp;go_wp2_with fail;refine(LP w.heap.size w.heap.size w2.heap.size false false xs gs w5 _ _ HBP.out H5.out.2.1 H5.out.1 HW.out.1 H3.out.2.1 HD.out.2.1).mono ?_;rintro e w6 ⟨q,r,rfl,h1,h2,h3,h4,h5,h6⟩;have hnw:¬Ty w5 131 w.heap.size:=H5.out.2.1.XJ;have hs1:¬w1.heap.size=w.heap.size:=by have:=H5.out.2.1.lt;have:=H1.out.1.lt;omega
   have hs2:¬w2.heap.size=w.heap.size:=by have:=H1.out.1.lt;have:=H3.out.2.2.2.2.2.2.2;omega
   have h7:=H5.out.1.qj h6 (by exact hs2) (fun k hk _=>by subst hk;exact hnw);have h8:=H5.out.2.2.1.qj h6 (by exact hs1) (fun k hk _=>by subst hk;exact hnw);have h9:Below w.heap.size w w6:=(gm.trans (S:=fun k=>k=w.heap.size) (gm.of_below H5.out.2.2.2.1) h6 (fun _ _ h=>h)).below (fun k hk=>by subst hk;exact Nat.le_refl _);have H6:=zM (zA h1 (zA h2 (zA (zA h3.qN (zA h4 h5)) (zA h7 (zA h8 h9)))));clear h1 h2 h3 h4 h5 h6 h7 h8 h9 hnw hs2 hs1;obtain⟨Aq,cq,hbq,_,_⟩:=H6.out.2.2.2.2.1;have HBQ:=zM hbq;clear hbq;go_wp2_with fail;refine(LP w1.heap.size w1.heap.size w2.heap.size false false ys gs w6 _ _ HBQ.out H6.out.2.2.2.2.1 H6.out.2.2.2.1 HW.out.2.1 H3.out.2.1 HD.out.2.1).mono ?_;rintro e w7 ⟨q2,r2,rfl,h1,h2,h3,h4,h5,h6⟩;have hnw:¬Ty w6 131 w1.heap.size:=H6.out.2.2.2.2.1.XJ;have hs1:¬w.heap.size=w1.heap.size:=by have:=H1.out.1.lt;omega
   have h8:=H6.out.1.qj h6 (by exact hs1) (fun k hk _=>by subst hk;exact hnw);have hle:w.heap.size≤w1.heap.size:=H1.out.2.size;have h9:Below w.heap.size w w7:=(gm.trans (S:=fun k=>k=w1.heap.size) (gm.of_below H6.out.2.2.2.2.2) h6 (fun _ _ h=>h)).below (fun k hk=>by subst hk;exact hle);have H7:=zM (zA h1 (zA h2 (zA (zA h3.qN (zA h4 h5)) (zA h8 h9))));clear h1 h2 h3 h4 h5 h6 h8 h9 hnw hs1 hle;go_wp2_with fail;go_meet;have hgv:=H3.out.2.2.1;have k1:=H6.out.2.2.1;have k2:=H7.out.2.2.1;rw[hgv]at k1 k2;have e1:=Gm HD.out.1 k1.1 k1.2.1 k1.2.2 HD.out.2.2.1.1;have e2:=Gm HD.out.1 k2.1 k2.2.1 k2.2.2 HD.out.2.2.1.2
   have hq2:q2≠[]:=by
    intro e;rw[e]at e2;simp only[val]at e2;have:=HW.out.2.1.pos HD.out.2.2.2;omega
   exact⟨q,q2,⟨⟨H6.out.2.1,H7.out.2.1,hq2,e1,e2⟩,by simpa using H7.out.2.2.2.1,by simpa using H7.out.1,H7.out.2.2.2.2⟩⟩
  ·have hz1:=zF hz
   have hG1:ja (val 4294967296 xs) (val 4294967296 ys)=1:=by
    have h:=H5.out.2.2.2.2;unfold Ir at h;have:=HD.out.1;split at h
    ·omega
    ·split at h
     ·assumption
     ·omega
   have HG1:=zM hG1;clear hG1;go_wp2_with fail;go_meet;exact⟨xs,ys,⟨⟨HW.out.1,HW.out.2.1,HW.out.2.2,by rw[HG1.out];omega,by rw[HG1.out];omega⟩,H5.out.2.1,H5.out.2.2.1,H5.out.2.2.2.1⟩⟩
 case rest=>
  obtain⟨ps,qs,HC⟩:=hcut;have HN:=zM HW.out.2.2;obtain⟨Ap,cp,hbp,hcp,hUp⟩:=HC.out.2.1;obtain⟨Aq,cq,hbq,hcq,hUq⟩:=HC.out.2.2.1;have hbz:wc.heap[gz]?=some (.cells #[v0,v1,v2,v3] 179 (0,0)):=(HC.out.2.2.2.block gz (dV HZ.out)).trans HZ.out;have HZ2:=zM hbz;have HU:=zM (zA hcp (zA hUp (zA hcq (zA hUq (zA hbq (show¬w1.heap.size=gz by have:=dV HZ.out;have:=H1.out.2.size;omega))))));have hx1:wc.cell? ⟨w.heap.size,1,none⟩=some (.slice Ap ps.length cp):=(aj hbp 1).trans rfl;clear hbz hbq hUq hcp hUp hcq hbp;go_wp2_with fail;go_region_with ((go_at_call 160;refine(aah gz ps.length (nx !=ny) Ap cp ps _ v0 v1 v2 v3 rfl (by exact HZ2.out) (by first|exact HU.out.2.1|exact HU.out.2.1.drew) HU.out.1 HC.out.1.1).mono ?_;rintro e w6 ⟨rfl,h4,h5⟩;have HG:=zM (zA h4 h5);clear h4 h5))
  all_goals(have hz0:=HG.out.1;have hq0:w6.heap[w1.heap.size]?=some (.cells #[.bool false,.slice Aq qs.length cq] 173 (0,0)):=(HG.out.2.block w1.heap.size (by have:=dV HU.out.2.2.2.2.1;simpa using this) HU.out.2.2.2.2.2).trans HU.out.2.2.2.2.1;have hq1:w6.cell? ⟨w1.heap.size,0,none⟩=some (.bool false):=(aj hq0 0).trans rfl;have hq2:w6.cell? ⟨w1.heap.size,1,none⟩=some (.slice Aq qs.length cq):=(aj hq0 1).trans rfl;have hz2:w6.cell? ⟨gz,2,none⟩=some v2:=(aj hz0 2).trans rfl;have hz3:w6.cell? ⟨gz,3,none⟩=some v3:=(aj hz0 3).trans rfl;have hf2:=au hz0 2;have hf3:=au hz0 3;clear hz0 hq0 hx1;go_wp2_with fail;go_ret;refine⟨ps,qs,rfl,HC.out.1,?_⟩)
  all_goals(
   have hch:gm (·=gz) wc ((w6.setCell {block:=gz,off:=2} (Value.bool false)).setCell {block:=gz,off:=3} (Value.slice Aq qs.length cq)):=((gm.dU (dB (Below.refl _ _)) HG.out.2).setCell _ (Or.inl rfl) _).setCell _ (Or.inl rfl) _;have hn:¬Ty wc 131 gz:=Ha HZ2.out (by decide);refine⟨⟨Ap,cp,Aq,cq,?_,HU.out.1,HU.out.2.2.1,HU.out.2.1.qj hch (fun k hk _=>by subst hk;exact hn),HU.out.2.2.2.1.qj hch (fun k hk _=>by subst hk;exact hn)⟩,gm.dU HC.out.2.2.2 hch⟩;have h1:=aN HG.out.1 2 (.bool false);have h2:=aN h1 3 (.slice Aq qs.length cq)
   simpa using h2)
def afW (W:World)(base:Nat)(v:Value)(xs:List Int):Prop:=Kd.R (Kd.int .u32) 131 W base (fun _=>True) v xs
theorem uO (gz:Nat)(s:ByteArray)(base:Int)(w:World)(v0 v1:Value)(hz:w.heap[gz]?=some (.cells #[v0,v1] 173 (0,0)))(hs:0<s.size)(hl:s.size≤1000)(hd:Num (bytesOf s)):
  Calls Tryz.prog 158 #[.pointer (some ⟨gz,0,none⟩),.string s,.int .i64 base] w fun e w'=>∃xs,e= .returned (.tuple #[.pointer (some ⟨gz,0,none⟩),.bool true])∧Wd xs∧val 4294967296 xs=dec 0 (bytesOf s)∧iy w' gz false xs∧gm (·=gz) w w':=by
 have HZ:=zM hz;have HD:=zM (zA hd hl);have kb:=fun(t:ByteArray) W=>uI (P:=Tryz.prog) 9 50 5 Tryz.underlying9 Tryz.underlying50 Tryz.underlying5 t W
 have hl1:decide (0<(s.size:Int))=true:=decide_eq_true (by omega);have hl2:=zT hs;have hb:=Ac hd 0 (by rw[bytesOf_length];exact hs);rw[gW]at hb;have c1:((bt s 0)==45)=false:=beq_eq_false_iff_ne.mpr (by omega);have c2:((bt s 0)==43)=false:=beq_eq_false_iff_ne.mpr (by omega);have hx:∀h:0<s.size,((s[0]'h).toNat:Int)=bt s 0:=dQ s 0;have hq:=eq_true hs
 have hne:s.toList.isEmpty=false:=by
  rw[ByteArray.toList_eq];have h:=bV s;cases hh:s.data.toList with
  |nil=>rw[hh]at h;simp at h;omega
  |cons a b=>rfl
 clear hz hd hl hb hs;go_enter Tryz.func158,Tryz.ntmps158;go_wp2_with fail;go_loopg [1,9] s.size (fun kq v1 v9 W=>∃(t:ByteArray) (xs:List Int),v1= .string t∧Aside0 (t.size≤kq∧t.size≤s.size∧Num (bytesOf t)∧dec (val 4294967296 xs) (bytesOf t)=dec 0 (bytesOf s)∧gV 4294967296 xs∧xs.length+t.size≤s.size∧afW W w.heap.size v9 xs∧Below w.heap.size w W))
 case atStart=>exact⟨s,[],rfl,⟨Nat.le_refl _,Nat.le_refl _,HD.out.1,rfl,nJ _,by simp,Kd.jB _ _ _ _ _,Below.refl _ _⟩⟩
 case round=>
  clear c1 c2 hx hq hl1 hl2 hne;obtain⟨t,xs,rfl,HR⟩:=hrel
  by_cases ht:t.size=0
  ·have hl1:decide (0<(t.size:Int))=false:=decide_eq_false (by omega);have hl2:decide (0<t.size)=false:=decide_eq_false (by omega);have ht0:=zM ht;clear ht;obtain⟨A,c,rfl,hc,hU⟩:=U.E5 HR.out.2.2.2.2.2.2.1;have HU:=zM (zA hc hU);clear hc hU;obtain⟨r,hr,hv,hcall⟩:=Dh gz false A c xs wr v0 v1 ((HR.out.2.2.2.2.2.2.2.block gz (dV HZ.out)).trans HZ.out) HU.out.2 HU.out.1 HR.out.2.2.2.2.1 (by have:=HR.out.2.2.2.2.2.1;have:=HD.out.2;omega);have HP:=zM (zA hr hv);have HC:=zM hcall;clear hr hv hcall;go_wp2_with fail;refine HC.out.mono ?_;rintro e w2 ⟨rfl,h1,h2⟩;have HF:=zM (zA h1 h2);clear h1 h2;go_wp2_with fail;go_ret2;refine⟨r,rfl,HP.out.1,?_,by simpa using HF.out.1,gm.dU HR.out.2.2.2.2.2.2.2 HF.out.2⟩;have h:=HR.out.2.2.2.1;have hb:bytesOf t=[]:=List.eq_nil_of_length_eq_zero (by rw[bytesOf_length];exact ht0.out);rw[hb]at h;exact HP.out.2.trans h
  ·have hl1:decide (0<(t.size:Int))=true:=decide_eq_true (by omega);have hl2:decide (0<t.size)=true:=decide_eq_true (by omega);have HT:=zM ht;clear ht;obtain⟨k1,rfl⟩:∃k1,gk=k1+1:=⟨gk- 1,by have:=HR.out.1;have:=HT.out;omega⟩
   obtain⟨n,hn,hn0,hn9,hnt⟩:∃n:Int,wrap64 ((wrap64 ((t.size:Int)- 1)).tmod 9+1)=n∧0≤n∧n≤9∧0<n∧n≤(t.size:Int):=by
    have h0:=HT.out;have h1:=HR.out.2.1;have h2:=HD.out.2;rw[fD (n:=(t.size:Int)- 1) (by omega) (by omega),Int.tmod_eq_emod_of_nonneg (by omega),fD (by omega) (by omega)];exact⟨_,rfl,by omega,by omega,by omega,by omega⟩
   obtain⟨u,hu⟩:∃u,t.extract 0 n.toNat=u:=⟨_,rfl⟩;obtain⟨t2,ht2⟩:∃t2,t.extract n.toNat t.size=t2:=⟨_,rfl⟩;have ahk:u.size=n.toNat:=by rw[←hu];simp only[ByteArray.size_extract];omega
   have ahj:t2.size=t.size- n.toNat:=by rw[←ht2];simp only[ByteArray.size_extract];omega
   have hub:bytesOf u=(bytesOf t).take n.toNat:=by rw[←hu,nZ _ _ _ (by omega)];simp
   have ht2b:bytesOf t2=(bytesOf t).drop n.toNat:=by rw[←ht2,nZ _ _ _ (by omega),List.take_of_length_le (by rw[bytesOf_length];omega)]
   have hsl:∀W,(Instr.slice 9 (.string t) none (some (.int .i64 n)) none).run Tryz.prog W= .ok (.string u) W:=by
    intro W;have h:=run_slice_string_to_if (P:=Tryz.prog) W 9 t .i64 n Tryz.underlying9;rw[h];simp[hu,hn0,hnt.2]
   have hsl2:∀W,(Instr.slice 9 (.string t) (some (.int .i64 n)) none none).run Tryz.prog W= .ok (.string t2) W:=by
    intro W;have h:=run_slice_string_from_if (P:=Tryz.prog) W 9 t .i64 n Tryz.underlying9;rw[h];simp[ht2,hn0,hnt.2]
   have HN:=zM (zA hn0 (zA hn9 (zA hnt (zA ahk (zA ahj (zA hub ht2b))))));clear hn0 hn9 hnt ahk ahj hub ht2b hu ht2;go_upto_region 9 with(fail);rw[hn];go_wp2_with fail;go_loopg [11,12,51] u.size (fun kq v11 v12 v51 W=>∃(part times j:Int),v11= .int .u32 part∧v12= .int .u32 times∧v51= .int .i64 j∧W=Lib.bytesWorld wr 5 u∧Aside0 (0≤j∧j≤u.size∧u.size≤kq+j∧part=dec 0 ((bytesOf u).take j.toNat)∧times=10^j.toNat))
   case atStart=>exact⟨0,1,0,rfl,rfl,rfl,rfl,⟨by omega,by omega,by omega,rfl,rfl⟩⟩
   case round=>
    obtain⟨part,times,j,rfl,rfl,rfl,rfl,HJ⟩:=hrel
    by_cases hj:j<(u.size:Int)
    ·have hj1:=zT hj;have hj2:=eq_true HJ.out.1;have hj3:=eq_true hj;have RP:(bytesOf u).length=u.size:=bytesOf_length u;have YN:u.size≤1000:=by have:=HN.out.2.2.2.1;have:=HN.out.2.1;omega
     obtain⟨ad,e,hx⟩:=(AZ wr 5 u (by omega)).at_ j HJ.out.1 hj;cases e;have hx:(Lib.bytesWorld wr 5 u).cell? {block:=wr.heap.size,off:=j.toNat}=some (.int .u8 (rd (bytesOf u) j)):=by rw[add_plain]at hx;simpa using hx
     have hc:=Ac (show Num (bytesOf u)by rw[HN.out.2.2.2.2.2.1];exact HR.out.2.2.1.take _) j (by rw[RP];have:=HJ.out.1;omega);have hts:=wM (xs:=bytesOf u) 0 j.toNat (by rw[RP];have:=HJ.out.1;omega);have hjj:((j.toNat:Nat):Int)=j:=by have:=HJ.out.1;omega
     rw[hjj]at hts;obtain⟨c,hcc⟩:∃c,rd (bytesOf u) j=c:=⟨_,rfl⟩;rw[hcc]at hx hc hts;have hc1:decide (c<48)=false:=decide_eq_false (by omega);have hc2:decide (57<c)=false:=decide_eq_false (by omega);have hpr:=jh ((show Num (bytesOf u)by rw[HN.out.2.2.2.2.2.1];exact HR.out.2.2.1.take _).take j.toNat);have HC:=zM (zA hc (zA hts (zA hpr (zA RP hjj))));clear hc hts hpr RP hj hjj hcc;go_wp2_with fail;have hp9:=yR j.toNat (by have:=HN.out.2.1;have:=HN.out.2.2.2.1;have:=HJ.out.1;have:=of_eq_true hj3;omega);have hp8:=yR (j.toNat+1) (by have:=HN.out.2.1;have:=HN.out.2.2.2.1;have:=HJ.out.1;have:=of_eq_true hj3;omega);have hlt:((bytesOf u).take j.toNat).length=j.toNat:=by rw[List.length_take,HC.out.2.2.2.1];have:=HJ.out.1;have:=of_eq_true hj3;omega
     have hpr:=HC.out.2.2.1;rw[hlt,←HJ.out.2.2.2.1]at hpr;have hts:=HC.out.2.1;rw[←HJ.out.2.2.2.1]at hts;have hc:=HC.out.1;have hj0:=HJ.out.1;have hjn:=of_eq_true hj3;have hkq:=HJ.out.2.2.1;have hti:=HJ.out.2.2.2.2;obtain⟨k2,rfl⟩:∃k2,gk=k2+1:=⟨gk- 1,by omega⟩;rw[Int.pow_succ,←hti]at hp8;rw[←hti]at hp9 hpr;have hj4:(j+1).toNat=j.toNat+1:=by omega
     have e1:(part*10%4294967296+(c- 48)%256)%4294967296=part*10+(c- 48):=by omega
     have e2:times*10%4294967296=times*10:=by omega
     have e3:wrap64 (j+1)=j+1:=fD (by omega) (by omega);go_roundg k2
     case measure=>omega
     case rel=>exact⟨part*10+(c- 48),times*10,j+1,by rw[e1],by rw[e2],by rw[e3],rfl,⟨by omega,by omega,by omega,by rw[hj4];exact hts.symm,by rw[hj4,Int.pow_succ,←hti]⟩⟩
    ·have hj1:=zF hj;have HJ2:=zM (show j=u.size by have:=HJ.out.2.1;omega);clear hj;have RP:(bytesOf u).length=u.size:=bytesOf_length u;have hju:(bytesOf u).take j.toNat=bytesOf u:=List.take_of_length_le (by rw[RP,HJ2.out];omega);have hnu:Num (bytesOf u):=by rw[HN.out.2.2.2.2.2.1];exact HR.out.2.2.1.take _
     have hpr:=jh hnu;have hun:u.size=n.toNat:=HN.out.2.2.2.1;have hn9:=HN.out.2.1;have hp9:=yR u.size (by omega);have hpart:=HJ.out.2.2.2.1;have D9:=HJ.out.2.2.2.2;rw[hju]at hpart;rw[show j.toNat=u.size by rw[HJ2.out];omega]at D9;rw[RP,←hpart,←D9]at hpr;rw[←D9]at hp9;obtain⟨r,he,hrd,hrl,RS⟩:=OC (add:=part) HR.out.2.2.2.2.1 (show 0≤times by omega) (by omega) (by omega) (by omega) (show xs.length<35184372088832 by have:=HR.out.2.2.2.2.2.1;have:=HD.out.2;omega);obtain⟨kk,hk⟩:=he.rounds;have HM:=zM (zA hk (zA hrd (zA hrl RS)));have HE:=zM (zA hpart D9);have hbb:Below wr.heap.size wr (Lib.bytesWorld wr 5 u):=lK (Below.refl _ _) (Nat.le_refl _) 5 u;have HB:=zM (zA (show afW (Lib.bytesWorld wr 5 u) w.heap.size u9 xs from Kd.dK HR.out.2.2.2.2.2.2.1 hbb) (ah HR.out.2.2.2.2.2.2.2 HR.out.2.2.2.2.2.2.2.size hbb));clear RP hju hnu hpr hun hn9 hp9 hpart D9 he hk hrd hrl RS hbb;go_wp2_with fail;go_region_with ((go_at_call 204;refine(dX.calls kk (fun _=>True) u9 xs times part r w _ (by first|exact HB.out.2|exact dB HB.out.2) (by first|exact HB.out.1|exact Kd.dR HB.out.1) HM.out.1).mono ?_;rintro e w3 ⟨v3,rfl,h1,h2,_⟩;have HF:=zM (zA h1 h2);clear h1 h2))
     all_goals(
      go_wp2_with fail;go_roundg k1
      case measure=>omega
      case rel=>
       have h1:=HN.out;have h2:=HR.out;refine⟨t2,r,rfl,⟨by omega,by omega,?_,?_,HM.out.2.1,by have:=HM.out.2.2.1;omega,Kd.gI HF.out.1 (fun _ _=>trivial),HF.out.2⟩⟩
       ·rw[h1.2.2.2.2.2.2];exact h2.2.2.1.drop _
       ·rw[HM.out.2.2.2,←h2.2.2.2.1,Qi _ (bytesOf t) n.toNat,h1.2.2.2.2.2.2,←h1.2.2.2.2.2.1,CU (bytesOf u),bytesOf_length,HE.out.1,HE.out.2])
end Go.Proofs.YthbdjmopolpjmaaGreatDoor.C
