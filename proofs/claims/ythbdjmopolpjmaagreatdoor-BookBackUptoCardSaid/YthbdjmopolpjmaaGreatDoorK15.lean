/- Part 15 of the proof. -/
import Derived.Test.YthbdjmopolpjmaaGreatDoorK14
set_option linter.unusedVariables false
set_option linter.unusedSimpArgs false
set_option maxHeartbeats 8000000
set_option maxRecDepth 100000
namespace Go.Proofs.YthbdjmopolpjmaaGreatDoor.C
open Go.RowKit Go.Proofs.YthbdjmopolpjmaaGreatDoorW.PrintWords Go.Proofs.YthbdjmopolpjmaaGreatDoorW.PrintLast Go.Proofs.YthbdjmopolpjmaaGreatDoorW.PrintMore Go.Proofs.YthbdjmopolpjmaaGreatDoor.F Go.Proofs.YthbdjmopolpjmaaGreatDoor.M
attribute [local go_sem] max2_int min2_int max_two min_two max_three min_three max_four min_four
def Zb (W:World)(g:Nat):Prop:=W.heap[g]?=some (.cells #[.bool false,.slice none 0 0] 173 (0,0))
theorem Zb.new (W:World):Zb (W.alloc (.cells #[.bool false,.slice none 0 0] 173)) W.heap.size:=bZ W _
theorem Zb.old {W:World}{g:Nat}(h:Zb W g)(o:Obj):Zb (W.alloc o) g:=aT h (ag (Below.refl _ _) _)
theorem Zb.drew {W:World}{g:Nat}(h:Zb W g):Zb W.drew g:=h
theorem Zb.below {W W1:World}{g:Nat}(h:Zb W g)(hb:Below W.heap.size W W1):Zb W1 g:=aT h hb
theorem Zb.qj {W W1:World}{g k:Nat}(h:Zb W g)(hc:gm (·=k) W W1)(hne:g≠k):Zb W1 g:=hc.blk h hne
theorem aas (w:World)(o:Obj):(w.alloc o).heap.size=w.heap.size+1:=by simp
theorem size_le (w:World)(o:Obj):w.heap.size≤(w.alloc o).heap.size:=by simp
theorem iy.UM {W W1:World}{g k:Nat}{neg:Bool}{xs:List Int}(h:iy W g neg xs)(hk:Zb W k)(hne:g≠k)(hc:gm (·=k) W W1):iy W1 g neg xs:=h.aside hk hne hc
theorem Gw {W:World}{g:Nat}{xs:List Int}(h:iy W g (false !=false&& !xs.isEmpty) xs):iy W g false xs:=by simpa using h
theorem XE {a b ns:List Int}(wa:Wd a)(ha:a≠[])(wb:Wd b)(hb:b≠[])(h:val 4294967296 ns=val 4294967296 a*val 4294967296 b):ns≠[]:=by
 rintro rfl;have h1:=Int.mul_pos (wa.pos ha) (wb.pos hb);simp only[val]at h;omega
theorem X3 {s:Bool}{ms ns xs ys:List Int}(h:Low xs ys ms ns)(wn:Wd ns)(hn:ns≠[]):((s&& !ms.isEmpty) !=false&& !xs.isEmpty)=(s&& !xs.isEmpty):=by
 cases s
 ·rfl
 ·by_cases hm:ms=[]
  ·have hx:xs=[]:=by
    have h1:=h.2.2.2.1;have h2:=h.2.2.2.2;have h3:=wn.pos hn;rw[hm]at h1 h2;rcases Int.mul_eq_zero.1 (show val 4294967296 xs*ja (val 4294967296 []) (val 4294967296 ns)=0 from h1)with h4|h4
    ·exact h.1.zero.1 h4
    ·rw[h4]at h2;omega
   rw[hm,hx];rfl
  ·simp[hm]
theorem Bz (gz gx gy:Nat)(nx ny:Bool)(ps qs rs ss:List Int)(w:World)(v0 v1 v2 v3:Value)(hz:w.heap[gz]?=some (.cells #[v0,v1,v2,v3] 179 (0,0)))(hx:kU w gx nx ps qs)(hy:kU w gy ny rs ss)(wp:Wd ps)(wq:Wd qs)(wr:Wd rs)(ws:Wd ss)
  (h1:ps.length+rs.length≤1000000) (h2:(iH qs).length+(iH ss).length≤1000000):
  Calls Tryz.prog 190 #[.pointer (some ⟨gz,0,none⟩),.pointer (some ⟨gx,0,none⟩),.pointer (some ⟨gy,0,none⟩)] w fun e w'=>∃ms ns xs ys,e= .returned (.pointer (some ⟨gz,0,none⟩))∧Wd ms∧Wd ns∧val 4294967296 ms=val 4294967296 ps*val 4294967296 rs∧val 4294967296 ns=val 4294967296 (iH qs)*val 4294967296 (iH ss)∧Low xs ys ms ns∧kU w' gz ((nx !=ny)&& !xs.isEmpty) xs ys∧gm (·=gz) w w':=by
 have HX:=zM (zA hz (zA hx (zA hy (zA (zA wp wr) (zA (zA wq ws) (zA h1 h2))))));clear hz hx hy wp wq wr ws h1 h2;go_enter Tryz.func190,Tryz.ntmps190;go_wp2_with fail;have hb1:Below w.heap.size w (w.alloc (Obj.cells #[.bool false,.slice none 0 0] 173)).drew:=dB (ag (Below.refl _ _) _);have hb2:Below w.heap.size w ((w.alloc (Obj.cells #[.bool false,.slice none 0 0] 173)).alloc (Obj.cells #[.bool false,.slice none 0 0] 173)).drew:=dB (ag (ag (Below.refl _ _) _) _);have hm1:=pU w.heap.size gx 0 gy 0 nx ny ps rs (w.alloc (Obj.cells #[.bool false,.slice none 0 0] 173)).drew (.bool false) (.slice none 0 0) (Zb.drew (Zb.new w)) (HX.out.2.1.below hb1).num (HX.out.2.2.1.below hb1).num HX.out.2.2.2.1.1 HX.out.2.2.2.1.2 HX.out.2.2.2.2.2.1;have hm2:=pU w.heap.size gx 0 gy 0 nx ny ps rs ((w.alloc (Obj.cells #[.bool false,.slice none 0 0] 173)).alloc (Obj.cells #[.bool false,.slice none 0 0] 173)).drew (.bool false) (.slice none 0 0) (Zb.drew (Zb.old (Zb.new w) _)) (HX.out.2.1.below hb2).num (HX.out.2.2.1.below hb2).num HX.out.2.2.2.1.1 HX.out.2.2.2.1.2 HX.out.2.2.2.2.2.1;have hzn:Zb ((w.alloc (Obj.cells #[.bool false,.slice none 0 0] 173)).alloc (Obj.cells #[.bool false,.slice none 0 0] 173)).drew (w.heap.size+1):=by have h:=Zb.drew (Zb.new (w.alloc (Obj.cells #[.bool false,.slice none 0 0] 173)));rw[aas]at h;exact h
 have hm3:=pU (w.heap.size+1) gx 0 gy 0 nx ny ps rs ((w.alloc (Obj.cells #[.bool false,.slice none 0 0] 173)).alloc (Obj.cells #[.bool false,.slice none 0 0] 173)).drew (.bool false) (.slice none 0 0) hzn (HX.out.2.1.below hb2).num (HX.out.2.2.1.below hb2).num HX.out.2.2.2.1.1 HX.out.2.2.2.1.2 HX.out.2.2.2.2.2.1;have Ue:=zM (zA hm1 (zA hb1 trivial));have QU:=zM (zA hm2 (zA hb2 hzn));have TL:=zM (zA hm3 (zA hb2 (show Zb ((w.alloc (Obj.cells #[.bool false,.slice none 0 0] 173)).alloc (Obj.cells #[.bool false,.slice none 0 0] 173)).drew w.heap.size from Zb.drew (Zb.old (Zb.new w) _))));have HD1:=zM (fun(W:World) (hb:Below w.heap.size w W)=>o9 gx nx ps qs W (HX.out.2.1.below hb) HX.out.2.2.2.2.1.1);have HD2:=zM (fun(W:World) (hb:Below w.heap.size w W)=>o9 gy ny rs ss W (HX.out.2.2.1.below hb) HX.out.2.2.2.2.1.2);have HM4:=zM (fun(W:World) (g g1 g2:Nat) (hz:Zb W g) (h1:iy W g1 false (iH qs)) (h2:iy W g2 false (iH ss))=>pU g g1 0 g2 0 false false (iH qs) (iH ss) W (.bool false) (.slice none 0 0) hz h1.c h2.c (jT HX.out.2.2.2.2.1.1) (jT HX.out.2.2.2.2.1.2) HX.out.2.2.2.2.2.2);have hle1:=zM (Nat.le_succ w.heap.size);have hne1:=zM (show w.heap.size≠w.heap.size+1 by omega);have hne2:=zM (show w.heap.size+1≠w.heap.size by omega);clear hb1 hb2 hm1 hm2 hzn hm3
 go_region_with ((first
  |(go_at_call 225;with_reducible refine Ue.out.1.mono ?_;rintro e w1 ⟨ms,rfl,h1,h2,h3,h4,h5⟩;have hBw:Below w.heap.size w w1:=Below.qj Ue.out.2.1 h5 (Nat.le_refl _);have KB:=zM hBw;have KI:=zM h1;have KL:=zM h1.lt;have HF:=zM (zA h2 (zA h3 h4));clear h1 h2 h3 h4 h5 hBw)
  |(go_at_call 225;with_reducible refine QU.out.1.mono ?_;rintro e w1 ⟨ms,rfl,h1,h2,h3,h4,h5⟩;have hBw:Below w.heap.size w w1:=Below.qj QU.out.2.1 h5 (Nat.le_refl _);have KZ:=zM (zA (Zb.qj QU.out.2.2 h5 hne2.out) (zA hne1.out hle1.out));have KB:=zM hBw;have KI:=zM h1;have KL:=zM h1.lt;have HF:=zM (zA h2 (zA h3 h4));clear h1 h2 h3 h4 h5 hBw)
  |(go_at_call 225;with_reducible refine TL.out.1.mono ?_;rintro e w1 ⟨ms,rfl,h1,h2,h3,h4,h5⟩;have hBw:Below w.heap.size w w1:=Below.qj TL.out.2.1 h5 hle1.out;have KZ:=zM (zA (Zb.qj TL.out.2.2 h5 hne1.out) (zA hne2.out (Nat.le_refl w.heap.size)));have KB:=zM hBw;have KI:=zM h1;have KL:=zM h1.lt;have HF:=zM (zA h2 (zA h3 h4));clear h1 h2 h3 h4 h5 hBw)
  |(go_at_call 225;with_reducible refine(HM4.out _ _ _ _ KZ.out.1 Un.out KD2.out).mono ?_;rintro e w4 ⟨ns,rfl,h1,h2,h3,h4,h5⟩;have HG:=zM (zA h2 h3);have K4:=zM (zA (KI.out.UM KZ.out.1 KZ.out.2.1 h5) (zA (Gw h1) (Below.qj KB.out h5 KZ.out.2.2)));clear h1 h2 h3 h4 h5)
  |(go_at_call 225;with_reducible refine(HM4.out _ _ _ _ (Zb.new w3) (Un.out.below (ag (Below.refl _ _) _)) (KD2.out.below (ag (Below.refl _ _) _))).mono ?_;rintro e w4 ⟨ns,rfl,h1,h2,h3,h4,h5⟩;have HG:=zM (zA h2 h3);have K4:=zM (zA ((KI.out.below (ag (Below.refl w3.heap.size w3) (Obj.cells #[.bool false,.slice none 0 0] 173))).UM (Zb.new w3) (Nat.ne_of_lt (Nat.lt_of_lt_of_le KL.out (Nat.le_trans KS2.out KS3.out))) h5) (zA (Gw h1) (Below.qj (ag KB.out _) h5 KB.out.size)));clear h1 h2 h3 h4 h5)
  |(go_at_call 196;with_reducible refine(HD1.out _ KB.out).mono ?_;rintro e w2 ⟨g1,rfl,k1,k2,k3⟩;have Ci:Below w1.heap.size w1 w2:=k3;replace KB:=zM (ah KB.out KB.out.size Ci);(try replace KZ:=zM (zA (KZ.out.1.below Ci) KZ.out.2));replace KI:=zM (KI.out.below Ci);have KS2:=zM Ci.size;(try replace Un:=zM (Un.out.below Ci));have Un:=zM k2;clear k1 k2 k3 Ci)
  |(go_at_call 196;with_reducible refine(HD1.out _ (ag KB.out _)).mono ?_;rintro e w2 ⟨g1,rfl,k1,k2,k3⟩;have Ci:Below w1.heap.size w1 w2:=ah (ag (Below.refl w1.heap.size w1) _) (size_le _ _) k3;have KZ:=zM (zA ((Zb.new w1).below k3) (zA (Nat.ne_of_lt (Nat.lt_of_lt_of_le KL.out (Nat.le_refl _))) KB.out.size));replace KB:=zM (ah KB.out KB.out.size Ci);replace KI:=zM (KI.out.below Ci);have KS2:=zM Ci.size;(try replace Un:=zM (Un.out.below Ci));have Un:=zM k2;clear k1 k2 k3 Ci)
  |(go_at_call 196;with_reducible refine(HD2.out _ KB.out).mono ?_;rintro e w3 ⟨g2,rfl,k1,k2,k3⟩;have Ci:Below w2.heap.size w2 w3:=k3;replace KB:=zM (ah KB.out KB.out.size Ci);(try replace KZ:=zM (zA (KZ.out.1.below Ci) KZ.out.2));replace KI:=zM (KI.out.below Ci);have KS3:=zM Ci.size;(try replace Un:=zM (Un.out.below Ci));have KD2:=zM k2;clear k1 k2 k3 Ci)
  |(go_at_call 196;with_reducible refine(HD2.out _ (ag KB.out _)).mono ?_;rintro e w3 ⟨g2,rfl,k1,k2,k3⟩;have Ci:Below w2.heap.size w2 w3:=ah (ag (Below.refl w2.heap.size w2) _) (size_le _ _) k3;have KZ:=zM (zA ((Zb.new w2).below k3) (zA (Nat.ne_of_lt (Nat.lt_of_lt_of_le KL.out KS2.out)) KB.out.size));replace KB:=zM (ah KB.out KB.out.size Ci);replace KI:=zM (KI.out.below Ci);have KS3:=zM Ci.size;(try replace Un:=zM (Un.out.below Ci));have KD2:=zM k2;clear k1 k2 k3 Ci)
  |(go_at_call 118;with_reducible refine(oU gz _ 0 _ 0 _ false ms ns _ v0 v1 v2 v3 ((K4.out.2.2.block gz (dV HX.out.1)).trans HX.out.1) K4.out.1.c K4.out.2.1.c HF.out.1 HG.out.1 (XE (jT HX.out.2.2.2.2.1.1) (CV qs) (jT HX.out.2.2.2.2.1.2) (CV ss) HG.out.2)).mono ?_;rintro e w5 ⟨xs,ys,rfl,h1,h2,h3⟩;have HS:=zM (zA h1 (zA h2 (gm.dU K4.out.2.2 h3)));clear h1 h2 h3)))
 all_goals(
  go_wp2_with fail;go_ret;refine⟨ms,ns,xs,ys,rfl,HF.out.1,HG.out.1,HF.out.2.1,HG.out.2,HS.out.1,?_,HS.out.2.2⟩;have hrb:=HS.out.2.1;have hsg:(((nx !=ny)&& !ms.isEmpty) !=false&& !xs.isEmpty)=((nx !=ny)&& !xs.isEmpty):=X3 HS.out.1 HG.out.1 (XE (jT HX.out.2.2.2.2.1.1) (CV qs) (jT HX.out.2.2.2.2.1.2) (CV ss) HG.out.2);rw[hsg]at hrb
  exact hrb)
theorem Hf {n:Nat}(h:n<4294967296):Wd (sw n):=by
 unfold sw;split
 ·exact⟨nJ _,by simp[Trim],by simp⟩
 ·exact⟨jX.2 ⟨by omega,nJ _⟩,by simp[Trim];omega,by simp⟩
theorem Aj (n:Nat):val 4294967296 (sw n)=n:=by
 unfold sw;split
 ·next h=>subst h;simp[val]
 ·simp[val]
theorem gcd_one (y:Int):ja 1 y=1:=by
 unfold ja;rw[show(1:Int).toNat=1 from rfl,Nat.gcd_one_left];rfl
theorem MH (n:Int)(w:World)(h0: -5000≤n)(h1:n≤5000):
  Calls Tryz.prog 192 #[.int .i64 n] w fun e w'=>∃g ps qs,e= .returned (.pointer (some ⟨g,0,none⟩))∧w.heap.size≤g∧kU w' g false ps qs∧Wd ps∧Wd qs∧val 4294967296 ps=10^n.toNat∧val 4294967296 (iH qs)=10^(-n).toNat∧Below w.heap.size w w':=by
 have HN:=zM (zA h0 h1);have hneg:wrap64 (-n)= -n:=fD (by omega) (by omega);have hneg2:IntKind.i64.wrap (-n)= -n:=by rw[dL];exact hneg
 clear h0 h1
 by_cases hlt:n<0
 ·have hle:¬-n≤n:=by omega
  have hle2:=zF hle;have hld:=zT hlt;have HL:=zM hlt;clear hlt;go_enter Tryz.func192,Tryz.ntmps192;go_wp2_with fail;refine(jw 10 _ (by omega) (by omega)).mono ?_;rintro e w1 ⟨g1,xs,rfl,h1,h2,h3,h4,h5⟩;have hz1:w1.heap[w.heap.size]?=some (.cells #[.bool false,.slice none 0 0] 173 (0,0)):=(h5.block _ (by simp)).trans (bZ w _);obtain rfl:xs=sw 10:=h3.inj (Hf (by omega)) (by rw[h4,Aj];rfl);have H1:=zM (zA h1 (zA h2 (zA h3 (zA h5 hz1))));clear h1 h2 h3 h4 h5 hz1;go_wp2_with fail;refine(jw (-n) _ (by have:=HL.out;have:=HN.out;omega) (by have:=HN.out;omega)).mono ?_;rintro e w2 ⟨g2,ys,rfl,h1,h2,h3,h4,h5⟩;obtain⟨m,hm⟩:∃m:Nat,(m:Int)=(-n):=⟨((-n)).toNat,by have:=HL.out;omega⟩;obtain rfl:ys=sw m:=h3.inj (Hf (by have:=HN.out;omega)) (by rw[h4,Aj,hm]);have hz1:w2.heap[w.heap.size]?=some (.cells #[.bool false,.slice none 0 0] 173 (0,0)):=(h5.block _ (dV H1.out.2.2.2.2)).trans H1.out.2.2.2.2;have hb2:Below w.heap.size w w2:=ah (ah (ag (Below.refl w.heap.size w) _) (by simp) H1.out.2.2.2.1) (Nat.le_trans (by simp) H1.out.2.2.2.1.size) h5;have H2:=zM (zA h1 (zA h2 (zA h3 (zA (H1.out.2.1.below h5) (zA hz1 (zA hb2 hm))))));clear h1 h2 h3 h4 h5 hz1 hb2 hm;go_wp2_with fail;refine(Kt w.heap.size g1 g2 (sw 10) m _ _ _ _ H2.out.2.2.2.2.1 H2.out.2.2.2.1 (Hf (by omega)) H2.out.2.1 (by have:=HN.out;have:=H2.out.2.2.2.2.2.2;omega) (by have h:=HN.out;have h2:=H2.out.2.2.2.2.2.2;have:(sw 10).length=1:=rfl;rw[this];omega)).mono ?_;rintro e w3 ⟨ps,rfl,h1,h2,h3,h4⟩;rw[Aj]at h3;have hb3:Below w.heap.size w w3:=Below.qj H2.out.2.2.2.2.2.1 h4 (Nat.le_refl _);have H3:=zM (zA h1 (zA h2 (zA h3 hb3)));clear h1 h2 h3 h4 hb3;go_wp2_with fail;refine(qI w3.heap.size w.heap.size false ps _ _ _ _ _ (bZ w3 _) (H3.out.1.below (ag (Below.refl _ _) _)) H3.out.2.1).mono ?_;rintro e w4 ⟨rfl,h1,h2⟩;have hb4:Below w.heap.size w w4:=Below.qj (ah H3.out.2.2.2 H3.out.2.2.2.size (ag (Below.refl _ _) _)) h2 H3.out.2.2.2.size;have H4:=zM (zA h1 hb4);clear h1 h2 hb4;go_wp2_with fail
  have hp:ps≠[]:=by
   intro h;have h3:=H3.out.2.2.1;rw[h]at h3;have h4:(10:Int)^m≠0:=by have:=Int.pow_pos (n:=(10:Int)) (m:=m) (by omega);omega
   exact h4 (by simpa[val]using h3.symm)
  obtain⟨v0,v1,v2,v3,hv⟩:=H4.out.1.four;refine(Xq w3.heap.size w3.heap.size false ps [1] _ _ _ _ _ hv H4.out.1 H3.out.2.1 uS hp).mono ?_;rintro e w5 ⟨rs,ss,rfl,h1,h2,h3⟩;have hb5:Below w.heap.size w w5:=Below.qj H4.out.2 h3 H3.out.2.2.2.size;have HR:=zM (zA h1 (zA h2 hb5));clear h1 h2 h3 hb5 hv hp;go_wp2_with fail;go_ret;refine⟨w3.heap.size,rs,ss,rfl,H3.out.2.2.2.size,HR.out.2.1,HR.out.1.1,HR.out.1.2.1,?_,?_,HR.out.2.2⟩
  ·have h1:=HR.out.1.2.2.2.1;rw[show val 4294967296 (iH [1])=1 from val_one,gcd_one,Int.mul_one]at h1;rw[h1,show n.toNat=0 by have:=HL.out;omega];rfl
  ·have h1:=HR.out.1.2.2.2.2;rw[show val 4294967296 (iH [1])=1 from val_one,gcd_one,Int.mul_one]at h1;rw[show iH ss=ss from if_neg HR.out.1.2.2.1,h1,H3.out.2.2.1,show(-n).toNat=m by have:=H2.out.2.2.2.2.2.2;omega];rfl
 ·have hle: -n≤n:=by omega
  have hle2:=zT hle;have hld:=zF hlt;have HL:=zM hlt;clear hlt;go_enter Tryz.func192,Tryz.ntmps192;go_wp2_with fail;refine(jw 10 _ (by omega) (by omega)).mono ?_;rintro e w1 ⟨g1,xs,rfl,h1,h2,h3,h4,h5⟩;have hz1:w1.heap[w.heap.size]?=some (.cells #[.bool false,.slice none 0 0] 173 (0,0)):=(h5.block _ (by simp)).trans (bZ w _);obtain rfl:xs=sw 10:=h3.inj (Hf (by omega)) (by rw[h4,Aj];rfl);have H1:=zM (zA h1 (zA h2 (zA h3 (zA h5 hz1))));clear h1 h2 h3 h4 h5 hz1;go_wp2_with fail;refine(jw n _ (by have:=HL.out;have:=HN.out;omega) (by have:=HN.out;omega)).mono ?_;rintro e w2 ⟨g2,ys,rfl,h1,h2,h3,h4,h5⟩;obtain⟨m,hm⟩:∃m:Nat,(m:Int)=n:=⟨(n).toNat,by have:=HL.out;omega⟩;obtain rfl:ys=sw m:=h3.inj (Hf (by have:=HN.out;omega)) (by rw[h4,Aj,hm]);have hz1:w2.heap[w.heap.size]?=some (.cells #[.bool false,.slice none 0 0] 173 (0,0)):=(h5.block _ (dV H1.out.2.2.2.2)).trans H1.out.2.2.2.2;have hb2:Below w.heap.size w w2:=ah (ah (ag (Below.refl w.heap.size w) _) (by simp) H1.out.2.2.2.1) (Nat.le_trans (by simp) H1.out.2.2.2.1.size) h5;have H2:=zM (zA h1 (zA h2 (zA h3 (zA (H1.out.2.1.below h5) (zA hz1 (zA hb2 hm))))));clear h1 h2 h3 h4 h5 hz1 hb2 hm;go_wp2_with fail;refine(Kt w.heap.size g1 g2 (sw 10) m _ _ _ _ H2.out.2.2.2.2.1 H2.out.2.2.2.1 (Hf (by omega)) H2.out.2.1 (by have:=HN.out;have:=H2.out.2.2.2.2.2.2;omega) (by have h:=HN.out;have h2:=H2.out.2.2.2.2.2.2;have:(sw 10).length=1:=rfl;rw[this];omega)).mono ?_;rintro e w3 ⟨ps,rfl,h1,h2,h3,h4⟩;rw[Aj]at h3;have hb3:Below w.heap.size w w3:=Below.qj H2.out.2.2.2.2.2.1 h4 (Nat.le_refl _);have H3:=zM (zA h1 (zA h2 (zA h3 hb3)));clear h1 h2 h3 h4 hb3;go_wp2_with fail;refine(qI w3.heap.size w.heap.size false ps _ _ _ _ _ (bZ w3 _) (H3.out.1.below (ag (Below.refl _ _) _)) H3.out.2.1).mono ?_;rintro e w4 ⟨rfl,h1,h2⟩;have hb4:Below w.heap.size w w4:=Below.qj (ah H3.out.2.2.2 H3.out.2.2.2.size (ag (Below.refl _ _) _)) h2 H3.out.2.2.2.size;have H4:=zM (zA h1 hb4);clear h1 h2 hb4;go_wp2_with fail;go_ret;refine⟨w3.heap.size,ps,[1],rfl,H3.out.2.2.2.size,H4.out.1,H3.out.2.1,uS,?_,?_,H4.out.2⟩
  ·rw[H3.out.2.2.1];have h1:=H2.out.2.2.2.2.2.2;rw[show n.toNat=m by omega];rfl
  ·have h1:=HL.out;rw[show(-n).toNat=0 by omega];exact val_one
theorem Vf:∀{xs:List Int},Num xs→∀v,0≤v→v≤dec v xs
 | [],_,v,_=>Int.le_refl _
 |c::cs,h,v,hv=>by
  have h1:=h c List.mem_cons_self;have h2:=Vf (fun x hx=>h x (List.mem_cons_of_mem _ hx)) (v*10+(c- 48)) (by omega);exact Int.le_trans (by omega) h2
theorem Bd {xs:List Int}(h:Num xs)(k:Nat):dec 0 (xs.take k)≤dec 0 xs:=by
 have e:dec 0 xs=dec (dec 0 (xs.take k)) (xs.drop k):=by
  rw[←mG,List.take_append_drop]
 rw[e];exact Vf (fun x hx=>h x (List.mem_of_mem_drop hx)) _ (o8 (fun x hx=>h x (List.mem_of_mem_take hx)) 0 (Int.le_refl _))
theorem Yp (x:Int)(h0:0≤x)(h1:x<18446744073709551616):IntKind.u64.wrap x=x:=by
 show x%18446744073709551616=x
 exact Int.emod_eq_of_lt h0 h1
def akl (s:ByteArray)(v er:Int):Prop:=0≤v∧v<18446744073709551616∧((lU s∧dv s≤4096)→v=dv s∧er=0)∧(¬(lU s∧dv s≤4096)→er≠0∨4096<v)
theorem Lr (s:ByteArray)(w:World):
  Calls Tryz.prog 189 #[.string s] w fun e w'=>∃v er,e= .returned (.tuple #[.int .u64 v,.int .i64 er])∧akl s v er∧Below w.heap.size w w':=by
 obtain⟨b,he,hb⟩:=xJ s;obtain⟨k,hk⟩:=he.rounds;have HK:=zM (zA hk hb);clear hk hb he;have kb:=fun(t:ByteArray) W=>uI (P:=Tryz.prog) 9 50 5 Tryz.underlying9 Tryz.underlying50 Tryz.underlying5 t W
 go_enter Tryz.func189,Tryz.ntmps189;go_wp2_with fail;refine(bM.calls k s b _ HK.out.1).mono ?_;rintro e w1 ⟨rfl,h1⟩;have hb1:=h1.below;have H1:=zM hb1;clear h1 hb1;cases b
 ·go_wp2_with fail;go_ret2;refine⟨0,3,rfl,⟨by omega,by omega,fun h=>absurd (HK.out.2.2 h.1) (by decide),fun _=> .inl (by decide)⟩,H1.out⟩
 ·have HD:=zM (HK.out.2.1 rfl);have hs6:s.size≤600:=HD.out.2.1;go_wp2_with fail;go_loopg [4,14] s.size (fun kq v4 v14 W=>∃(n j:Int),v4= .int .u64 n∧v14= .int .i64 j∧W=Lib.bytesWorld w1 5 s∧Aside0 (0≤j∧j≤s.size∧s.size≤kq+j∧n=dec 0 ((bytesOf s).take j.toNat)∧0≤n∧n<18446744073709551616))
  case atStart=>exact⟨0,0,rfl,rfl,rfl,⟨by omega,by omega,by omega,rfl,by omega,by omega⟩⟩
  case round=>
   obtain⟨n,j,rfl,rfl,rfl,HJ⟩:=hrel
   by_cases hj:j<(s.size:Int)
   ·have hj1:=zT hj;have hj2:=eq_true HJ.out.1;have hj3:=eq_true hj;have RP:(bytesOf s).length=s.size:=bytesOf_length s;obtain⟨ad,e,hx⟩:=(AZ w1 5 s (by omega)).at_ j HJ.out.1 hj;cases e;have hx:(Lib.bytesWorld w1 5 s).cell? {block:=w1.heap.size,off:=j.toNat}=some (.int .u8 (rd (bytesOf s) j)):=by rw[add_plain]at hx;simpa using hx
    have hc:=Ac HD.out.2.2.2 j (by rw[RP];have:=HJ.out.1;omega);have hts:=wM (xs:=bytesOf s) 0 j.toNat (by rw[RP];have:=HJ.out.1;omega);have hjj:((j.toNat:Nat):Int)=j:=by have:=HJ.out.1;omega
    rw[hjj]at hts;obtain⟨c,hcc⟩:∃c,rd (bytesOf s) j=c:=⟨_,rfl⟩;rw[hcc]at hx hc hts;have HC:=zM (zA hc (zA hts (zA RP hjj)));clear hc hts RP hj hjj hcc;go_wp2_with fail
    ·go_ret2;refine⟨0,7,rfl,?_,ah H1.out H1.out.size (lK (Below.refl _ _) (Nat.le_refl _) 5 s)⟩;refine⟨by omega,by omega,fun h=>?_,fun _=> .inl (by decide)⟩
     exfalso
     have hc:=HC.out.1;have hts:=HC.out.2.1;have hle:=Bd HD.out.2.2.2 (j.toNat+1);have h4:dec 0 (bytesOf s)≤4096:=h.2;rw[←HJ.out.2.2.2.1]at hts;have h5:(18446744073709551615- (c- 48)%256)/10<n:=by assumption
     omega
    ·have hc:=HC.out.1;have hts:=HC.out.2.1;have hle:=Bd HD.out.2.2.2 (j.toNat+1);have h0:=HJ.out.2.2.2.2;have h1:=HJ.out.2.2.1;have h2:=HJ.out.1;have h6:=of_eq_true hj3;rw[←HJ.out.2.2.2.1]at hts;have h5:n≤(18446744073709551615- (c- 48)%256)/10:=by assumption
     obtain⟨k2,rfl⟩:∃k2,gk=k2+1:=⟨gk- 1,by omega⟩;have e1:IntKind.u64.wrap (IntKind.u64.wrap (n*10)+(c- 48)%256)=n*10+(c- 48):=by rw[Yp (n*10) (by omega) (by omega),Yp _ (by omega) (by omega)];omega
     have e3:wrap64 (j+1)=j+1:=fD (by omega) (by omega);have hj4:(j+1).toNat=j.toNat+1:=by omega
     go_roundg k2
     case measure=>omega
     case rel=>exact⟨n*10+(c- 48),j+1,by rw[e1],by rw[e3],rfl,⟨by omega,by omega,by omega,by rw[hj4];exact hts.symm,by omega,by omega⟩⟩
   ·have hj1:=zF hj;have HE:=zM hj;clear hj;go_wp2_with fail;go_ret2;have hju:(bytesOf s).take j.toNat=bytesOf s:=List.take_of_length_le (by rw[bytesOf_length];have:=HE.out;omega);have hn:=HJ.out.2.2.2.1;rw[hju]at hn;have h0:=HJ.out.2.2.2.2;refine⟨n,0,rfl,⟨h0.1,h0.2,fun _=>⟨hn,rfl⟩,fun h=> .inr ?_⟩,ah H1.out H1.out.size (lK (Below.refl _ _) (Nat.le_refl _) 5 s)⟩;have h9:¬dv s≤4096:=fun hh=>h ⟨HD.out,hh⟩
    have h8:n=dv s:=hn;omega
def signed (neg:Bool)(t:ByteArray):ByteArray:=if neg then⟨#[45]⟩++t else t
theorem Yi {ws:List Int}(h:Wd ws):∃q0 q r k,dF.f k ws 1000000000=some (q0,r)∧H9 q0 q∧Wd q∧0≤r∧r<1000000000∧val 4294967296 ws=val 4294967296 q*1000000000+r:=by
 obtain⟨q0,r,he,hl,hd,h0,h1,hv⟩:=BC (b:=1000000000) h.1 (by omega) (by omega) (by have:=h.2.2;omega);obtain⟨k,hk⟩:=he.rounds;obtain⟨q,hq,wq,hqv,_⟩:=zk hd (by have:=h.2.2;omega);exact⟨q0,q,r,k,hk,hq,wq,h0,h1,by rw[hqv];exact hv⟩
theorem ahM {ws:List Int}(h:Wd ws):val 4294967296 ws<2^(32*ws.length):=by
 have:=lY (B:=4294967296) (by omega) h.1;rw[Int.pow_mul];exact this
theorem pow_left (n:Nat):(2:Int)^n≤10^n:=by
 have:=Nat.pow_le_pow_left (show 2≤10 by omega) n
 exact_mod_cast this
theorem U.Gu {W W1:World}{A:Option Addr}{xs ys:List Int}{base:Nat}{v:Value}(h:U W A xs)(hR:Rb W base v ys)(hg:W.grownBy W1 v.ownBlock):U W1 A xs:=by
 obtain⟨inner,ho⟩:=Kd.JI hR;cases hv:v.ownBlock with
 |none=>rw[hv]at hg;exact h.below ⟨hg.os,hg.tape,hg.output,hg.size,fun i hi=>hg.block i hi (by simp)⟩
 |some g=>
  rw[hv]at hg;obtain⟨cells,hc⟩:=rE ho g hv;exact h.grown hg hc (by decide)
theorem Rl {V:Int}{ds:List Int}{n:Nat}(h:Dc V ds 0)(hv:0<V)(hV:V<2^(32*n))(hn:n≤100000):ds.length≤4000000:=by
 rcases Nat.lt_or_ge 4000000 ds.length with hl|hl
 ·exfalso
  have h1:=h.sum;rw[Int.mul_zero,Int.add_zero]at h1;obtain⟨hne,hlast⟩:=h.last rfl hv
  have h2:=uQ (B:=10) (by omega) h.Qk (fun hx=>by
   rw[List.getLast_eq_getElem];have e:((ds.length:Int)- 1).toNat=ds.length- 1:=by omega
   unfold rd at hlast;rw[e]at hlast
   simpa[List.getElem?_eq_getElem (show ds.length- 1<ds.length by omega)]using hlast) hne
  have h3:=pow_left (32*n);have h4:(10:Int)^(32*n)≤10^(ds.length- 1):=kH (by omega) (by omega);generalize(10:Int)^(32*n)=a at *;generalize(10:Int)^(ds.length- 1)=b at *;generalize(2:Int)^(32*n)=c at *;omega
 ·exact hl
theorem BD (g o:Nat)(neg:Bool)(xs:List Int)(w:World)(hx:rH w g o neg xs)(wx:Wd xs)(hneg:neg=true→xs≠[])(hl:xs.length≤100000):
  Calls Tryz.prog 195 #[.pointer (some ⟨g,o,none⟩)] w fun e w'=>∃t,e= .returned (.string (signed neg t))∧Canon t∧dv t=val 4294967296 xs∧Below w.heap.size w w':=by
 obtain⟨A,c,hx0,hx1,hc,hU⟩:=hx
 by_cases hn:xs=[]
 ·subst hn;have hnf:neg=false:=by cases neg;rfl;exact absurd rfl (hneg rfl)
  subst hnf;have h0:(((0:Nat):Int)==0)=true:=rfl;simp only[List.length_nil]at hx1;clear hc hU wx hl hneg hx0;go_enter Tryz.func195,Tryz.ntmps195;go_wp2_with fail;go_ret;refine⟨⟨#[48]⟩,rfl,⟨by decide,fun _=>by decide,fun x hx=>?_⟩,rfl,Below.refl _ _⟩;simp[bytesOf]at hx;omega
 ·have hp:=List.length_pos_iff.2 hn;have hn0:((xs.length:Int)==0)=false:=beq_eq_false_iff_ne.mpr (by omega);have hn1:(xs.length==0)=false:=beq_eq_false_iff_ne.mpr (by omega);have hV:=wx.pos hn;obtain⟨V,hVV⟩:∃V,val 4294967296 xs=V:=⟨_,rfl⟩;rw[hVV]at hV;have hVl:=ahM wx;rw[hVV]at hVl;have HX:=zM (zA wx (zA hl (zA hV (zA hVV (zA hVl (zA hc hU))))));have HC:=zM (zA hx0 hx1);clear hc hU wx hl hneg hx0 hp hn hV hVV hVl;go_enter Tryz.func195,Tryz.ntmps195;go_wp2_with fail;clear hx1 hn0 hn1;go_loopg [3,4] (32*xs.length) (fun kq v3 v4 W=>∃(ws:List Int) (A:Option Addr) (c:Nat),v4= .slice A ws.length c∧Aside0 (U W A ws∧ws.length≤c∧Wd ws∧val 4294967296 ws<2^kq∧Below w.heap.size w W∧∃ds,Rb W w.heap.size v3 (yh ds)∧Dc V ds (val 4294967296 ws)))
  case atStart=>exact⟨xs,A,c,rfl,⟨HX.out.2.2.2.2.2.2,HX.out.2.2.2.2.2.1,HX.out.1,by rw[HX.out.2.2.2.1];exact HX.out.2.2.2.2.1,Below.refl _ _,[],Kd.jB _ _ _ _ _,by rw[HX.out.2.2.2.1];exact Dc.start V HX.out.2.2.1⟩⟩
  case round=>
   obtain⟨ws,A1,c1,rfl,HJ⟩:=hrel;obtain⟨ds,hR,hD⟩:=HJ.out.2.2.2.2.2
   by_cases hw:ws=[]
   ·have HD:=zM (zA hR (show Dc V ds 0 by have h:=hD;rw[hw]at h;exact h));subst hw;have h0:decide (0<((0:Nat):Int))=false:=rfl;simp only[List.length_nil];clear hR hD;have hx0:=aI HJ.out.2.2.2.2.1 HC.out.1;have hlen:ds.length≤4000000:=Rl HD.out.2 HX.out.2.2.1 HX.out.2.2.2.2.1 HX.out.2.1;have HL:=zM hlen;clear hlen;cases neg
    ·obtain⟨kr,hkr⟩:=EC (yh ds) (by rw[mF];have:=HL.out;omega);go_wp2_with fail;refine(az.calls kr (fun k=>w.heap.size≤k) _ (yh ds) _ w _ HJ.out.2.2.2.2.1 HD.out.1 hkr).mono ?_;rintro e w6 ⟨rfl,hR6,hb6,_⟩;obtain⟨A6,c6,hv6,hc6,hC6⟩:=Kd.jE hR6;obtain⟨n6,hn6⟩:∃n,((yh ds)).reverse.length=n:=⟨_,rfl⟩;rw[hn6]at hv6 hC6;subst hv6;have hcv:=Kd.yj (P:=Tryz.prog) (c:=c6) (src:=50) (dst:=9) (e:=5) Tryz.underlying50 Tryz.underlying5 Tryz.underlying9 hC6;obtain⟨tt,htt⟩:∃tt,strOfNums ((yh ds)).reverse=tt:=⟨_,rfl⟩;rw[htt]at hcv;have H6:=zM (zA htt hb6);clear htt hR6 hb6 hc6 hC6 hkr hn6;go_wp2_with fail;go_ret;have hb1:bytesOf tt=(yh ds).reverse:=by rw[←H6.out.1];exact jo _ (fun x hx=>by have:=IZ HD.out.2.Qk x hx;omega)
     obtain⟨c1,c2⟩:=HD.out.2.canon HX.out.2.2.1 hb1;exact⟨tt,rfl,c1,by rw[c2];exact HX.out.2.2.2.1.symm,H6.out.2⟩
    ·go_wp2_with (first|((with_reducible refine bK (b:= .append) (xs:= #[.tmp 54,.tmp 55]) rfl ?_);at_builtin;refine Kd.dZ (Kd.int .u8) (w0:=w) w.heap.size rfl (.tmp 54) (.tmp 55) 50 5 (.int .u8 0) 1 rfl Tryz.underlying50 info5 rfl (by decide) (by omega) u3 (yh ds) 45 [.int .u8 45] (fun k=>w.heap.size≤k) (fun _=>False) rfl rfl ?aP (fun _ hk=>hk.elim) ?aF ?aO ?aB ?aS ?aL ?_;(case aP=>exact rfl);(case aF=>exact(fun k hk=>Nat.le_trans (HJ.out.2.2.2.2.1).size hk));(case aO=>exact HD.out.1);(case aB=>exact HJ.out.2.2.2.2.1);(case aS=>exact(HJ.out.2.2.2.2.1).size);(case aL=>(have:=HL.out;rw[mF];omega));intro v1 w5 ho hb hg hat;have HN:=zM (zA ho (zA hb trivial));clear ho hb hg hat));obtain⟨kr,hkr⟩:=EC (yh ds++[45]) (by rw[List.length_append,mF];have:=HL.out;simp;omega);go_wp2_with fail;refine(az.calls kr (fun k=>w.heap.size≤k) _ (yh ds++[45]) _ w _ HN.out.2.1 HN.out.1 hkr).mono ?_;rintro e w6 ⟨rfl,hR6,hb6,_⟩;obtain⟨A6,c6,hv6,hc6,hC6⟩:=Kd.jE hR6;obtain⟨n6,hn6⟩:∃n,((yh ds++[45])).reverse.length=n:=⟨_,rfl⟩;rw[hn6]at hv6 hC6;subst hv6;have hcv:=Kd.yj (P:=Tryz.prog) (c:=c6) (src:=50) (dst:=9) (e:=5) Tryz.underlying50 Tryz.underlying5 Tryz.underlying9 hC6;obtain⟨tt,htt⟩:∃tt,strOfNums ((yh ds++[45])).reverse=tt:=⟨_,rfl⟩;rw[htt]at hcv;have H6:=zM (zA htt hb6);clear htt hR6 hb6 hc6 hC6 hkr hn6;go_wp2_with fail;go_ret;have hb1:bytesOf (strOfNums (yh ds).reverse)=(yh ds).reverse:=jo _ (fun x hx=>by have:=IZ HD.out.2.Qk x hx;omega);obtain⟨c1,c2⟩:=HD.out.2.canon HX.out.2.2.1 hb1;refine⟨_,?_,c1,by rw[c2];exact HX.out.2.2.2.1.symm,H6.out.2⟩
     have e:tt=signed true (strOfNums (yh ds).reverse):=by
      rw[←H6.out.1];unfold signed;rw[if_pos rfl,List.reverse_append];exact ByteArray.ext (Array.ext' (by simp[strOfNums,ByteArray.data_append]))
     rw[←e];rfl
   ·have hwp:=HJ.out.2.2.1.pos hw;have hwl:=List.length_pos_iff.2 hw;have hq1:decide (0<(ws.length:Int))=true:=decide_eq_true (by omega);have hq2:=zT hwl
    obtain⟨k1,rfl⟩:∃k1,gk=k1+1:=⟨gk- 1,by
     rcases Nat.eq_zero_or_pos gk with h|h
     ·have h2:=HJ.out.2.2.2.1;rw[h]at h2;have:val 4294967296 ws<1:=h2;omega
     ·omega⟩
    obtain⟨q0,q,r,ks,hks,htr,wq,r0,r1,hv⟩:=Yi HJ.out.2.2.1;have HS:=zM (zA hks (zA htr (zA wq (zA r0 (zA r1 (zA hv (zA hR (zA hD hwp))))))));clear hks htr wq r0 r1 hv hR hD hwp hw hwl;go_wp2_with fail;refine(dF.calls ks A1 c1 ws 1000000000 q0 r _ HJ.out.1.now HJ.out.2.1 HS.out.1).mono ?_;rintro e w2 ⟨v0,rfl,hRq,hb2⟩;obtain⟨Aq,cq,rfl,hcq,hUq⟩:=U.E5 hRq;have H2:=zM (zA hUq (zA hcq (zA (Kd.dK HS.out.2.2.2.2.2.2.1 hb2) (ah HJ.out.2.2.2.2.1 HJ.out.2.2.2.2.1.size hb2))));clear hRq hb2 hcq hUq hq1 hq2;go_wp2_with fail;refine(Jn Aq cq q0 q _ H2.out.1 H2.out.2.1 HS.out.2.1).mono ?_;rintro e w3 ⟨rfl,hc3,V6,hb3⟩;have H3:=zM (zA V6 (zA hc3 (zA (Kd.dK H2.out.2.2.1 hb3) (ah H2.out.2.2.2 H2.out.2.2.2.size hb3))));clear hc3 V6 hb3;go_wp2_with fail;have HQ2:=zM (show val 4294967296 q<2^k1 from by have h1:=HJ.out.2.2.2.1;rw[HS.out.2.2.2.2.2.1,Int.pow_succ]at h1;have h2:=HS.out.2.2.1.qN;have h3:=HS.out.2.2.2.1;omega);go_loopg [3,6,7] 9 (fun kq v3 v6 v7 W=>∃(r2 i:Int) (ds2:List Int),v6= .int .u32 r2∧v7= .int .i64 i∧Aside0 (0≤i∧i≤9∧9≤i+kq∧0≤r2∧r2<10^(9- i).toNat∧Rb W w.heap.size v3 (yh ds2)∧Below w.heap.size w W∧U W Aq q∧Dc V ds2 (r2+10^(9- i).toNat *val 4294967296 q)))
    case atStart=>exact⟨r,0,ds,rfl,rfl,⟨by omega,by omega,by omega,HS.out.2.2.2.1,HS.out.2.2.2.2.1,H3.out.2.2.1,H3.out.2.2.2,H3.out.1,by have h:=HS.out.2.2.2.2.2.2.2.1;rw[HS.out.2.2.2.2.2.1]at h;rw[show r+10^((9:Int)- 0).toNat *val 4294967296 q=val 4294967296 q*1000000000+r by rw[show((9:Int)- 0).toNat=9 from rfl];omega];exact h⟩⟩
    case round=>
     obtain⟨r2,i,ds2,rfl,rfl,HK⟩:=hrel
     by_cases hi:i<9
     ·have hi9:=zT hi;have e1:(9- i).toNat=(9- (i+1)).toNat+1:=by omega
      have e2:(10:Int)^(9- i).toNat=10*10^(9- (i+1)).toNat:=by rw[e1,Int.pow_succ,Int.mul_comm]
      by_cases hgo:q≠[]∨0<r2
      ·obtain⟨k2,rfl⟩:∃k2,gk=k2+1:=⟨gk- 1,by have:=HK.out.2.2.1;omega⟩;have hq0:=HS.out.2.2.1.qN;have hPP:(0:Int)<10^(9- (i+1)).toNat:=Int.pow_pos (by omega)
       have hn0:0<r2+10^(9- i).toNat *val 4294967296 q:=by
        rcases hgo with h|h
        ·have h1:=HS.out.2.2.1.pos h;have h2:=Int.mul_pos (show(0:Int)<10^(9- i).toNat from Int.pow_pos (by omega)) h1;have:=HK.out.2.2.2.1;omega
        ·have h2:=Int.mul_nonneg (Int.le_of_lt (show(0:Int)<10^(9- i).toNat from Int.pow_pos (by omega))) hq0;omega
       have hst:=HK.out.2.2.2.2.2.2.2.2.step hn0
       have hln:ds2.length≤4000000:=by
        have:=HK.out.2.2.2.2.2.2.2.2.len (Int.le_of_lt hn0) (L:=32*xs.length) (by have h1:=HX.out.2.2.2.2.1;have h2:(2:Int)^(32*xs.length)≤10^(32*xs.length):=pow_left (32*xs.length);omega) hn0;have:=HX.out.2.1;omega
       have HLN:=zM hln
       have hdm:(r2+10^(9- i).toNat *val 4294967296 q)%10=r2%10∧(r2+10^(9- i).toNat *val 4294967296 q)/10=r2/10+10^(9- (i+1)).toNat *val 4294967296 q:=by
        rw[e2,Int.mul_assoc];generalize 10^(9- (i+1)).toNat *val 4294967296 q=z;omega
       rw[hdm.2]at hst;have HPW:=zM (zA hdm.1.symm hst);have HI9:=zM (zA hi (zA e2 (show(10:Int)^(9- (i+1)).toNat=10^(9- (i+1)).toNat from rfl)));have h0:=HK.out.2.2.2.1
       have hub:r2<4294967296:=by
        have h1:=HK.out.2.2.2.2.1;have h2:(10:Int)^(9- i).toNat≤10^9:=kH (by omega) (by have:=HK.out.1;omega);have h3:(10:Int)^9=1000000000:=by decide
        omega
       have mu1:r2.tmod 10=r2%10:=Int.tmod_eq_emod_of_nonneg h0;have mu2:IntKind.u32.wrap (48+r2%10)=48+r2%10:=by rw[IntKind.wrap_u32];omega
       have mu3:(48+r2%10)%256=48+r2%10:=by omega
       have mu4:r2.tdiv 10=r2/10:=Int.tdiv_eq_ediv_of_nonneg h0;clear hi e1 e2 hn0 hst hln hdm hPP hq0;rcases Classical.em (q=[])with hq|hq
       ·have hr0:0<r2:=hgo.resolve_left (fun h=>h hq);have hq1:decide (0<(q.length:Int))=false:=decide_eq_false (by rw[hq];decide);have hq2:decide (0<q.length)=false:=decide_eq_false (by rw[hq];decide);have hr1:=zT hr0;clear hgo hq;go_wp2_with (first|((with_reducible refine bK (b:= .append) (xs:= #[.tmp 41,.tmp 46]) rfl ?_);at_builtin;refine Kd.dZ (Kd.int .u8) (w0:=w) w.heap.size rfl (.tmp 41) (.tmp 46) 50 5 (.int .u8 0) 1 rfl Tryz.underlying50 info5 rfl (by decide) (by omega) u3 (yh ds2) (48+r2%10) [.int .u8 (48+r2%10)] (fun k=>w.heap.size≤k) (fun _=>False) rfl rfl ?aP (fun _ hk=>hk.elim) ?aF ?aO ?aB ?aS ?aL ?_;(case aP=>exact rfl);(case aF=>exact(fun k hk=>Nat.le_trans (HK.out.2.2.2.2.2.2.1).size hk));(case aO=>exact HK.out.2.2.2.2.2.1);(case aB=>exact HK.out.2.2.2.2.2.2.1);(case aS=>exact(HK.out.2.2.2.2.2.2.1).size);(case aL=>(have:=HLN.out;rw[mF];omega));intro v1 w5 ho hb hg hat;have HN:=zM (zA ho (zA hb (U.Gu HK.out.2.2.2.2.2.2.2.1 HK.out.2.2.2.2.2.1 hg)));clear ho hb hg hat));clear mu1 mu2 mu3 mu4;go_roundg k2
        case measure=>omega
        case rel=>exact⟨r2/10,i+1,ds2++[(r2+10^(9- i).toNat *val 4294967296 q)%10],rfl,congrArg (Value.int .i64) (fD (by have:=HK.out.1;omega) (by have:=HI9.out.1;omega)),⟨by have:=HK.out.1;omega,by have:=HI9.out.1;omega,by have:=HK.out.2.2.1;omega,by have:=HK.out.2.2.2.1;omega,by have h:=HK.out.2.2.2.2.1;rw[HI9.out.2.1]at h;generalize(10:Int)^(9- (i+1)).toNat=z at *;omega,by rw[JK,←HPW.out.1];exact HN.out.1,HN.out.2.1,HN.out.2.2,HPW.out.2⟩⟩
       ·have hwl:=List.length_pos_iff.2 hq;have hq1:decide (0<(q.length:Int))=true:=decide_eq_true (by omega);have hq2:=zT hwl;clear hgo hq hwl;go_wp2_with (first|((with_reducible refine bK (b:= .append) (xs:= #[.tmp 41,.tmp 46]) rfl ?_);at_builtin;refine Kd.dZ (Kd.int .u8) (w0:=w) w.heap.size rfl (.tmp 41) (.tmp 46) 50 5 (.int .u8 0) 1 rfl Tryz.underlying50 info5 rfl (by decide) (by omega) u3 (yh ds2) (48+r2%10) [.int .u8 (48+r2%10)] (fun k=>w.heap.size≤k) (fun _=>False) rfl rfl ?aP (fun _ hk=>hk.elim) ?aF ?aO ?aB ?aS ?aL ?_;(case aP=>exact rfl);(case aF=>exact(fun k hk=>Nat.le_trans (HK.out.2.2.2.2.2.2.1).size hk));(case aO=>exact HK.out.2.2.2.2.2.1);(case aB=>exact HK.out.2.2.2.2.2.2.1);(case aS=>exact(HK.out.2.2.2.2.2.2.1).size);(case aL=>(have:=HLN.out;rw[mF];omega));intro v1 w5 ho hb hg hat;have HN:=zM (zA ho (zA hb (U.Gu HK.out.2.2.2.2.2.2.2.1 HK.out.2.2.2.2.2.1 hg)));clear ho hb hg hat));clear mu1 mu2 mu3 mu4;go_roundg k2
        case measure=>omega
        case rel=>exact⟨r2/10,i+1,ds2++[(r2+10^(9- i).toNat *val 4294967296 q)%10],rfl,congrArg (Value.int .i64) (fD (by have:=HK.out.1;omega) (by have:=HI9.out.1;omega)),⟨by have:=HK.out.1;omega,by have:=HI9.out.1;omega,by have:=HK.out.2.2.1;omega,by have:=HK.out.2.2.2.1;omega,by have h:=HK.out.2.2.2.2.1;rw[HI9.out.2.1]at h;generalize(10:Int)^(9- (i+1)).toNat=z at *;omega,by rw[JK,←HPW.out.1];exact HN.out.1,HN.out.2.1,HN.out.2.2,HPW.out.2⟩⟩
      ·have hqe:q=[]:=Classical.byContradiction fun h=>hgo (.inl h)
       have hre:r2=0:=by have:=HK.out.2.2.2.1;have h:¬0<r2:=fun h=>hgo (.inr h);omega
       have hq1:decide (0<(q.length:Int))=false:=decide_eq_false (by rw[hqe];decide);have hq2:decide (0<q.length)=false:=decide_eq_false (by rw[hqe];decide);have hr1:decide (0<r2)=false:=decide_eq_false (by omega);have HQE:=zM (show Dc V ds2 (val 4294967296 q)from by have h:=HK.out.2.2.2.2.2.2.2.2;rw[hre,hqe]at h;rw[hqe];simpa[val]using h);clear hgo hqe hre hi e1 e2;go_wp2_with fail;go_roundg k1
       case measure=>omega
       case rel=>exact⟨q,Aq,cq,rfl,⟨HK.out.2.2.2.2.2.2.2.1,H3.out.2.1,HS.out.2.2.1,HQ2.out,HK.out.2.2.2.2.2.2.1,ds2,HK.out.2.2.2.2.2.1,HQE.out⟩⟩
     ·have hi9:=zF hi;have hie:i=9:=by have:=HK.out.2.1;omega
      have HQE:=zM (show Dc V ds2 (val 4294967296 q)from by
       have h:=HK.out.2.2.2.2.2.2.2.2;have h1:=HK.out.2.2.2.2.1;have h2:=HK.out.2.2.2.1;rw[hie,show((9:Int)- 9).toNat=0 from rfl,Int.pow_zero]at h h1;have h3:r2=0:=by omega
       rw[h3,Int.one_mul,Int.zero_add]at h
       exact h)
      clear hie hi;go_wp2_with fail;go_roundg k1
      case measure=>omega
      case rel=>exact⟨q,Aq,cq,rfl,⟨HK.out.2.2.2.2.2.2.2.1,H3.out.2.1,HS.out.2.2.1,HQ2.out,HK.out.2.2.2.2.2.2.1,ds2,HK.out.2.2.2.2.2.1,HQE.out⟩⟩
theorem MP (neg:Bool)(t:ByteArray)(h:Canon t):(⟨(Lib.trimPrefix (signed neg t).data.toList [45]).toArray⟩:ByteArray)=t:=by
 cases neg
 ·have h1:(signed false t)=t:=rfl;rw[h1]
  have h2:Lib.hasPrefix t.data.toList [45]=false:=by
   cases hd:t.data.toList with
   |nil=>rfl
   |cons a l=>
    have h3:=h.2.2 (a.toNat:Int) (by simp[bytesOf,hd])
    have h4:a≠45:=by
     intro e;subst e;exact absurd h3.1 (by decide)
    have e5:((45:UInt8)==a)=false:=beq_eq_false_iff_ne.mpr (Ne.symm h4);simp[Lib.hasPrefix,List.isPrefixOf,e5]
  unfold Lib.trimPrefix;rw[if_neg (by rw[h2];decide)]
 ·have h1:(signed true t).data.toList=45::t.data.toList:=by simp[signed,ByteArray.data_append]
  rw[h1];unfold Lib.trimPrefix;rw[if_pos (by simp[Lib.hasPrefix])];rfl
def BG (n d t:ByteArray):Value:=if 600<t.size∨600<d.size then .tuple #[.agg #[.string ⟨#[]⟩,.string ⟨#[]⟩],.int .i64 7]else .tuple #[.agg #[.string n,.string d],.int .i64 0]
theorem yS (g:Nat)(np:Bool)(ps qs:List Int)(w:World)(h:kU w g np ps qs)(wp:Wd ps)(wq:Wd qs)(l1:ps.length≤100000)(l2:(iH qs).length≤100000):
  Calls Tryz.prog 148 #[.pointer (some ⟨g,0,none⟩)] w fun e w'=>∃t d,e= .returned (BG (signed (np&& !ps.isEmpty) t) d t)∧Canon t∧dv t=val 4294967296 ps∧Canon d∧dv d=val 4294967296 (iH qs)∧Below w.heap.size w w':=by
 have HX:=zM (zA h (zA wp (zA wq (zA l1 l2))));have hb0:Below w.heap.size w (w.alloc (.cells #[.string ⟨#[]⟩,.string ⟨#[]⟩] 39)):=ag (Below.refl _ _) _;have H0:=zM (zA hb0 (bZ w (.cells #[.string ⟨#[]⟩,.string ⟨#[]⟩] 39)));obtain⟨sg,hsg⟩:∃b,(np&& !ps.isEmpty)=b:=⟨_,rfl⟩
 have hsn:sg=true→ps≠[]:=by
  rintro rfl rfl;cases np<;>exact Bool.noConfusion hsg
 have HS:=zM (zA hsg hsn);clear h wp wq l1 l2 hb0 hsg hsn;go_enter Tryz.func148,Tryz.ntmps148;go_wp2_with fail;refine(Ei g np ps qs _ (HX.out.1.below H0.out.1) HX.out.2.1).mono ?_;rintro e w1 ⟨g1,rfl,h1,h2,h3⟩;rw[HS.out.1]at h2;have hb1:=ah H0.out.1 H0.out.1.size h3;have H1:=zM (zA h2 (zA hb1 (aT H0.out.2 h3)));clear h1 h2 h3 hb1;go_wp2_with fail;refine(BD g1 0 sg ps _ H1.out.1.c HX.out.2.1 HS.out.2 HX.out.2.2.2.1).mono ?_;rintro e w2 ⟨t,rfl,h1,h2,h3⟩;have H2:=zM (zA h1 (zA h2 (zA (ah H1.out.2.1 H1.out.2.1.size h3) (aT H1.out.2.2 h3))));clear h1 h2 h3;go_wp2_with fail;refine(o9 g np ps qs _ (HX.out.1.below H2.out.2.2.1) HX.out.2.2.1).mono ?_;rintro e w3 ⟨g2,rfl,h1,h2,h3⟩;have H3:=zM (zA h2 (zA (ah H2.out.2.2.1 H2.out.2.2.1.size h3) (aT H2.out.2.2.2 h3)));clear h1 h2 h3;go_wp2_with fail;refine(BD g2 0 false (iH qs) _ H3.out.1.c (jT HX.out.2.2.1) (fun h=>by cases h) HX.out.2.2.2.2).mono ?_;rintro e w4 ⟨d,rfl,h1,h2,h3⟩;have H4:=zM (zA h1 (zA h2 (zA (ah H3.out.2.1 H3.out.2.1.size h3) (aT H3.out.2.2 h3))));clear h1 h2 h3;have hsd:signed false d=d:=rfl;rw[hsd];obtain⟨n,hn⟩:∃n,signed sg t=n:=⟨_,rfl⟩;have htr:=MP sg t H2.out.1;rw[hn]at htr;have HT:=zM (zA hn htr);have HP:=zM (show∀W,Calls Tryz.prog 197 #[.string n,.string ⟨#[45]⟩] W fun e w'=>e= .returned (.string t)∧w'=W from fun W=>(Tryz.strings_TrimPrefix n ⟨#[45]⟩ W).mono fun e w' h=>⟨h.1.trans (congrArg (fun x=>Ending.returned (Value.string x)) htr),h.2⟩);rw[hn];clear hn htr hsd;go_wp2_with fail;refine(HP.out _).mono ?_;rintro e w5 ⟨rfl,rfl⟩;have hB5:Below w.heap.size w (w4.alloc (.cells #[.string n,.string d] 39)):=ah H4.out.2.2.1 H4.out.2.2.1.size (ag (Below.refl _ _) _);have hg5:=aT H4.out.2.2.2 (ag (Below.refl w4.heap.size w4) (.cells #[.string n,.string d] 39));have hz0:(w4.alloc (.cells #[.string n,.string d] 39)).cell? ⟨w.heap.size,0,none⟩=some (.string ⟨#[]⟩):=(aj hg5 0).trans rfl;have hz1:(w4.alloc (.cells #[.string n,.string d] 39)).cell? ⟨w.heap.size,1,none⟩=some (.string ⟨#[]⟩):=(aj hg5 1).trans rfl;have hf0:=au hg5 0;have hf1:=au hg5 1;have H5:=zM (zA hB5 hg5);clear hB5 hg5
 by_cases ht:600<t.size
 ·have q1:decide (600<(t.size:Int))=true:=decide_eq_true (by omega);have q2:=zT ht;have HQ:=zM ht;clear ht;go_wp2_with fail;refine bodyPost_ret (dw rfl _ _ w.heap.size 39 #[.string ⟨#[]⟩,.string ⟨#[]⟩] (0,0) _ rfl (by have h:=aN (aN H5.out.2 0 (.string ⟨#[]⟩)) 1 (.string ⟨#[]⟩);simpa using h) Tryz.underlying39 rfl (by kernel_rfl)) rfl ?_;refine⟨t,d,?_,H2.out.1,H2.out.2.1,H4.out.1,H4.out.2.1,(H5.out.1.setCell (Nat.le_refl _) _).setCell (Nat.le_refl _) _⟩;rw[HS.out.1,HT.out.1];unfold BG;rw[if_pos (.inl HQ.out)];rfl
 ·have q1:decide (600<(t.size:Int))=false:=decide_eq_false (by omega);have q2:=zF ht;have HQ:=zM ht;clear ht
  by_cases hd:600<d.size
  ·have q3:decide (600<(d.size:Int))=true:=decide_eq_true (by omega);have q4:=zT hd;have HQ2:=zM hd;clear hd;go_wp2_with fail;refine bodyPost_ret (dw rfl _ _ w.heap.size 39 #[.string ⟨#[]⟩,.string ⟨#[]⟩] (0,0) _ rfl (by have h:=aN (aN H5.out.2 0 (.string ⟨#[]⟩)) 1 (.string ⟨#[]⟩);simpa using h) Tryz.underlying39 rfl (by kernel_rfl)) rfl ?_;refine⟨t,d,?_,H2.out.1,H2.out.2.1,H4.out.1,H4.out.2.1,(H5.out.1.setCell (Nat.le_refl _) _).setCell (Nat.le_refl _) _⟩;rw[HS.out.1,HT.out.1];unfold BG;rw[if_pos (.inr HQ2.out)];rfl
  ·have q3:decide (600<(d.size:Int))=false:=decide_eq_false (by omega);have q4:=zF hd;have HQ2:=zM hd;clear hd;go_wp2_with fail;refine bodyPost_ret (dw rfl _ _ w.heap.size 39 #[.string n,.string d] (0,0) _ rfl (by have h:=aN (aN H5.out.2 0 (.string n)) 1 (.string d);simpa using h) Tryz.underlying39 rfl (by kernel_rfl)) rfl ?_;refine⟨t,d,?_,H2.out.1,H2.out.2.1,H4.out.1,H4.out.2.1,(H5.out.1.setCell (Nat.le_refl _) _).setCell (Nat.le_refl _) _⟩;rw[HS.out.1,HT.out.1];unfold BG;rw[if_neg (by intro h;rcases h with h|h;exact HQ.out h;exact HQ2.out h)];rfl
theorem qg.below {W W1:World}{g:Nat}{s:ByteArray}{i:Int}{bad:Bool}{f:Fm}(h:qg W g s i bad f)(hb:Below W.heap.size W W1):qg W1 g s i bad f:=(hb.block g (dV h)).trans h
theorem qU {xs:List Int}(h:Wd xs)(n:Nat)(hv:val 4294967296 xs≤10^n):xs.length≤n+1:=by
 rcases Nat.lt_or_ge (n+1) xs.length with hl|hl
 ·exfalso
  have hn:xs≠[]:=by intro e;rw[e]at hl;simp at hl
  have h1:=uQ (B:=4294967296) (by omega) h.1 h.2.1 hn;have h2:(10:Nat)^n≤4294967296^n:=Nat.pow_le_pow_left (by omega) n;have h3:(4294967296:Nat)^n<4294967296^(xs.length- 1):=Nat.pow_lt_pow_right (by omega) (by omega);have h4:(((10:Nat)^n:Nat):Int)<((4294967296^(xs.length- 1):Nat):Int):=Int.ofNat_lt.2 (Nat.lt_of_le_of_lt h2 h3);rw[Int.natCast_pow,Int.natCast_pow]at h4;exact absurd (Int.lt_of_lt_of_le h4 (Int.le_trans h1 hv)) (Int.lt_irrefl _)
 ·exact hl
def QX (x y:Int)(ps qs:List Int):Prop:=val 4294967296 ps*ja x y=x∧val 4294967296 qs*ja x y=y
def wF (f:Fm)(k:Int):Prop:=lU (eP f.exp)∧dv (eP f.exp)≤4096∧k=(if f.down=true then- dv (eP f.exp)else dv (eP f.exp))- f.behind
def xg (m:ByteArray)(k:Int):Prop:=600<m.size∨(k<0∧600<1- k)∨(0≤k∧(m.toList==[48])=false∧600<(m.size:Int)+k)
def abD (f:Fm)(w:World)(e:Ending)(w':World):Prop:=
 (e= .returned (.tuple #[.pointer none,.bool false])∧Below w.heap.size w w'∧∀k,wF f k→xg (eP f.m) k)∨
 ∃k g2 ps qs,e= .returned (.tuple #[.pointer (some ⟨g2,0,none⟩),.bool true])∧wF f k∧¬xg (eP f.m) k∧w.heap.size≤g2∧kU w' g2 false ps qs∧Wd ps∧Wd qs∧QX (dv (eP f.m)*10^k.toNat) (10^(-k).toNat) ps (iH qs)∧Below w.heap.size w w'
theorem GM (w:World)(g:Nat)(h:w.heap[g]?=some (.cells #[.bool false,.slice none 0 0,.bool false,.slice none 0 0] 179 (0,0))):kU w g false [] []:=⟨none,0,none,0,h,Nat.le_refl _,Nat.le_refl _,U.nil _,U.nil _⟩
theorem zG (s:ByteArray)(h:(s.toList==[])=true):eP s=⟨#[48]⟩:=by
 have h1:s.toList=[]:=by simpa using h
 rw[ByteArray.toList_eq]at h1;unfold eP;have h2:(lS s).toList=[]:=by rw[ByteArray.toList_eq];simp[lS,h1,Lib.trimLeftB]
 rw[if_pos (by rw[h2];rfl)]
theorem Sm:lU ⟨#[48]⟩:=⟨by decide,by decide,fun _=>by decide,fun c hc=>by
 have:bytesOf (⟨#[48]⟩:ByteArray)=[48]:=rfl;rw[this]at hc;simp at hc;subst hc
 decide⟩
theorem MK {m:ByteArray}(h:(m.toList==[48])=true):m=⟨#[48]⟩:=by
 have h1:m.toList=[48]:=by simpa using h
 rw[ByteArray.toList_eq]at h1;exact ByteArray.ext (Array.ext' h1)
theorem GG (y:Int)(h:0<y):QX 0 y [] (iH []):=by
 have hg:ja 0 y=y:=by unfold ja;rw[Int.toNat_zero,Nat.gcd_zero_left];omega
 refine⟨?_,?_⟩
 ·rw[show val 4294967296 []=0 from rfl,Int.zero_mul]
 ·rw[hg,show val 4294967296 (iH [])=1 from val_one,Int.one_mul]
theorem sW {a b:Nat}(h:a≤b):(10:Int)^a≤10^b:=by
 have h1:(10:Nat)^a≤10^b:=Nat.pow_le_pow_right (by omega) h;have h2:(((10:Nat)^a:Nat):Int)≤((10^b:Nat):Int):=Int.ofNat_le.2 h1;rw[Int.natCast_pow,Int.natCast_pow]at h2;exact h2
theorem o5 {s:ByteArray}{n:Nat}(h:Num (bytesOf s))(hs:s.size≤n):dv s≤10^n:=by
 have h1:=(jh h).2;rw[bytesOf_length]at h1;exact Int.le_trans (Int.le_of_lt h1) (sW hs)
theorem Iu (g:Nat)(s:ByteArray)(i:Int)(bad:Bool)(f:Fm)(w:World)(h:qg w g s i bad f)(hm:Num (bytesOf f.m))(hms:f.m.size≤65536)(hx:Num (bytesOf f.exp))(hb0:0≤f.behind)(hb1:f.behind≤65536):
  Calls Tryz.prog 146 #[.pointer (some ⟨g,0,none⟩)] w (abD f w):=by
 obtain⟨a3,a4,a5,a6,a7,a8,a9,a10,af⟩:=h.all;obtain⟨m,hmm⟩:∃m,eP f.m=m:=⟨_,rfl⟩;obtain⟨x,hxx⟩:∃x,eP f.exp=x:=⟨_,rfl⟩;have hc:=(kV f.m hm);rw[hmm]at hc;have HF:=zM (zA h (zA hmm (zA hxx (zA hc (zA hms (zA hb0 hb1))))));have hbm:∀W,Calls Tryz.prog 144 #[.string f.m] W fun e w'=>e= .returned (.string m)∧w'=W:=fun W=>by rw[←hmm];exact uX f.m W
 have hbx:∀W,Calls Tryz.prog 144 #[.string f.exp] W fun e w'=>e= .returned (.string x)∧w'=W:=fun W=>by rw[←hxx];exact uX f.exp W
 have HBM:=zM hbm;have HBX:=zM hbx;obtain⟨be,hbe⟩:∃b,(f.exp.toList==[])=b:=⟨_,rfl⟩;have HBE:=zM hbe;clear h hm hms hx hb0 hb1 hmm hxx hc hbm hbx a3 a8 a9 a10 af;go_enter Tryz.func146,Tryz.ntmps146;go_wp2_with fail;refine(HBM.out _).mono ?_;rintro e w1 ⟨rfl,hw⟩;rw[hw];clear hw;go_upto_if 18 with(fail);go_cut [5] (fun v5 wc=>∃e:Int,v5= .int .i64 e∧Aside0 (lU x∧dv x≤4096∧e=(if f.down=true then- dv x else dv x)∧Below w.heap.size w wc))
 case first=>
  cases be
  ·go_wp2_with fail;refine(HBX.out _).mono ?_;rintro e w1 ⟨rfl,hw⟩;rw[hw];clear hw;go_wp2_with fail;refine(Lr x _).mono ?_;rintro e w2 ⟨v,er,rfl,h1,h2⟩;have hF:=HF.out.1.below h2;obtain⟨b3,b4,b5,b6,b7,b8,b9,b10,bf⟩:=hF.all;have HN:=zM (zA h1 h2);clear h1 h2 hF b3 b4 b5 b6 b8 b9 b10 bf
   by_cases her:er=0
   ·subst her
    by_cases hv:4096<v
    ·have q1:=zT hv;have HV:=zM hv;clear hv;go_wp2_with fail;go_ret2;refine .inl ⟨rfl,HN.out.2,fun k hk=>?_⟩
     exfalso
     have h3:=hk.1;have h4:=hk.2.1;rw[HF.out.2.2.1]at h3 h4;have h5:=(HN.out.1.2.2.1 ⟨h3,h4⟩).1;have h6:=HV.out;omega
    ·have q1:=zF hv
     have hok:lU x∧dv x≤4096:=by
      apply Classical.byContradiction;intro hno;rcases HN.out.1.2.2.2 hno with h3|h3
      ·exact h3 rfl
      ·exact hv h3
     have hvd:=(HN.out.1.2.2.1 hok).1;have hv0:=HN.out.1.1;have HV:=zM (zA hok hvd);have hcv:IntKind.i64.wrap v=v:=by rw[dL,fD (by omega) (by omega)]
     have hcv2:wrap64 v=v:=fD (by omega) (by omega);have ZE:wrap64 (-v)= -v:=fD (by omega) (by omega);have asb:IntKind.i64.wrap (-v)= -v:=by rw[dL];exact ZE
     clear hv hok hvd hv0;cases hdn:f.down
     ·rw[hdn]at b7;have HDN:=zM hdn;clear hdn;go_wp2_with fail;go_meet
      case rel=>exact⟨v,rfl,⟨HV.out.1.1,HV.out.1.2,by rw[if_neg (by rw[HDN.out];decide)];exact HV.out.2,HN.out.2⟩⟩
     ·rw[hdn]at b7;have HDN:=zM hdn;clear hdn;go_wp2_with fail;go_meet
      case rel=>exact⟨-v,rfl,⟨HV.out.1.1,HV.out.1.2,by rw[if_pos HDN.out,HV.out.2],HN.out.2⟩⟩
   ·have q0:(er !=0)=true:=bne_iff_ne.mpr her;have HER:=zM her;clear her;go_wp2_with fail;go_ret2;refine .inl ⟨rfl,HN.out.2,fun k hk=>?_⟩
    exfalso
    have h3:=hk.1;have h4:=hk.2.1;rw[HF.out.2.2.1]at h3 h4;exact HER.out (HN.out.1.2.2.1 ⟨h3,h4⟩).2
  ·go_wp2_with fail;go_meet
   case rel=>
    have hx0:x=⟨#[48]⟩:=by
     rw[←HF.out.2.2.1];exact zG f.exp HBE.out
    refine⟨0,rfl,⟨?_,?_,?_,Below.refl _ _⟩⟩
    ·rw[hx0];exact Sm
    ·rw[hx0];decide
    ·rw[hx0,show dv (⟨#[48]⟩:ByteArray)=0 from rfl];cases f.down<;>rfl
 case rest=>
  obtain⟨e,rfl,HE⟩:=hcut;have hF:=HF.out.1.below HE.out.2.2.2;obtain⟨b3,b4,b5,b6,b7,b8,b9,b10,bf⟩:=hF.all;obtain⟨k,hk⟩:∃k,e- f.behind=k:=⟨_,rfl⟩;have Na:0≤dv x:=fP HE.out.1.canon
  have hkb: -70000≤k∧k≤4096:=by
   have h1:=HE.out.2.1;have h2:=HE.out.2.2.1;have h3:=HF.out.2.2.2.2.2;cases hdn:f.down
   ·rw[hdn,if_neg (by decide)]at h2;omega
   ·rw[hdn,if_pos rfl]at h2;omega
  have hkw:wrap64 (e- f.behind)=k:=by rw[hk];exact fD (by omega) (by omega)
  have as5:IntKind.i64.wrap (e- f.behind)=k:=by rw[dL];exact hkw
  have hdo:wF f k:=by
   refine⟨?_,?_,?_⟩
   ·rw[HF.out.2.2.1];exact HE.out.1
   ·rw[HF.out.2.2.1];exact HE.out.2.1
   ·rw[HF.out.2.2.1,←HE.out.2.2.1];exact hk.symm
  have hw1:wrap64 (1- k)=1- k:=fD (by omega) (by omega);have hw2:IntKind.i64.wrap (1- k)=1- k:=by rw[dL];exact hw1
  have hsz:m.size≤65537:=by have:=HF.out.2.2.2.1.2.2.1;have:=HF.out.2.2.2.2.1;omega
  have hw3:wrap64 ((m.size:Int)+k)=(m.size:Int)+k:=fD (by omega) (by omega);have hw4:IntKind.i64.wrap ((m.size:Int)+k)=(m.size:Int)+k:=by rw[dL];exact hw3
  have HK:=zM (zA hdo (zA hkb hsz));have abp:∀k2,wF f k2→k2=k:=fun k2 h2=>h2.2.2.trans hdo.2.2.symm
  have HU:=zM abp;clear hF hk Na hdo hsz abp b3 b4 b6 b7 b8 b9 b10 bf
  by_cases h:600<m.size
  ·have C1q:=zT h;have C1r:decide (600<(m.size:Int))=true:=decide_eq_true (by omega);have C1:=zM h;clear h;go_wp2_with fail;go_ret2;refine .inl ⟨rfl,HE.out.2.2.2,fun k2 h2=>?_⟩;rw[HU.out k2 h2,HF.out.2.1];exact .inl C1.out
  ·have C1q:=zF h;have C1r:decide (600<(m.size:Int))=false:=decide_eq_false (by omega);have C1:=zM h;clear h
   by_cases h:k<0
   ·have C2q:=zT h;have C2:=zM h;clear h;have C4q:decide (0≤k)=false:=decide_eq_false (by have:=C2.out;omega)
    by_cases h:600<1- k
    ·have C3q:=zT h;have C3:=zM h;clear h;go_wp2_with fail;go_ret2;refine .inl ⟨rfl,HE.out.2.2.2,fun k2 h2=>?_⟩;rw[HU.out k2 h2,HF.out.2.1];exact .inr (.inl ⟨C2.out,C3.out⟩)
    ·have C3q:=zF h;have C3:=zM h;clear h;obtain⟨bm,hbm⟩:∃b,(m.toList==[48])=b:=⟨_,rfl⟩;have M0:=zM hbm;cases bm
     ·have M1:=M0;have hm6:m.size≤600:=by have:=C1.out;omega
      have hk6: -5000≤k∧k≤5000:=by have:=C3.out;have:=C2.out;omega
      have QV:=zM (zA hm6 hk6);obtain⟨z,hz⟩:∃z,wc.heap.size=z:=⟨_,rfl⟩;obtain⟨W1,hW1⟩:∃W1,wc.alloc (.cells #[.bool false,.slice none 0 0,.bool false,.slice none 0 0] 179)=W1:=⟨_,rfl⟩;have hs1:W1.heap.size=z+1:=by rw[←hW1,←hz];simp
      have hz1:W1.heap[z]?=some (.cells #[.bool false,.slice none 0 0,.bool false,.slice none 0 0] 179 (0,0)):=by rw[←hW1,←hz];exact bZ _ _
      have hB1:Below w.heap.size w W1:=by rw[←hW1];exact ah HE.out.2.2.2 HE.out.2.2.2.size (ag (Below.refl _ _) _)
      have hwz:w.heap.size≤z:=by rw[←hz];exact HE.out.2.2.2.size
      obtain⟨W2,hW2⟩:∃W2,W1.alloc (.cells #[.bool false,.slice none 0 0,.bool false,.slice none 0 0] 179)=W2:=⟨_,rfl⟩;have hz2:W2.heap[z]?=some (.cells #[.bool false,.slice none 0 0,.bool false,.slice none 0 0] 179 (0,0)):=by rw[←hW2];exact aT hz1 (ag (Below.refl _ _) _)
      have hy2:W2.heap[z+1]?=some (.cells #[.bool false,.slice none 0 0,.bool false,.slice none 0 0] 179 (0,0)):=by rw[←hW2,←hs1];exact bZ _ _
      have hB2:Below w.heap.size w W2:=by rw[←hW2];exact ah hB1 hB1.size (ag (Below.refl _ _) _)
      have H2:=zM (zA hz2 (zA hy2 (zA hB2 hwz)));clear hm6 hk6 hz1 hB1 hz2 hy2 hB2 hwz;go_wp2_with fail;refine(rP m _ HF.out.2.2.2.1.1.1 (by have:=QV.out.1;omega) HF.out.2.2.2.1.1.2.2).mono ?_;rintro e3 w3 ⟨g3,xs,rfl,h1,h2,h3,h4,h5⟩;have hz3:=aT H2.out.1 h5;have hy3:=aT H2.out.2.1 h5;have H3:=zM (zA h2 (zA h3 (zA h4 (zA hz3 (zA hy3 (ah H2.out.2.2.1 H2.out.2.2.1.size h5))))));clear h1 h2 h3 h4 h5 hz3 hy3;go_wp2_with fail;refine(qI (z+1) g3 false xs _ _ _ _ _ H3.out.2.2.2.2.1 H3.out.1 H3.out.2.1).mono ?_;rintro e4 w4 ⟨rfl,h1,h2⟩;have hz4:=(h2.block z (dV H3.out.2.2.2.1) (by omega)).trans H3.out.2.2.2.1;have H4:=zM (zA h1 (zA hz4 (Below.qj H3.out.2.2.2.2.2 h2 (Nat.le_trans H2.out.2.2.2 (Nat.le_succ z)))));clear h1 h2 hz4;go_wp2_with fail;refine(MH k _ QV.out.2.1 QV.out.2.2).mono ?_;rintro e5 w5 ⟨g4,rs,ss,rfl,h1,h2,h3,h4,h5,h6,h7⟩;have H5:=zM (zA h2 (zA (zA h3 h4) (zA h5 (zA h6 (zA (H4.out.1.below h7) (zA (aT H4.out.2.1 h7) (ah H4.out.2.2 H4.out.2.2.size h7)))))));clear h1 h2 h3 h4 h5 h6 h7;go_wp2_with fail;have hlx:xs.length≤601:=qU H3.out.2.1 600 (by rw[H3.out.2.2.1];exact o5 HF.out.2.2.2.1.1.2.2 QV.out.1);have hlr:rs.length≤5001:=qU H5.out.2.1.1 5000 (by rw[H5.out.2.2.1];exact sW (by have:=QV.out.2;omega));have hls:(iH ss).length≤5001:=qU (jT H5.out.2.1.2) 5000 (by rw[H5.out.2.2.2.1];exact sW (by have:=QV.out.2;omega));have hd1:(iH [1]).length=1:=rfl;refine(Bz z (z+1) g4 false false xs [1] rs ss _ _ _ _ _ H5.out.2.2.2.2.2.1 H5.out.2.2.2.2.1 H5.out.1 H3.out.2.1 uS H5.out.2.1.1 H5.out.2.1.2 (by omega) (by omega)).mono ?_;rintro e6 w6 ⟨ms,ns,us,vs,rfl,h1,h2,h3,h4,h5,h6,h7⟩;have H6:=zM (zA h3 (zA h4 (zA h5 (zA h6 (Below.qj H5.out.2.2.2.2.2.2 h7 H2.out.2.2.2)))));clear h1 h2 h3 h4 h5 h6 h7 hlx hlr hls hd1;go_wp2_with fail;go_ret2;refine .inr ⟨k,z,us,vs,rfl,HK.out.1,by rw[HF.out.2.1];exact(by rintro(h|h|h);exact absurd h (by have:=C1.out;omega);exact absurd h.2 (by have:=C3.out;omega);exact absurd h.1 (by have:=C2.out;omega)),H2.out.2.2.2,H6.out.2.2.2.1,H6.out.2.2.1.1,H6.out.2.2.1.2.1,?_,H6.out.2.2.2.2⟩;have hlow:=H6.out.2.2.1;have e1:=H6.out.1;have e2:=H6.out.2.1;rw[H3.out.2.2.1,H5.out.2.2.1]at e1;rw[show val 4294967296 (iH [1])=1 from val_one,Int.one_mul,H5.out.2.2.2.1]at e2;rw[HF.out.2.1,show iH vs=vs from if_neg hlow.2.2.1,←e1,←e2];exact⟨hlow.2.2.2.1,hlow.2.2.2.2⟩
     ·have M1:=M0;go_wp2_with fail;go_ret2;have hm0:dv m=0:=by rw[MK M0.out];rfl
      refine .inr ⟨k,wc.heap.size,[],[],rfl,HK.out.1,by rw[HF.out.2.1];exact(by rintro(h|h|h);exact absurd h (by have:=C1.out;omega);exact absurd h.2 (by have:=C3.out;omega);exact absurd h.1 (by have:=C2.out;omega)),HE.out.2.2.2.size,GM _ _ (bZ _ _),EK,EK,?_,ah HE.out.2.2.2 HE.out.2.2.2.size (ag (Below.refl _ _) _)⟩;rw[HF.out.2.1,hm0,Int.zero_mul];exact GG _ (Int.pow_pos (by omega))
   ·have C2q:=zF h;have C2:=zM h;clear h;have C4q:decide (0≤k)=true:=decide_eq_true (by have:=C2.out;omega);obtain⟨bm,hbm⟩:∃b,(m.toList==[48])=b:=⟨_,rfl⟩;have M0:=zM hbm;cases bm
    ·have M1:=M0
     by_cases h:600<(m.size:Int)+k
     ·have C6q:=zT h;have C6:=zM h;clear h;go_wp2_with fail;go_ret2;refine .inl ⟨rfl,HE.out.2.2.2,fun k2 h2=>?_⟩;rw[HU.out k2 h2,HF.out.2.1];exact .inr (.inr ⟨by have:=C2.out;omega,M0.out,C6.out⟩)
     ·have C6q:=zF h;have C6:=zM h;clear h;have hm6:m.size≤600:=by have:=C1.out;omega
      have hk6: -5000≤k∧k≤5000:=by have:=C6.out;have:=C2.out;omega
      have QV:=zM (zA hm6 hk6);obtain⟨z,hz⟩:∃z,wc.heap.size=z:=⟨_,rfl⟩;obtain⟨W1,hW1⟩:∃W1,wc.alloc (.cells #[.bool false,.slice none 0 0,.bool false,.slice none 0 0] 179)=W1:=⟨_,rfl⟩;have hs1:W1.heap.size=z+1:=by rw[←hW1,←hz];simp
      have hz1:W1.heap[z]?=some (.cells #[.bool false,.slice none 0 0,.bool false,.slice none 0 0] 179 (0,0)):=by rw[←hW1,←hz];exact bZ _ _
      have hB1:Below w.heap.size w W1:=by rw[←hW1];exact ah HE.out.2.2.2 HE.out.2.2.2.size (ag (Below.refl _ _) _)
      have hwz:w.heap.size≤z:=by rw[←hz];exact HE.out.2.2.2.size
      obtain⟨W2,hW2⟩:∃W2,W1.alloc (.cells #[.bool false,.slice none 0 0,.bool false,.slice none 0 0] 179)=W2:=⟨_,rfl⟩;have hz2:W2.heap[z]?=some (.cells #[.bool false,.slice none 0 0,.bool false,.slice none 0 0] 179 (0,0)):=by rw[←hW2];exact aT hz1 (ag (Below.refl _ _) _)
      have hy2:W2.heap[z+1]?=some (.cells #[.bool false,.slice none 0 0,.bool false,.slice none 0 0] 179 (0,0)):=by rw[←hW2,←hs1];exact bZ _ _
      have hB2:Below w.heap.size w W2:=by rw[←hW2];exact ah hB1 hB1.size (ag (Below.refl _ _) _)
      have H2:=zM (zA hz2 (zA hy2 (zA hB2 hwz)));clear hm6 hk6 hz1 hB1 hz2 hy2 hB2 hwz;go_wp2_with fail;refine(rP m _ HF.out.2.2.2.1.1.1 (by have:=QV.out.1;omega) HF.out.2.2.2.1.1.2.2).mono ?_;rintro e3 w3 ⟨g3,xs,rfl,h1,h2,h3,h4,h5⟩;have hz3:=aT H2.out.1 h5;have hy3:=aT H2.out.2.1 h5;have H3:=zM (zA h2 (zA h3 (zA h4 (zA hz3 (zA hy3 (ah H2.out.2.2.1 H2.out.2.2.1.size h5))))));clear h1 h2 h3 h4 h5 hz3 hy3;go_wp2_with fail;refine(qI (z+1) g3 false xs _ _ _ _ _ H3.out.2.2.2.2.1 H3.out.1 H3.out.2.1).mono ?_;rintro e4 w4 ⟨rfl,h1,h2⟩;have hz4:=(h2.block z (dV H3.out.2.2.2.1) (by omega)).trans H3.out.2.2.2.1;have H4:=zM (zA h1 (zA hz4 (Below.qj H3.out.2.2.2.2.2 h2 (Nat.le_trans H2.out.2.2.2 (Nat.le_succ z)))));clear h1 h2 hz4;go_wp2_with fail;refine(MH k _ QV.out.2.1 QV.out.2.2).mono ?_;rintro e5 w5 ⟨g4,rs,ss,rfl,h1,h2,h3,h4,h5,h6,h7⟩;have H5:=zM (zA h2 (zA (zA h3 h4) (zA h5 (zA h6 (zA (H4.out.1.below h7) (zA (aT H4.out.2.1 h7) (ah H4.out.2.2 H4.out.2.2.size h7)))))));clear h1 h2 h3 h4 h5 h6 h7;go_wp2_with fail;have hlx:xs.length≤601:=qU H3.out.2.1 600 (by rw[H3.out.2.2.1];exact o5 HF.out.2.2.2.1.1.2.2 QV.out.1);have hlr:rs.length≤5001:=qU H5.out.2.1.1 5000 (by rw[H5.out.2.2.1];exact sW (by have:=QV.out.2;omega));have hls:(iH ss).length≤5001:=qU (jT H5.out.2.1.2) 5000 (by rw[H5.out.2.2.2.1];exact sW (by have:=QV.out.2;omega));have hd1:(iH [1]).length=1:=rfl;refine(Bz z (z+1) g4 false false xs [1] rs ss _ _ _ _ _ H5.out.2.2.2.2.2.1 H5.out.2.2.2.2.1 H5.out.1 H3.out.2.1 uS H5.out.2.1.1 H5.out.2.1.2 (by omega) (by omega)).mono ?_;rintro e6 w6 ⟨ms,ns,us,vs,rfl,h1,h2,h3,h4,h5,h6,h7⟩;have H6:=zM (zA h3 (zA h4 (zA h5 (zA h6 (Below.qj H5.out.2.2.2.2.2.2 h7 H2.out.2.2.2)))));clear h1 h2 h3 h4 h5 h6 h7 hlx hlr hls hd1;go_wp2_with fail;go_ret2;refine .inr ⟨k,z,us,vs,rfl,HK.out.1,by rw[HF.out.2.1];exact(by rintro(h|h|h);exact absurd h (by have:=C1.out;omega);exact absurd h.1 (by have:=C2.out;omega);exact absurd h.2.2 (by have:=C6.out;omega)),H2.out.2.2.2,H6.out.2.2.2.1,H6.out.2.2.1.1,H6.out.2.2.1.2.1,?_,H6.out.2.2.2.2⟩;have hlow:=H6.out.2.2.1;have e1:=H6.out.1;have e2:=H6.out.2.1;rw[H3.out.2.2.1,H5.out.2.2.1]at e1;rw[show val 4294967296 (iH [1])=1 from val_one,Int.one_mul,H5.out.2.2.2.1]at e2;rw[HF.out.2.1,show iH vs=vs from if_neg hlow.2.2.1,←e1,←e2];exact⟨hlow.2.2.2.1,hlow.2.2.2.2⟩
    ·have M1:=M0;go_wp2_with fail;go_ret2;have hm0:dv m=0:=by rw[MK M0.out];rfl
     refine .inr ⟨k,wc.heap.size,[],[],rfl,HK.out.1,by rw[HF.out.2.1];exact(by rintro(h|h|h);exact absurd h (by have:=C1.out;omega);exact absurd h.1 (by have:=C2.out;omega);exact absurd (M0.out.symm.trans h.2.1) (by decide)),HE.out.2.2.2.size,GM _ _ (bZ _ _),EK,EK,?_,ah HE.out.2.2.2 HE.out.2.2.2.size (ag (Below.refl _ _) _)⟩;rw[HF.out.2.1,hm0,Int.zero_mul];exact GG _ (Int.pow_pos (by omega))
end Go.Proofs.YthbdjmopolpjmaaGreatDoor.C
namespace Go.Proofs.YthbdjmopolpjmaaGreatDoor.C
open Go.RowKit Go.Proofs.YthbdjmopolpjmaaGreatDoorW.PrintWords Go.Proofs.YthbdjmopolpjmaaGreatDoorW.PrintLast Go.Proofs.YthbdjmopolpjmaaGreatDoorW.PrintMore Go.Proofs.YthbdjmopolpjmaaGreatDoor.F Go.Proofs.YthbdjmopolpjmaaGreatDoor.M
theorem takeWhile_take {α:Type}(p:α→Bool):∀l:List α,l.take (l.takeWhile p).length=l.takeWhile p
 | []=>rfl
 |a::l=>by
  rw[List.takeWhile_cons];cases h:p a
  ·rfl
  ·simp only[if_true,List.length_cons,List.take_succ_cons];rw[takeWhile_take p l]
theorem wX {α:Type}(p:α→Bool):∀l:List α,∀x∈l.takeWhile p,p x=true
 | [],x,h=>by cases h
 |a::l,x,h=>by
  rw[List.takeWhile_cons]at h;cases hp:p a
  ·rw[hp]at h;cases h
  ·rw[hp]at h;rcases List.mem_cons.1 h with h|h
   ·rw[h];exact hp
   ·exact wX p l x h
theorem Dj (s:ByteArray)(i:Nat)(hi:i≤s.size):Num (bytesOf (s.extract i (eG s i))):=by
 have h1:=lD s i hi;rw[nZ _ _ _ h1];intro c hc
 have e:((bytesOf s).take (eG s i)).drop i=((bytesOf s).drop i).takeWhile isD:=by
  rw[List.drop_take,show eG s i- i=(((bytesOf s).drop i).takeWhile isD).length from by unfold eG;omega];exact takeWhile_take _ _
 rw[e]at hc;have h2:=wX isD _ c hc;exact of_decide_eq_true h2
theorem num_nil:Num (bytesOf (⟨#[]⟩:ByteArray)):=by
 intro c hc;have:bytesOf (⟨#[]⟩:ByteArray)=[]:=rfl;rw[this]at hc;cases hc
theorem OE {a b:ByteArray}(ha:Num (bytesOf a))(hb:Num (bytesOf b)):Num (bytesOf (a++b)):=by
 have e:bytesOf (a++b)=bytesOf a++bytesOf b:=by simp[bytesOf,ByteArray.data_append]
 rw[e];intro c hc;rcases List.mem_append.1 hc with h|h
 ·exact ha c h
 ·exact hb c h
def Good (s:ByteArray)(f:Fm):Prop:=Num (bytesOf f.m)∧f.m.size≤65536∧Num (bytesOf f.exp)∧0≤f.behind∧f.behind≤65536∧Num (bytesOf f.den)∧f.den.size≤65536
theorem nK {set s:ByteArray}{i:Nat}(h:hits set s i=true):i<s.size:=by
 unfold hits at h;rw[Bool.and_eq_true]at h;exact of_decide_eq_true h.1
theorem Gq {s:ByteArray}{neg:Bool}{m:ByteArray}{behind i:Nat}{f:Fm}(h:nS s neg m behind i=some f)(hi:i≤s.size)(hs:s.size≤65536)(hm:Num (bytesOf m))(hm2:m.size≤65536)(hb:behind≤65536):Good s f:=by
 unfold nS at h
 by_cases h1:hits ⟨#[101,69]⟩ s i=true
 ·rw[if_pos h1]at h;have hl:=nK h1;obtain⟨j,hj⟩:∃j,(if hits ⟨#[43,45]⟩ s (i+1)=true then i+2 else i+1)=j:=⟨_,rfl⟩
  have hjs:j≤s.size:=by
   rw[←hj];split
   ·next h2=>have:=nK h2;omega
   ·omega
  simp only[hj]at h;split at h
  ·cases h
  ·injection h with h;subst h;exact⟨hm,hm2,Dj s j hjs,by show(0:Int)≤(behind:Int);omega,by show(behind:Int)≤65536;omega,num_nil,Nat.zero_le _⟩
 ·rw[if_neg h1]at h;split at h
  ·cases h
  ·injection h with h;subst h;exact⟨hm,hm2,num_nil,by show(0:Int)≤(behind:Int);omega,by show(behind:Int)≤65536;omega,num_nil,Nat.zero_le _⟩
theorem ext_size (s:ByteArray)(i:Nat)(hi:i≤s.size):(s.extract i (eG s i)).size=eG s i- i:=by
 have:=lD s i hi;rw[ByteArray.size_extract];omega
theorem su {s:ByteArray}{f:Fm}(h:gp s=some f)(hs:s.size≤65536):Good s f:=by
 obtain⟨j,hj⟩:∃j,(if hits ⟨#[45]⟩ s 0=true then 1 else 0)=j:=⟨_,rfl⟩
 have hjs:j≤s.size:=by
  rw[←hj];split
  ·next h2=>have:=nK h2;omega
  ·omega
 have he:=lD s j hjs;have hn:=Dj s j hjs;have hz:=ext_size s j hjs;unfold gp at h;simp only[hj]at h
 by_cases h1:eG s j=j
 ·rw[if_pos h1]at h;cases h
 ·rw[if_neg h1]at h
  by_cases h2:hits ⟨#[47]⟩ s (eG s j)=true
  ·rw[if_pos h2]at h;have hl:=nK h2;split at h
   ·cases h
   ·injection h with h;subst h;have hz2:=ext_size s (eG s j+1) hl;have h6:=lD s (eG s j+1) hl;exact⟨hn,by show(s.extract j (eG s j)).size≤65536;omega,num_nil,Int.le_refl _,by show(0:Int)≤65536;omega,Dj s _ hl,by show(s.extract (eG s j+1) (eG s (eG s j+1))).size≤65536;omega⟩
  ·rw[if_neg h2]at h
   by_cases h3:hits ⟨#[46]⟩ s (eG s j)=true
   ·rw[if_pos h3]at h;have hl:=nK h3;have hz2:=ext_size s (eG s j+1) hl;have h6:=lD s (eG s j+1) hl;split at h
    ·cases h
    ·exact Gq h h6 hs (OE hn (Dj s _ hl)) (by rw[ByteArray.size_append];omega) (by omega)
   ·rw[if_neg h3]at h;exact Gq h he hs hn (by omega) (by omega)
def Ik (neg:Bool)(x y:Int)(n d:ByteArray)(er:Int):Prop:=∃t d2,Ib x y t d2∧((600<t.size∨600<d2.size)∧n=⟨#[]⟩∧d=⟨#[]⟩∧er=7∨¬(600<t.size∨600<d2.size)∧n=signed (neg&&decide (x≠0)) t∧d=d2∧er=0)
def Hm (f:Fm)(er:Int):Prop:=
 (f.Ce=true∧((eP f.den).toList==[48])=true∧er=8)∨(f.Ce=true∧((eP f.den).toList==[48])=false∧(600<(eP f.m).size∨600<(eP f.den).size)∧er=7)∨
 (f.Ce=false∧(∀k,wF f k→xg (eP f.m) k)∧er=7)
def FC (f:Fm)(x y:Int):Prop:=
 (f.Ce=true∧((eP f.den).toList==[48])=false∧¬(600<(eP f.m).size∨600<(eP f.den).size)∧x=dv (eP f.m)∧y=dv (eP f.den))∨
 (f.Ce=false∧∃k,wF f k∧¬xg (eP f.m) k∧x=dv (eP f.m)*10^k.toNat∧y=10^(-k).toNat)
def qZ (s n d:ByteArray)(er:Int):Prop:=
 (65536<s.size∧n=⟨#[]⟩∧d=⟨#[]⟩∧er=4)∨
 (s.size≤65536∧gp s=none∧n=⟨#[]⟩∧d=⟨#[]⟩∧er=3)∨
 (s.size≤65536∧∃f,gp s=some f∧((Hm f er∧n=⟨#[]⟩∧d=⟨#[]⟩)∨∃x y,FC f x y∧Ik f.neg x y n d er))
theorem Qh {m:ByteArray}{k:Int}(h:¬xg m k)(hm:Canon m):0≤dv m*10^k.toNat∧dv m*10^k.toNat≤10^1200∧(0:Int)<10^(-k).toNat∧(10:Int)^(-k).toNat≤10^600:=by
 have h0:=fP hm;have hp:(0:Int)<10^k.toNat:=Int.pow_pos (by omega)
 have hsz:m.size≤600:=by
  apply Classical.byContradiction;intro hc;exact h (.inl (by omega))
 have hv:=o5 hm.2.2 hsz
 have hk: -k≤600:=by
  apply Classical.byContradiction;intro hc;exact h (.inr (.inl ⟨by omega,by omega⟩))
 refine⟨Int.mul_nonneg h0 (Int.le_of_lt hp),?_,Int.pow_pos (by omega),sW (by omega)⟩
 by_cases hz:dv m=0
 ·rw[hz,Int.zero_mul];exact Int.le_of_lt (Int.pow_pos (by omega))
 ·have hne:(m.toList==[48])=false:=by
   cases hh:(m.toList==[48])with
   |false=>rfl
   |true=>exact absurd (by rw[MK hh];rfl) hz
  have hk2:k≤600:=by
   apply Classical.byContradiction;intro hc;exact h (.inr (.inr ⟨by omega,hne,by omega⟩))
  have h2:dv m*10^k.toNat≤10^600*10^600:=Int.mul_le_mul hv (sW (by omega)) (Int.le_of_lt hp) (Int.le_of_lt (Int.pow_pos (by omega)));rw[←Int.pow_add]at h2;exact h2
theorem QA {x y:Int}{ps qs:List Int}(h:QX x y ps qs)(hx:0≤x)(hy:0<y)(hp:0≤val 4294967296 ps)(hq:0≤val 4294967296 qs):val 4294967296 ps≤x∧val 4294967296 qs≤y:=by
 have hg:=qy (a:=x) hy;have h1:=Int.mul_le_mul_of_nonneg_left (show 1≤ja x y by omega) hp;have h2:=Int.mul_le_mul_of_nonneg_left (show 1≤ja x y by omega) hq;rw[Int.mul_one]at h1 h2;rw[h.1]at h1;rw[h.2]at h2;exact⟨h1,h2⟩
end Go.Proofs.YthbdjmopolpjmaaGreatDoor.C
