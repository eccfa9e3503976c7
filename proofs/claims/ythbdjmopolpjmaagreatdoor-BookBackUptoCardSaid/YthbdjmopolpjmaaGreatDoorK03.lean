/- Part 3 of the proof. -/
import Derived.Test.YthbdjmopolpjmaaGreatDoorK02
set_option linter.unusedVariables false
set_option linter.unusedSimpArgs false
set_option maxHeartbeats 8000000
set_option maxRecDepth 100000
namespace Go.Proofs.YthbdjmopolpjmaaGreatDoor.F
open Go.RowKit Go.Proofs.YthbdjmopolpjmaaGreatDoorW.PrintWords Go.Proofs.YthbdjmopolpjmaaGreatDoorW.PrintLast Go.Proofs.YthbdjmopolpjmaaGreatDoorW.PrintMore
attribute [local go_sem] max2_int min2_int max_two min_two max_three min_three max_four min_four
mutual
def aA.l0:Nat→ByteArray→List Int→Int→Option (List Int)
 |0,_,_,_=>none
 |k+1,x0,x3,x4=>if x4>0 then(if(wrap64 (x4- 4))<0 then(aA.j1 k x0 x3 x4 0)else(aA.j1 k x0 x3 x4 (wrap64 (x4- 4))))else((aG.f k x3).bind fun t202=>(some t202))
def aA.j1:Nat→ByteArray→List Int→Int→Int→Option (List Int)
 |0,_,_,_,_=>none
 |k+1,x0,x3,x4,x5=>aA.l1 k x0 x3 x4 0 x5
def aA.l1:Nat→ByteArray→List Int→Int→Int→Int→Option (List Int)
 |0,_,_,_,_,_=>none
 |k+1,x0,x3,x4,x6,x7=>if x7<x4 then(if 0≤x7 then(if x7<(x0.size:Int)then(aA.l1 k x0 x3 x4 (wrap64 ((wrap64 (10*x6))+(((bt x0 x7)- 48)%256))) (wrap64 (x7+1)))else(none))else(none))else(if x3.length<17592186044416 then(aA.l0 k x0 (x3++[x6]) (wrap64 (x4- 4)))else(none))
end
def aA.f (k:Nat)(a0:ByteArray):Option (List Int):=aA.l0 k a0 ([]:List Int) (a0.size:Int)
theorem aA.cO:∀k,(∀y0 y1 y2,bT (aA.l0 k y0 y1 y2) (aA.l0 (k+1) y0 y1 y2))∧(∀y0 y1 y2 y3,bT (aA.j1 k y0 y1 y2 y3) (aA.j1 (k+1) y0 y1 y2 y3))∧(∀y0 y1 y2 y3 y4,bT (aA.l1 k y0 y1 y2 y3 y4) (aA.l1 (k+1) y0 y1 y2 y3 y4))
 |0=>⟨fun _ _ _ r h=>by simp[aA.l0]at h,fun _ _ _ _ r h=>by simp[aA.j1]at h,fun _ _ _ _ _ r h=>by simp[aA.l1]at h⟩
 |k+1=>by
  obtain⟨gU,ih1,ih2⟩:=aA.cO k;refine⟨?_,?_,?_⟩
  ·intro y0 y1 y2;unfold aA.l0
   repeat' first
   |exact gU _ _ _
   |exact ih1 _ _ _ _
   |exact ih2 _ _ _ _ _
   |(with_reducible exact aG.mono _ _)
   |exact bT.refl _
   |exact bT.none _
   |refine bT.ite ?_ ?_
   |refine bT.bind ?_ (fun _=>?_)
   |exact aG.mono _ _
  ·intro y0 y1 y2 y3;unfold aA.j1
   repeat' first
   |exact gU _ _ _
   |exact ih1 _ _ _ _
   |exact ih2 _ _ _ _ _
   |(with_reducible exact aG.mono _ _)
   |exact bT.refl _
   |exact bT.none _
   |refine bT.ite ?_ ?_
   |refine bT.bind ?_ (fun _=>?_)
   |exact aG.mono _ _
  ·intro y0 y1 y2 y3 y4;unfold aA.l1
   repeat' first
   |exact gU _ _ _
   |exact ih1 _ _ _ _
   |exact ih2 _ _ _ _ _
   |(with_reducible exact aG.mono _ _)
   |exact bT.refl _
   |exact bT.none _
   |refine bT.ite ?_ ?_
   |refine bT.bind ?_ (fun _=>?_)
   |exact aG.mono _ _
theorem aA.mono:∀a0 k,bT (aA.f k a0) (aA.f (k+1) a0):=by
 intro a0 k;obtain⟨gU,ih1,ih2⟩:=aA.cO k;unfold aA.f
 repeat' first
   |exact gU _ _ _
   |exact ih1 _ _ _ _
   |exact ih2 _ _ _ _ _
   |(with_reducible exact aG.mono _ _)
   |exact bT.refl _
   |exact bT.none _
   |refine bT.ite ?_ ?_
   |refine bT.bind ?_ (fun _=>?_)
   |exact aG.mono _ _
theorem aA.calls (k:Nat)(a0:ByteArray)(r:List Int)(w:World)(h:aA.f k a0=some r):
  Calls Tryz.prog 173 #[.string a0] w fun e w'=>∃BH:Value,e= .returned (BH)∧Kd.V (Kd.int .i64) 3 w' w.heap.size (fun k_=>(w.heap.size≤k_)) BH r∧Below w.heap.size w w':=by
 have HB:=zM (Below.refl w.heap.size w);have H:(aA.l0 k a0 ([]:List Int) (a0.size:Int))=some r:=h;clear h;have H':=zM H;clear H;go_enter Tryz.func173,Tryz.ntmps173;go_wp2;go_loopg [3,4] k (fun kq v3 v4 w'=>∃(fH:List Int) (dJ:Int),v4= .int .i64 dJ∧Aside0 (aA.l0 kq a0 fH dJ=some r)∧Aside0 (kq≤k)∧Aside0 (Kd.R (Kd.int .i64) 3 w' w.heap.size (fun k_=>(w.heap.size≤k_)) v3 fH)∧Aside0 (Below w.heap.size w w'))
 case atStart=>exact⟨(([]:List Int)),((a0.size:Int)),zR,H',⟨Nat.le_refl _⟩,⟨by first|exact Kd.jB _ _ _ _ _|exact Kd.FN _ _ _ _ _|exact Kd.FT _ _ _ _ _|exact Kd.FP _ _ _ _ _|exact Kd.tH _ _ _ _ _⟩,⟨zB⟩⟩
 case round=>
  clear H';try clear c1
  obtain⟨fH,dJ,rfl,HA,fM,ik,HB⟩:=hrel;cases gk with
  |zero=>exact absurd HA.out (by simp[aA.l0])
  |succ k1=>
   have H:=HA.out;clear HA;simp only[aA.l0]at H
   by_cases c2:dJ>0
   ·rw[if_pos c2]at H;have kE:=zT c2;clear c2;have QT:=zM H;clear H;go_upto_if 17 with(fail);go_cut [5] (fun v5 wc=>∃(kq:Nat) (kK:Int),v5= .int .i64 kK∧Aside0 (aA.j1 kq a0 fH dJ kK=some r)∧Aside0 (kq≤k1)∧Aside0 (Kd.R (Kd.int .i64) 3 wc w.heap.size (fun k_=>(w.heap.size≤k_)) u3 fH)∧Aside0 (Below w.heap.size w wc))
    case first=>
     have H:=QT.out;clear QT
     by_cases c4:(wrap64 (dJ- 4))<0
     ·rw[if_pos c4]at H;have ig:=zT c4;clear c4
      (first|rw[ig]|(simp only[dL,jK];rw[ig])|skip)
      have H':=zM H;clear H;go_wp2;go_meet
      case rel=>exact⟨_,(0),zR,H',⟨by have:=fM.out;first|omega|exact Nat.le_refl _⟩,⟨zO ik.out⟩,⟨zB⟩⟩
     ·rw[if_neg c4]at H;have ig:=zF c4;clear c4
      (first|rw[ig]|(simp only[dL,jK];rw[ig])|skip)
      have H':=zM H;clear H;go_wp2;go_meet
      case rel=>exact⟨_,(wrap64 (dJ- 4)),zR,H',⟨by have:=fM.out;first|omega|exact Nat.le_refl _⟩,⟨zO ik.out⟩,⟨zB⟩⟩
    case rest=>
     clear QT;try clear c1
     try clear c2
     try clear kE
     try clear p2
     try clear c4
     try clear ig
     obtain⟨kq,kK,rfl,HA,HJ2,ik,HB⟩:=hcut;cases kq with
     |zero=>exact absurd HA.out (by simp[aA.j1])
     |succ YO=>
      have H:=HA.out;clear HA;simp only[aA.j1]at H;have H':=zM H;clear H;go_wp2;go_loopg [6,7] YO (fun kq v6 v7 w'=>∃(xZ:Int) (gB:Int),v6= .int .i64 xZ∧v7= .int .i64 gB∧Aside0 (aA.l1 kq a0 fH dJ xZ gB=some r)∧Aside0 (kq≤YO)∧Aside0 (Kd.R (Kd.int .i64) 3 w' w.heap.size (fun k_=>(w.heap.size≤k_)) u3 fH)∧Aside0 (Below w.heap.size w w'))
      case atStart=>exact⟨(0),(kK),zR,zR,H',⟨Nat.le_refl _⟩,⟨zO ik.out⟩,⟨zB⟩⟩
      case round=>
       clear H';try clear c1
       try clear c2
       try clear kE
       try clear p2
       try clear c4
       try clear ig
       try clear p2
       obtain⟨xZ,gB,rfl,rfl,HA,yw,ik,HB⟩:=hrel;cases gk with
       |zero=>exact absurd HA.out (by simp[aA.l1])
       |succ k3=>
        have H:=HA.out;clear HA;simp only[aA.l1]at H
        by_cases c5:gB<dJ
        ·rw[if_pos c5]at H;have jJ:=zT c5;clear c5
         by_cases c6:0≤gB
         ·rw[if_pos c6]at H;have iP:=zT c6;clear c6
          by_cases c7:gB<(a0.size:Int)
          ·rw[if_pos c7]at H;have lZ:=zT c7;clear c7;have H':=zM H;clear H;have p8:0≤(gB:Int):=zD;have q8:gB<(a0.size:Int):=zD;have ZV:=dQ a0 gB;replace p8:=eq_true p8;replace q8:=eq_true q8;go_wp2;go_roundg k3
           case measure=>have:=fM.out;have:=HJ2.out;have:=yw.out;omega
           case rel=>exact⟨(wrap64 ((wrap64 (10*xZ))+(((bt a0 gB)- 48)%256))),(wrap64 (gB+1)),zR,zR,H',⟨by have:=fM.out;have:=HJ2.out;have:=yw.out;omega⟩,⟨zO ik.out⟩,⟨zB⟩⟩
          ·rw[if_neg c7]at H;exact absurd H (by simp)
         ·rw[if_neg c6]at H;exact absurd H (by simp)
        ·rw[if_neg c5]at H;have jJ:=zF c5;clear c5
         by_cases c9:fH.length<17592186044416
         ·rw[if_pos c9]at H;have abX:=zM c9;clear c9;obtain⟨YA,Ea⟩:∃y_:List Int,y_=(fH++[xZ]):=⟨_,rfl⟩;replace H:(aA.l0 k3 a0 YA (wrap64 (dJ- 4)))=some r:=zY Ea H;have Uy:=zM Ea;clear Ea;have H':=zM H;clear H;go_wp2_with (first|((with_reducible refine bK (b:= .append) (xs:= #[.tmp 32,.tmp 34]) rfl ?_);at_builtin;refine Kd.dZ (Kd.int .i64) (w0:=w) w.heap.size rfl (.tmp 32) (.tmp 34) 62 3 (.int .i64 0) 8 rfl Tryz.underlying62 info3 rfl (by decide) (by omega) u3 fH xZ [.int .i64 xZ] (fun k_=>(w.heap.size≤k_)) (fun _=>False) rfl rfl ?aP (fun _ hk=>hk.elim) ?aF ?aO ?aB ?aS ?aL ?_;(case aP=>exact rfl);(case aB=>exact(by repeat(first|(with_reducible first|exact HB.out|apply ag|apply ai|apply aC)|exact HB.out)));(case aF=>exact(fun k_ hk=>(Nat.le_trans (bP (by repeat(first|(with_reducible first|exact HB.out|apply ag|apply ai|apply aC)|exact HB.out))) hk)));(case aO=>exact(by(with_reducible repeat(first|apply Kd.dC|apply Kd.dD|apply Kd.dR));exact ik.out));(case aS=>exact(bP (by repeat(first|(with_reducible first|exact HB.out|apply ag|apply ai|apply aC)|exact HB.out))));(case aL=>have:=abX.out;omega);intro v206 w10 ho hb hg hat;rw[←Uy.out]at ho;have dI:=zM (hb);have dG:=zM (ho);clear HB;clear ik;have HB:=dI;have Uh:=dG;clear dI dG;clear ho hb hg hat));go_roundg k3
          case measure=>have:=fM.out;have:=HJ2.out;have:=yw.out;omega
          case rel=>exact⟨(YA),(wrap64 (dJ- 4)),zR,H',⟨by have:=fM.out;have:=HJ2.out;have:=yw.out;omega⟩,⟨zO Uh.out⟩,⟨zB⟩⟩
         ·rw[if_neg c9]at H;exact absurd H (by simp)
   ·rw[if_neg c2]at H;have kE:=zF c2;clear c2;replace H:=Option.bind_eq_some_iff.mp H;obtain⟨t202,TR,H⟩:=H;replace H:(some t202)=some r:=H;have A11:=zM TR;clear TR;obtain rfl:=Option.some.inj H;obtain⟨Nj,ET,zQ⟩:=Kd.fO ik.out;subst zQ;go_wp2_with (first|((with_reducible refine iJ (f:=178) rfl ?_);refine pO (some 37) rfl rfl Tryz.func178 (by kernel_rfl) rfl #[.slice Nj fH.length ET] rfl (by(try simp only[List.map_toArray,List.map_cons,List.map_nil]);first|done|rfl|(simp only[List.length_drop,List.length_take];rfl)) ?_;(with_reducible refine(aG.calls k1 (fun k_=>some k_=(.slice Nj fH.length ET:Value).ownBlock) _ _ fH t202 _ ?side1 A11.out).mono ?_);(case side1=>exact Kd.R_V (Kd.uU rfl (ik.out)));rintro e w13 ⟨v203,rfl,ho0,hb⟩;refine⟨_,rfl,?_⟩;have dI:=zM (Kd.dK (by(with_reducible repeat(first|apply Kd.dC|apply Kd.dD|apply Kd.dR));exact ik.out) hb);have dG:=zM (Kd.qp (Kd.qK (ok':=fun k_=>(w.heap.size≤k_)) ho0 (fun k_ Ot=>Or.elim Ot (fun hs_=>((ik.out).1 k_ hs_.symm)) (fun Wi=>(Nat.le_trans (bP (by repeat(first|(with_reducible first|exact HB.out|apply ag|apply ai|apply aC)|exact HB.out))) Wi)))) (bP (by repeat(first|(with_reducible first|exact HB.out|apply ag|apply ai|apply aC)|exact HB.out))));have fQ:=zM (eU (by repeat(first|(with_reducible first|exact HB.out|apply ag|apply ai|apply aC)|exact HB.out)) hb);clear ik;clear HB;have ik:=dI;have af6:=dG;have HB:=fQ;clear dI dG fQ;(try clear hb);(try clear hb2);(try clear hk);(try clear hi);(try clear ho0)));go_ret;exact⟨_,by first|rfl|(simp[bg,bn]<;>rfl)|(simp[*,bg,bn]<;>rfl),by(with_reducible repeat(first|apply Kd.lq|apply Kd.lu|apply Kd.nX));exact af6.out,zB⟩
def aZ.l0:Nat→List Int→List Int→Int→Option (Bool)
 |0,_,_,_=>none
 |k+1,x0,x1,x5=>if x5≥0 then(if 0≤x5 then(if x5<(x0.length:Int)then(if x5<(x1.length:Int)then(if(rd x0 x5)=(rd x1 x5)then(aZ.l0 k x0 x1 (wrap64 (x5- 1)))else(some (decide ((rd x0 x5)<(rd x1 x5)))))else(none))else(none))else(none))else(some false)
def aZ.f (k:Nat)(l0:List Int)(l1:List Int):Option (Bool):=if(l0.length:Int)=(l1.length:Int)then(aZ.l0 k l0 l1 (wrap64 ((l0.length:Int)- 1)))else(some (decide ((l0.length:Int)<(l1.length:Int))))
theorem aZ.cO:∀k,(∀y0 y1 y2,bT (aZ.l0 k y0 y1 y2) (aZ.l0 (k+1) y0 y1 y2))
 |0=>fun _ _ _ r h=>by simp[aZ.l0]at h
 |k+1=>by
  have gU:=aZ.cO k
  ·intro y0 y1 y2;unfold aZ.l0
   repeat' first
   |exact gU _ _ _
   |exact bT.refl _
   |exact bT.none _
   |refine bT.ite ?_ ?_
   |refine bT.bind ?_ (fun _=>?_)
theorem aZ.mono:∀a0 a1 k,bT (aZ.f k a0 a1) (aZ.f (k+1) a0 a1):=by
 intro a0 a1 k;have gU:=aZ.cO k;unfold aZ.f
 repeat' first
   |exact gU _ _ _
   |exact bT.refl _
   |exact bT.none _
   |refine bT.ite ?_ ?_
   |refine bT.bind ?_ (fun _=>?_)
theorem aZ.calls (k:Nat)(A0:Option Addr)(c0:Nat)(l0:List Int)(A1:Option Addr)(c1:Nat)(l1:List Int)(r:Bool)(w:World)(hr0:Kd.C (Kd.int .i64) w A0 l0.length l0)(hc0:l0.length≤c0)(hr1:Kd.C (Kd.int .i64) w A1 l1.length l1)(hc1:l1.length≤c1)(h:aZ.f k l0 l1=some r):
  Calls Tryz.prog 174 #[.slice A0 l0.length c0,.slice A1 l1.length c1] w fun e w'=>e= .returned (.bool r)∧aJ w w':=by
 have HR0:=zM hr0;have Hw:=zM hc0;clear hr0 hc0;have HR1:=zM hr1;have MV:=zM hc1;clear hr1 hc1;have H:(if(l0.length:Int)=(l1.length:Int)then(aZ.l0 k l0 l1 (wrap64 ((l0.length:Int)- 1)))else(some (decide ((l0.length:Int)<(l1.length:Int)))))=some r:=h;clear h
 by_cases c3:(l0.length:Int)=(l1.length:Int)
 ·rw[if_pos c3]at H;have iI:((l0.length:Int)==(l1.length:Int))=true:=beq_iff_eq.mpr c3;have kW:((l0.length:Int) !=(l1.length:Int))=false:=bne_eq_false_iff_eq.mpr c3;have DK:(l0.length==l1.length)=true:=by first|simpa using c3|(simp at c3⊢;omega)
  clear c3;have H':=zM H;clear H;go_enter Tryz.func174,Tryz.ntmps174;go_wp2
  repeat(go_quiet (fail);try go_wp2)
  go_loopg [5] k (fun kq v5 w'=>∃(aV:Int),v5= .int .i64 aV∧Aside0 (aZ.l0 kq l0 l1 aV=some r)∧Aside0 (kq≤k)∧aJ w w')
  case atStart=>exact⟨(wrap64 ((l0.length:Int)- 1)),zR,H',⟨Nat.le_refl _⟩,by repeat(first|exact aJ.refl _|apply aJ.step)⟩
  case round=>
   clear H';try clear c1
   try clear p2
   try clear c3
   try clear iI
   try clear kW
   try clear DK
   obtain⟨aV,rfl,HA,fM,⟨m1,rfl⟩⟩:=hrel;cases gk with
   |zero=>exact absurd HA.out (by simp[aZ.l0])
   |succ k1=>
    have H:=HA.out;clear HA;simp only[aZ.l0]at H
    by_cases c4:aV≥0
    ·rw[if_pos c4]at H;have ig:=zT c4;clear c4
     by_cases c5:0≤aV
     ·rw[if_pos c5]at H;have jJ:=zT c5;clear c5
      by_cases c6:aV<(l0.length:Int)
      ·rw[if_pos c6]at H;have iP:=zT c6;clear c6
       by_cases c7:aV<(l1.length:Int)
       ·rw[if_pos c7]at H;have lZ:=zT c7;clear c7
        by_cases c8:(rd l0 aV)=(rd l1 aV)
        ·rw[if_pos c8]at H;have nP:((rd l0 aV)==(rd l1 aV))=true:=beq_iff_eq.mpr c8;have UY:((rd l0 aV) !=(rd l1 aV))=false:=bne_eq_false_iff_eq.mpr c8;clear c8;have H':=zM H;clear H;have OO:0≤(aV:Int):=zD;have O8:aV<(l0.length:Int):=zD;obtain⟨ab1,e208,ZL⟩:=Kd.dM HR0.out aV OO O8;cases e208;replace OO:=eq_true OO;replace O8:=eq_true O8;have OQ:0≤(aV:Int):=zD;have O9:aV<(l1.length:Int):=zD;obtain⟨ab2,e209,ZM⟩:=Kd.dM HR1.out aV OQ O9;cases e209;replace OQ:=eq_true OQ;replace O9:=eq_true O9;go_wp2
         repeat(go_quiet (fail);try go_wp2)
         go_roundg k1
         case measure=>have:=fM.out;omega
         case rel=>exact⟨(wrap64 (aV- 1)),zR,H',⟨by have:=fM.out;omega⟩,by repeat(first|exact aJ.refl _|apply aJ.step)⟩
        ·rw[if_neg c8]at H;have nP:((rd l0 aV)==(rd l1 aV))=false:=beq_eq_false_iff_ne.mpr c8;have UY:((rd l0 aV) !=(rd l1 aV))=true:=bne_iff_ne.mpr c8;obtain rfl:=Option.some.inj H;have OO:0≤(aV:Int):=zD;have O8:aV<(l0.length:Int):=zD;obtain⟨ab1,e208,ZL⟩:=Kd.dM HR0.out aV OO O8;cases e208;replace OO:=eq_true OO;replace O8:=eq_true O8;have OQ:0≤(aV:Int):=zD;have O9:aV<(l1.length:Int):=zD;obtain⟨ab2,e209,ZM⟩:=Kd.dM HR1.out aV OQ O9;cases e209;replace OQ:=eq_true OQ;replace O9:=eq_true O9;have adI:0≤(aV:Int):=zD;have adW:aV<(l0.length:Int):=zD;obtain⟨agb,e210,ajk⟩:=Kd.dM HR0.out aV adI adW;obtain rfl:ab1=agb:=(by injection e210);replace adI:=eq_true adI;replace adW:=eq_true adW;have adJ:0≤(aV:Int):=zD;have adX:aV<(l1.length:Int):=zD;obtain⟨agc,e211,ajl⟩:=Kd.dM HR1.out aV adJ adX;obtain rfl:ab2=agc:=(by injection e211);replace adJ:=eq_true adJ;replace adX:=eq_true adX;go_wp2
         repeat(go_quiet (fail);try go_wp2)
         go_ret;exact⟨zR,by repeat(first|exact aJ.refl _|apply aJ.step)⟩
       ·rw[if_neg c7]at H;exact absurd H (by simp)
      ·rw[if_neg c6]at H;exact absurd H (by simp)
     ·rw[if_neg c5]at H;exact absurd H (by simp)
    ·rw[if_neg c4]at H;have ig:=zF c4;clear c4;obtain rfl:=Option.some.inj H;go_wp2
     repeat(go_quiet (fail);try go_wp2)
     go_ret;exact⟨zR,by repeat(first|exact aJ.refl _|apply aJ.step)⟩
 ·rw[if_neg c3]at H;have iI:((l0.length:Int)==(l1.length:Int))=false:=beq_eq_false_iff_ne.mpr c3;have kW:((l0.length:Int) !=(l1.length:Int))=true:=bne_iff_ne.mpr c3;have DK:(l0.length==l1.length)=false:=by first|simpa using c3|(simp at c3⊢;omega)
  obtain rfl:=Option.some.inj H;go_enter Tryz.func174,Tryz.ntmps174;go_wp2
  repeat(go_quiet (fail);try go_wp2)
  go_ret;exact⟨zR,by repeat(first|exact aJ.refl _|apply aJ.step)⟩
theorem zJ {W W':World}{m:Nat}{a:Addr}{v:Value}(hq:W.drewN m=W')(h:W.cell? a=some v):W'.cell? a=some v:=by subst hq;exact h
theorem zV {W W':World}{m:Nat}{a:Addr}{b:Bool}(hq:W.drewN m=W')(h:W.frozen? a=b):W'.frozen? a=b:=by subst hq;exact h
mutual
def ak.l0:Nat→List Int→List Int→List Int→Int→Option (List Int)
 |0,_,_,_,_=>none
 |k+1,x0,x1,x5,x6=>if x6<(x0.length:Int)then(ak.l1 k x0 x1 x5 x6 0 0)else((aG.f k x5).bind fun t215=>(some t215))
def ak.l1:Nat→List Int→List Int→List Int→Int→Int→Int→Option (List Int)
 |0,_,_,_,_,_,_=>none
 |k+1,x0,x1,x5,x6,x7,x8=>if x8<(x1.length:Int)then(if 0≤(wrap64 (x6+x8))then(if(wrap64 (x6+x8))<(x5.length:Int)then(if 0≤x6 then(if x6<(x0.length:Int)then(if 0≤x8 then(ak.l1 k x0 x1 (x5.set ((wrap64 (x6+x8)):Int).toNat (Int.tmod (wrap64 ((wrap64 (x7+(rd x5 (wrap64 (x6+x8)))))+(wrap64 ((rd x0 x6)*(rd x1 x8))))) 10000)) x6 (wrap64 (Int.tdiv (wrap64 ((wrap64 (x7+(rd x5 (wrap64 (x6+x8)))))+(wrap64 ((rd x0 x6)*(rd x1 x8))))) 10000)) (wrap64 (x8+1)))else(none))else(none))else(none))else(none))else(none))else(ak.l2 k x0 x1 x5 x6 x7 (wrap64 (x6+(x1.length:Int))))
def ak.l2:Nat→List Int→List Int→List Int→Int→Int→Int→Option (List Int)
 |0,_,_,_,_,_,_=>none
 |k+1,x0,x1,x5,x6,x7,x9=>if x7>0 then(if 0≤x9 then(if x9<(x5.length:Int)then(ak.l2 k x0 x1 (x5.set (x9:Int).toNat (Int.tmod (wrap64 (x7+(rd x5 x9))) 10000)) x6 (wrap64 (Int.tdiv (wrap64 (x7+(rd x5 x9))) 10000)) (wrap64 (x9+1)))else(none))else(none))else(ak.l0 k x0 x1 x5 (wrap64 (x6+1)))
end
def ak.f (k:Nat)(l0:List Int)(l1:List Int):Option (List Int):=if 0≤(wrap64 ((l0.length:Int)+(l1.length:Int)))then(if(wrap64 ((l0.length:Int)+(l1.length:Int)):Int).toNat≤35184372088832 then(ak.l0 k l0 l1 (List.replicate (wrap64 ((l0.length:Int)+(l1.length:Int)):Int).toNat 0) 0)else(none))else(none)
theorem ak.cO:∀k,(∀y0 y1 y2 y3,bT (ak.l0 k y0 y1 y2 y3) (ak.l0 (k+1) y0 y1 y2 y3))∧(∀y0 y1 y2 y3 y4 y5,bT (ak.l1 k y0 y1 y2 y3 y4 y5) (ak.l1 (k+1) y0 y1 y2 y3 y4 y5))∧(∀y0 y1 y2 y3 y4 y5,bT (ak.l2 k y0 y1 y2 y3 y4 y5) (ak.l2 (k+1) y0 y1 y2 y3 y4 y5))
 |0=>⟨fun _ _ _ _ r h=>by simp[ak.l0]at h,fun _ _ _ _ _ _ r h=>by simp[ak.l1]at h,fun _ _ _ _ _ _ r h=>by simp[ak.l2]at h⟩
 |k+1=>by
  obtain⟨gU,ih1,ih2⟩:=ak.cO k;refine⟨?_,?_,?_⟩
  ·intro y0 y1 y2 y3;unfold ak.l0
   repeat' first
   |exact gU _ _ _ _
   |exact ih1 _ _ _ _ _ _
   |exact ih2 _ _ _ _ _ _
   |(with_reducible exact aG.mono _ _)
   |exact bT.refl _
   |exact bT.none _
   |refine bT.ite ?_ ?_
   |refine bT.bind ?_ (fun _=>?_)
   |exact aG.mono _ _
  ·intro y0 y1 y2 y3 y4 y5;unfold ak.l1
   repeat' first
   |exact gU _ _ _ _
   |exact ih1 _ _ _ _ _ _
   |exact ih2 _ _ _ _ _ _
   |(with_reducible exact aG.mono _ _)
   |exact bT.refl _
   |exact bT.none _
   |refine bT.ite ?_ ?_
   |refine bT.bind ?_ (fun _=>?_)
   |exact aG.mono _ _
  ·intro y0 y1 y2 y3 y4 y5;unfold ak.l2
   repeat' first
   |exact gU _ _ _ _
   |exact ih1 _ _ _ _ _ _
   |exact ih2 _ _ _ _ _ _
   |(with_reducible exact aG.mono _ _)
   |exact bT.refl _
   |exact bT.none _
   |refine bT.ite ?_ ?_
   |refine bT.bind ?_ (fun _=>?_)
   |exact aG.mono _ _
theorem ak.mono:∀a0 a1 k,bT (ak.f k a0 a1) (ak.f (k+1) a0 a1):=by
 intro a0 a1 k;obtain⟨gU,ih1,ih2⟩:=ak.cO k;unfold ak.f
 repeat' first
   |exact gU _ _ _ _
   |exact ih1 _ _ _ _ _ _
   |exact ih2 _ _ _ _ _ _
   |(with_reducible exact aG.mono _ _)
   |exact bT.refl _
   |exact bT.none _
   |refine bT.ite ?_ ?_
   |refine bT.bind ?_ (fun _=>?_)
   |exact aG.mono _ _
theorem ak.calls (k:Nat)(A0:Option Addr)(c0:Nat)(l0:List Int)(A1:Option Addr)(c1:Nat)(l1:List Int)(r:List Int)(w:World)(hr0:Kd.C (Kd.int .i64) w A0 l0.length l0)(hc0:l0.length≤c0)(hr1:Kd.C (Kd.int .i64) w A1 l1.length l1)(hc1:l1.length≤c1)(h:ak.f k l0 l1=some r):
  Calls Tryz.prog 217 #[.slice A0 l0.length c0,.slice A1 l1.length c1] w fun e w'=>∃BH:Value,e= .returned (BH)∧Kd.V (Kd.int .i64) 3 w' w.heap.size (fun k_=>(w.heap.size≤k_)) BH r∧Below w.heap.size w w':=by
 have HR0:=zM hr0;have Hw:=zM hc0;clear hr0 hc0;have HR1:=zM hr1;have MV:=zM hc1;clear hr1 hc1;have HB:=zM (Below.refl w.heap.size w);have H:(if 0≤(wrap64 ((l0.length:Int)+(l1.length:Int)))then(if(wrap64 ((l0.length:Int)+(l1.length:Int)):Int).toNat≤35184372088832 then(ak.l0 k l0 l1 (List.replicate (wrap64 ((l0.length:Int)+(l1.length:Int)):Int).toNat 0) 0)else(none))else(none))=some r:=h;clear h;obtain⟨gX,kz⟩:=zI (wrap64 ((l0.length:Int)+(l1.length:Int)));replace H:(if 0≤(gX)then(if(gX:Int).toNat≤35184372088832 then(ak.l0 k l0 l1 (List.replicate (gX:Int).toNat 0) 0)else(none))else(none))=some r:=by first|(rw[kz]at H;exact H)|(simp only[kz]at H⊢;exact H)
 have Gv:(IntKind.i64.wrap ((l0.length:Int)+(l1.length:Int)))=gX:=(dL _).trans kz
 by_cases c4:0≤(gX)
 ·rw[if_pos c4]at H;have ig:=eq_true c4;have oQ:=zT c4;clear c4
  by_cases c5:(gX:Int).toNat≤35184372088832
  ·rw[if_pos c5]at H;have jJ:=eq_true c5;have qh:=zT c5;clear c5;obtain⟨ahP,WH⟩:∃y_:List Int,y_=(List.replicate (gX:Int).toNat 0):=⟨_,rfl⟩;replace H:(ak.l0 k l0 l1 ahP 0)=some r:=zY WH H;have FO:=zM WH;clear WH;have H':=zM H;clear H;go_enter Tryz.func217,Tryz.ntmps217;go_wp2_with (first|((with_reducible refine jq (N:=15) rfl ?_);refine Kd.xm (Kd.int .i64) _ 3 rfl (N:=15) rfl 62 _ _ rfl gX rfl rfl Tryz.underlying62 (.int .i64 0) 8 info3 rfl (by decide) (by omega) 0 (ok:=fun _=>True) (mO:=fun _=>True) rfl (fun _ hk=>hk) trivial (zD) (Nat.le_trans (Nat.mul_le_mul_right _ (zD:gX.toNat≤35184372088832)) (by omega)) (Below.refl _ _) (Nat.le_refl _) ?_;intro Yq w6 D8 hb D7 kG;clear D7 kG;(first|rw[←FO.out]at D8|(simp only[Int.reduceToNat]at D8;rw[←FO.out]at D8));have dI:=zM (Kd.iV (Kd.NK (M:=fun k_=>(w.heap.size≤k_)) D8 (bP (by repeat(first|(with_reducible first|exact HB.out|apply ag|apply ai|apply aC)|exact HB.out))) (fun k_ h_=>h_)) (bP (by repeat(first|(with_reducible first|exact HB.out|apply ag|apply ai|apply aC)|exact HB.out))));have dG:=zM (eU (by repeat(first|(with_reducible first|exact HB.out|apply ag|apply ai|apply aC)|exact HB.out)) hb);clear HB;have Ui:=dI;have HB:=dG;clear dI dG;clear hb D8))
   repeat(go_quiet (first|((with_reducible refine jq (N:=15) rfl ?_);refine Kd.xm (Kd.int .i64) _ 3 rfl (N:=15) rfl 62 _ _ rfl gX rfl rfl Tryz.underlying62 (.int .i64 0) 8 info3 rfl (by decide) (by omega) 0 (ok:=fun _=>True) (mO:=fun _=>True) rfl (fun _ hk=>hk) trivial (zD) (Nat.le_trans (Nat.mul_le_mul_right _ (zD:gX.toNat≤35184372088832)) (by omega)) (Below.refl _ _) (Nat.le_refl _) ?_;intro Yq w6 D8 hb D7 kG;clear D7 kG;(first|rw[←FO.out]at D8|(simp only[Int.reduceToNat]at D8;rw[←FO.out]at D8));have dI:=zM (Kd.iV (Kd.NK (M:=fun k_=>(w.heap.size≤k_)) D8 (bP (by repeat(first|(with_reducible first|exact HB.out|apply ag|apply ai|apply aC)|exact HB.out))) (fun k_ h_=>h_)) (bP (by repeat(first|(with_reducible first|exact HB.out|apply ag|apply ai|apply aC)|exact HB.out))));have dG:=zM (eU (by repeat(first|(with_reducible first|exact HB.out|apply ag|apply ai|apply aC)|exact HB.out)) hb);clear HB;have Ui:=dI;have HB:=dG;clear dI dG;clear hb D8));try go_wp2_with (first|((with_reducible refine jq (N:=15) rfl ?_);refine Kd.xm (Kd.int .i64) _ 3 rfl (N:=15) rfl 62 _ _ rfl gX rfl rfl Tryz.underlying62 (.int .i64 0) 8 info3 rfl (by decide) (by omega) 0 (ok:=fun _=>True) (mO:=fun _=>True) rfl (fun _ hk=>hk) trivial (zD) (Nat.le_trans (Nat.mul_le_mul_right _ (zD:gX.toNat≤35184372088832)) (by omega)) (Below.refl _ _) (Nat.le_refl _) ?_;intro Yq w6 D8 hb D7 kG;clear D7 kG;(first|rw[←FO.out]at D8|(simp only[Int.reduceToNat]at D8;rw[←FO.out]at D8));have dI:=zM (Kd.iV (Kd.NK (M:=fun k_=>(w.heap.size≤k_)) D8 (bP (by repeat(first|(with_reducible first|exact HB.out|apply ag|apply ai|apply aC)|exact HB.out))) (fun k_ h_=>h_)) (bP (by repeat(first|(with_reducible first|exact HB.out|apply ag|apply ai|apply aC)|exact HB.out))));have dG:=zM (eU (by repeat(first|(with_reducible first|exact HB.out|apply ag|apply ai|apply aC)|exact HB.out)) hb);clear HB;have Ui:=dI;have HB:=dG;clear dI dG;clear hb D8)))
   go_loopg [6] k (fun kq v6 w'=>∃(aV:List Int) (iF:Int),v6= .int .i64 iF∧Aside0 (ak.l0 kq l0 l1 aV iF=some r)∧Aside0 (kq≤k)∧Aside0 (Kd.R (Kd.int .i64) 3 w' w.heap.size (fun k_=>(w.heap.size≤k_)) Yq aV)∧Aside0 (Below w.heap.size w w'))
   case atStart=>exact⟨(ahP),(0),zR,H',⟨Nat.le_refl _⟩,⟨by(with_reducible repeat(first|apply Kd.dC|apply Kd.dD|apply Kd.dR));exact Kd.gI Ui.out (fun _ hk=>hk.1)⟩,⟨zB⟩⟩
   case round=>
    clear H';try clear c1
    try clear c2
    try clear p2
    try clear c4
    try clear ig
    try clear oQ
    try clear c5
    try clear jJ
    try clear qh
    try clear p6
    obtain⟨aV,iF,rfl,HA,fM,dY,HB⟩:=hrel;cases gk with
    |zero=>exact absurd HA.out (by simp[ak.l0])
    |succ k1=>
     have H:=HA.out;clear HA;simp only[ak.l0]at H
     by_cases c8:iF<(l0.length:Int)
     ·rw[if_pos c8]at H;have nP:=zT c8;clear c8;have H':=zM H;clear H;go_wp2
      repeat(go_quiet (fail);try go_wp2)
      go_loopg [7,8] k1 (fun kq v7 v8 w'=>∃(kK:List Int) (wE:Int) (nT:Int),v7= .int .i64 wE∧v8= .int .i64 nT∧Aside0 (ak.l1 kq l0 l1 kK iF wE nT=some r)∧Aside0 (kq≤k1)∧Aside0 (Kd.R (Kd.int .i64) 3 w' w.heap.size (fun k_=>(w.heap.size≤k_)) Yq kK)∧Aside0 (Below w.heap.size w w'))
      case atStart=>exact⟨(aV),(0),(0),zR,zR,H',⟨Nat.le_refl _⟩,⟨zO dY.out⟩,⟨zB⟩⟩
      case round=>
       clear H';try clear c1
       try clear c2
       try clear p2
       try clear c4
       try clear ig
       try clear oQ
       try clear c5
       try clear jJ
       try clear qh
       try clear p6
       try clear c8
       try clear nP
       try clear p2
       try clear p6
       obtain⟨kK,wE,nT,rfl,rfl,HA,BK,dY,HB⟩:=hrel;cases gk with
       |zero=>exact absurd HA.out (by simp[ak.l1])
       |succ k2=>
        have H:=HA.out;clear HA;simp only[ak.l1]at H
        by_cases c9:nT<(l1.length:Int)
        ·rw[if_pos c9]at H;have qL:=zT c9;clear c9;obtain⟨iq,kY⟩:=zI (wrap64 (iF+nT));replace H:(if 0≤(iq)then(if(iq)<(kK.length:Int)then(if 0≤iF then(if iF<(l0.length:Int)then(if 0≤nT then(ak.l1 k2 l0 l1 (kK.set ((iq):Int).toNat (Int.tmod (wrap64 ((wrap64 (wE+(rd kK (iq))))+(wrap64 ((rd l0 iF)*(rd l1 nT))))) 10000)) iF (wrap64 (Int.tdiv (wrap64 ((wrap64 (wE+(rd kK (iq))))+(wrap64 ((rd l0 iF)*(rd l1 nT))))) 10000)) (wrap64 (nT+1)))else(none))else(none))else(none))else(none))else(none))=some r:=by first|(rw[kY]at H;exact H)|(simp only[kY]at H⊢;exact H)
         have alL:(IntKind.i64.wrap (iF+nT))=iq:=(dL _).trans kY
         by_cases c11:0≤(iq)
         ·rw[if_pos c11]at H;have lL:=zT c11;clear c11
          by_cases c12:(iq)<(kK.length:Int)
          ·rw[if_pos c12]at H;have rf:=zT c12;clear c12
           by_cases c13:0≤iF
           ·rw[if_pos c13]at H;have oK:=zT c13;clear c13
            by_cases c14:iF<(l0.length:Int)
            ·rw[if_pos c14]at H;have rq:=zT c14;clear c14
             by_cases c15:0≤nT
             ·rw[if_pos c15]at H;have Bc:=zT c15;clear c15;obtain⟨YB,WI⟩:∃y_:List Int,y_=(kK.set ((iq):Int).toNat (Int.tmod (wrap64 ((wrap64 (wE+(rd kK (iq))))+(wrap64 ((rd l0 iF)*(rd l1 nT))))) 10000)):=⟨_,rfl⟩;replace H:(ak.l1 k2 l0 l1 YB iF (wrap64 (Int.tdiv (wrap64 ((wrap64 (wE+(rd kK (iq))))+(wrap64 ((rd l0 iF)*(rd l1 nT))))) 10000)) (wrap64 (nT+1)))=some r:=zY WI H;have Uz:=zM WI;clear WI;have H':=zM H;clear H;obtain⟨aeJ,U8,acv⟩:=Kd.fO dY.out;subst acv;have aa9:0≤((iq):Int):=zD;have aaj:(iq)<(kK.length:Int):=zD;obtain⟨aos,akY,Qv⟩:=Kd.dM (Kd.dA dY.out).2.2 (iq) aa9 aaj;cases akY;replace aa9:=eq_true aa9;replace aaj:=eq_true aaj;have aab:0≤(iF:Int):=zD;have aak:iF<(l0.length:Int):=zD;obtain⟨aot,e219,CX⟩:=Kd.dM HR0.out iF aab aak;cases e219;replace CX:=(HB.out.cell (World.block_lt_of_cell? w _ CX)).trans CX;replace aab:=eq_true aab;replace aak:=eq_true aak;have aac:0≤(nT:Int):=zD;have aal:nT<(l1.length:Int):=zD;obtain⟨aou,e220,CY⟩:=Kd.dM HR1.out nT aac aal;cases e220;replace CY:=(HB.out.cell (World.block_lt_of_cell? w _ CY)).trans CY;replace aac:=eq_true aac;replace aal:=eq_true aal;have p16:0≤((iq):Int):=zD;have q16:((iq):Int)<((kK.length:Int):Int):=zD;obtain⟨yI,U7,EU,KF,VY,agt,JC⟩:=Kd.jf dY.out (by omega)
              (first|cases EU|(injection EU with ea_ en_ ec_;(first|subst ea_|(injection ea_ with ea_;subst ea_));subst ec_;clear en_))
              have Ho:=zM KF;have aeN:=zM JC;clear KF VY JC;try simp only[add_plain]at Qv
              obtain⟨oH,sG⟩:=Kd.fE 0 dY.out ((iq):Int) p16 q16;replace p16:=eq_true p16;replace q16:=eq_true q16;have BL:=Kd.fJ dY.out ((iq):Int) (Int.tmod (wrap64 ((wrap64 (wE+(rd kK (iq))))+(wrap64 ((rd l0 iF)*(rd l1 nT))))) 10000);go_wp2_with (first|((with_reducible refine dN (t:=3) (p:=52) rfl ?_);(try (rw[fU wr];generalize jc:World.drewN wr _=wr;have dI:=zM (Kd.tV jc dY.out);have dG:=zM (iC jc HB.out);have oH:=zJ jc oH;have sG:=zV jc sG;clear jc dY HB;have dY:=dI;have HB:=dG;clear dI dG;(try (have BL:=Kd.fJ dY.out ((iq):Int) (Int.tmod (wrap64 ((wrap64 (wE+(rd kK (iq))))+(wrap64 ((rd l0 iF)*(rd l1 nT))))) 10000)))));refine dE (t:=3) (p:=52) (v:=?vo_w19) (w1:=(wr.setCell ⟨yI,((iq):Int).toNat,none⟩ (.int .i64 (Int.tmod (wrap64 ((wrap64 (wE+(rd kK (iq))))+(wrap64 ((rd l0 iF)*(rd l1 nT))))) 10000)))) ?hg ?ho ?hn ?hr ?_;(case ho=>rfl);(case hg=>rfl);(case hn=>rfl);(case hr=>first|(go_simp;done)|(go_simp;rfl));intro PR hw;have hg:wr.grownBy PR (some yI):=(by rw[hw];exact BL.2);have je:Kd.R (Kd.int .i64) 3 PR w.heap.size (fun k_=>(w.heap.size≤k_)) (.slice (some ⟨yI,0,none⟩) kK.length U8) YB:=(by rw[hw,Uz.out];exact BL.1);clear BL;have dI:=zM (je);have dG:=zM ((by rw[hw];exact dm (HB.out) Ho.out:Below w.heap.size w PR));clear dY;clear HB;have dY:=dI;have HB:=dG;clear dI dG;clear hg hw je))
              repeat(go_quiet (first|((with_reducible refine dN (t:=3) (p:=52) rfl ?_);(try (rw[fU wr];generalize jc:World.drewN wr _=wr;have dI:=zM (Kd.tV jc dY.out);have dG:=zM (iC jc HB.out);have oH:=zJ jc oH;have sG:=zV jc sG;clear jc dY HB;have dY:=dI;have HB:=dG;clear dI dG;(try (have BL:=Kd.fJ dY.out ((iq):Int) (Int.tmod (wrap64 ((wrap64 (wE+(rd kK (iq))))+(wrap64 ((rd l0 iF)*(rd l1 nT))))) 10000)))));refine dE (t:=3) (p:=52) (v:=?vo_w19) (w1:=(wr.setCell ⟨yI,((iq):Int).toNat,none⟩ (.int .i64 (Int.tmod (wrap64 ((wrap64 (wE+(rd kK (iq))))+(wrap64 ((rd l0 iF)*(rd l1 nT))))) 10000)))) ?hg ?ho ?hn ?hr ?_;(case ho=>rfl);(case hg=>rfl);(case hn=>rfl);(case hr=>first|(go_simp;done)|(go_simp;rfl));intro PR hw;have hg:wr.grownBy PR (some yI):=(by rw[hw];exact BL.2);have je:Kd.R (Kd.int .i64) 3 PR w.heap.size (fun k_=>(w.heap.size≤k_)) (.slice (some ⟨yI,0,none⟩) kK.length U8) YB:=(by rw[hw,Uz.out];exact BL.1);clear BL;have dI:=zM (je);have dG:=zM ((by rw[hw];exact dm (HB.out) Ho.out:Below w.heap.size w PR));clear dY;clear HB;have dY:=dI;have HB:=dG;clear dI dG;clear hg hw je));try go_wp2_with (first|((with_reducible refine dN (t:=3) (p:=52) rfl ?_);(try (rw[fU wr];generalize jc:World.drewN wr _=wr;have dI:=zM (Kd.tV jc dY.out);have dG:=zM (iC jc HB.out);have oH:=zJ jc oH;have sG:=zV jc sG;clear jc dY HB;have dY:=dI;have HB:=dG;clear dI dG;(try (have BL:=Kd.fJ dY.out ((iq):Int) (Int.tmod (wrap64 ((wrap64 (wE+(rd kK (iq))))+(wrap64 ((rd l0 iF)*(rd l1 nT))))) 10000)))));refine dE (t:=3) (p:=52) (v:=?vo_w19) (w1:=(wr.setCell ⟨yI,((iq):Int).toNat,none⟩ (.int .i64 (Int.tmod (wrap64 ((wrap64 (wE+(rd kK (iq))))+(wrap64 ((rd l0 iF)*(rd l1 nT))))) 10000)))) ?hg ?ho ?hn ?hr ?_;(case ho=>rfl);(case hg=>rfl);(case hn=>rfl);(case hr=>first|(go_simp;done)|(go_simp;rfl));intro PR hw;have hg:wr.grownBy PR (some yI):=(by rw[hw];exact BL.2);have je:Kd.R (Kd.int .i64) 3 PR w.heap.size (fun k_=>(w.heap.size≤k_)) (.slice (some ⟨yI,0,none⟩) kK.length U8) YB:=(by rw[hw,Uz.out];exact BL.1);clear BL;have dI:=zM (je);have dG:=zM ((by rw[hw];exact dm (HB.out) Ho.out:Below w.heap.size w PR));clear dY;clear HB;have dY:=dI;have HB:=dG;clear dI dG;clear hg hw je)))
              go_roundg k2
              case measure=>have:=fM.out;have:=BK.out;omega
              case rel=>exact⟨(YB),(wrap64 (Int.tdiv (wrap64 ((wrap64 (wE+(rd kK (iq))))+(wrap64 ((rd l0 iF)*(rd l1 nT))))) 10000)),(wrap64 (nT+1)),(by first|rfl|(simp;done)|(simp only[←kY]<;>(first|rfl|simp))|(simp[*];done)),zR,H',⟨by have:=fM.out;have:=BK.out;omega⟩,⟨zO dY.out⟩,⟨zB⟩⟩
             ·rw[if_neg c15]at H;exact absurd H (by simp)
            ·rw[if_neg c14]at H;exact absurd H (by simp)
           ·rw[if_neg c13]at H;exact absurd H (by simp)
          ·rw[if_neg c12]at H;exact absurd H (by simp)
         ·rw[if_neg c11]at H;exact absurd H (by simp)
        ·rw[if_neg c9]at H;have qL:=zF c9;clear c9;have H':=zM H;clear H;go_wp2
         repeat(go_quiet (fail);try go_wp2)
         go_loopg [7,9] k2 (fun kq v7 v9 w'=>∃(qV:List Int) (gB:Int) (lJ:Int),v7= .int .i64 gB∧v9= .int .i64 lJ∧Aside0 (ak.l2 kq l0 l1 qV iF gB lJ=some r)∧Aside0 (kq≤k2)∧Aside0 (Kd.R (Kd.int .i64) 3 w' w.heap.size (fun k_=>(w.heap.size≤k_)) Yq qV)∧Aside0 (Below w.heap.size w w'))
         case atStart=>exact⟨(kK),(wE),(wrap64 (iF+(l1.length:Int))),zR,zR,H',⟨Nat.le_refl _⟩,⟨zO dY.out⟩,⟨zB⟩⟩
         case round=>
          clear H';try clear c1
          try clear p1
          try clear q1
          try clear hx1
          try clear c2
          try clear p2
          try clear q2
          try clear hx2
          try clear c4
          try clear ig
          try clear oQ
          try clear c5
          try clear jJ
          try clear qh
          try clear p6
          try clear c8
          try clear nP
          try clear c9
          try clear qL
          try clear c11
          try clear lL
          try clear c12
          try clear rf
          try clear c13
          try clear oK
          try clear c14
          try clear rq
          try clear c15
          try clear Bc
          try clear p16
          try clear q16
          try clear hx16
          try clear hf16
          try clear oH
          try clear Qv
          try clear CX
          try clear CY
          try clear p16
          try clear p2
          try clear aa9
          try clear aab
          try clear aac
          try clear p6
          try clear q16
          try clear aaj
          try clear aak
          try clear aal
          obtain⟨qV,gB,lJ,rfl,rfl,HA,yw,dY,HB⟩:=hrel;cases gk with
          |zero=>exact absurd HA.out (by simp[ak.l2])
          |succ k3=>
           have H:=HA.out;clear HA;simp only[ak.l2]at H
           by_cases c20:gB>0
           ·rw[if_pos c20]at H;have Qa:=zT c20;clear c20
            by_cases c21:0≤lJ
            ·rw[if_pos c21]at H;have agr:=zT c21;clear c21
             by_cases UX:lJ<(qV.length:Int)
             ·rw[if_pos UX]at H;have ab4:=zT UX;clear UX;obtain⟨YC,WJ⟩:∃y_:List Int,y_=(qV.set (lJ:Int).toNat (Int.tmod (wrap64 (gB+(rd qV lJ))) 10000)):=⟨_,rfl⟩;replace H:(ak.l2 k3 l0 l1 YC iF (wrap64 (Int.tdiv (wrap64 (gB+(rd qV lJ))) 10000)) (wrap64 (lJ+1)))=some r:=zY WJ H;have UA:=zM WJ;clear WJ;have H':=zM H;clear H;obtain⟨ajw,U9,acx⟩:=Kd.fO dY.out;subst acx;have adK:0≤(lJ:Int):=zD;have adY:lJ<(qV.length:Int):=zD;obtain⟨aov,e222,ZN⟩:=Kd.dM (Kd.dA dY.out).2.2 lJ adK adY;cases e222;replace adK:=eq_true adK;replace adY:=eq_true adY;have YP:0≤(lJ:Int):=zD;have q23:(lJ:Int)<((qV.length:Int):Int):=zD;obtain⟨xE,akM,Vp,VX,acD,akK,Uc⟩:=Kd.jf dY.out (by omega)
              (first|cases Vp|(injection Vp with ea_ en_ ec_;(first|subst ea_|(injection ea_ with ea_;subst ea_));subst ec_;clear en_))
              have TY:=zM VX;have ajK:=zM Uc;clear VX acD Uc;try simp only[add_plain]at ZN
              obtain⟨xH,xG⟩:=Kd.fE 0 dY.out (lJ:Int) YP q23;replace YP:=eq_true YP;replace q23:=eq_true q23;have vY:=Kd.fJ dY.out (lJ:Int) (Int.tmod (wrap64 (gB+(rd qV lJ))) 10000);go_wp2_with (first|((with_reducible refine dN (t:=3) (p:=73) rfl ?_);(try (rw[fU wr];generalize jc:World.drewN wr _=wr;have dI:=zM (Kd.tV jc dY.out);have dG:=zM (iC jc HB.out);have xH:=zJ jc xH;have xG:=zV jc xG;clear jc dY HB;have dY:=dI;have HB:=dG;clear dI dG;(try (have vY:=Kd.fJ dY.out (lJ:Int) (Int.tmod (wrap64 (gB+(rd qV lJ))) 10000)))));refine dE (t:=3) (p:=73) (v:=?vo_w26) (w1:=(wr.setCell ⟨xE,(lJ:Int).toNat,none⟩ (.int .i64 (Int.tmod (wrap64 (gB+(rd qV lJ))) 10000)))) ?hg ?ho ?hn ?hr ?_;(case ho=>rfl);(case hg=>rfl);(case hn=>rfl);(case hr=>first|(go_simp;done)|(go_simp;rfl));intro PT hw;have hg:wr.grownBy PT (some xE):=(by rw[hw];exact vY.2);have je:Kd.R (Kd.int .i64) 3 PT w.heap.size (fun k_=>(w.heap.size≤k_)) (.slice (some ⟨xE,0,none⟩) qV.length U9) YC:=(by rw[hw,UA.out];exact vY.1);clear vY;have dI:=zM (je);have dG:=zM ((by rw[hw];exact dm (HB.out) TY.out:Below w.heap.size w PT));clear dY;clear HB;have dY:=dI;have HB:=dG;clear dI dG;clear hg hw je))
              repeat(go_quiet (first|((with_reducible refine dN (t:=3) (p:=73) rfl ?_);(try (rw[fU wr];generalize jc:World.drewN wr _=wr;have dI:=zM (Kd.tV jc dY.out);have dG:=zM (iC jc HB.out);have xH:=zJ jc xH;have xG:=zV jc xG;clear jc dY HB;have dY:=dI;have HB:=dG;clear dI dG;(try (have vY:=Kd.fJ dY.out (lJ:Int) (Int.tmod (wrap64 (gB+(rd qV lJ))) 10000)))));refine dE (t:=3) (p:=73) (v:=?vo_w26) (w1:=(wr.setCell ⟨xE,(lJ:Int).toNat,none⟩ (.int .i64 (Int.tmod (wrap64 (gB+(rd qV lJ))) 10000)))) ?hg ?ho ?hn ?hr ?_;(case ho=>rfl);(case hg=>rfl);(case hn=>rfl);(case hr=>first|(go_simp;done)|(go_simp;rfl));intro PT hw;have hg:wr.grownBy PT (some xE):=(by rw[hw];exact vY.2);have je:Kd.R (Kd.int .i64) 3 PT w.heap.size (fun k_=>(w.heap.size≤k_)) (.slice (some ⟨xE,0,none⟩) qV.length U9) YC:=(by rw[hw,UA.out];exact vY.1);clear vY;have dI:=zM (je);have dG:=zM ((by rw[hw];exact dm (HB.out) TY.out:Below w.heap.size w PT));clear dY;clear HB;have dY:=dI;have HB:=dG;clear dI dG;clear hg hw je));try go_wp2_with (first|((with_reducible refine dN (t:=3) (p:=73) rfl ?_);(try (rw[fU wr];generalize jc:World.drewN wr _=wr;have dI:=zM (Kd.tV jc dY.out);have dG:=zM (iC jc HB.out);have xH:=zJ jc xH;have xG:=zV jc xG;clear jc dY HB;have dY:=dI;have HB:=dG;clear dI dG;(try (have vY:=Kd.fJ dY.out (lJ:Int) (Int.tmod (wrap64 (gB+(rd qV lJ))) 10000)))));refine dE (t:=3) (p:=73) (v:=?vo_w26) (w1:=(wr.setCell ⟨xE,(lJ:Int).toNat,none⟩ (.int .i64 (Int.tmod (wrap64 (gB+(rd qV lJ))) 10000)))) ?hg ?ho ?hn ?hr ?_;(case ho=>rfl);(case hg=>rfl);(case hn=>rfl);(case hr=>first|(go_simp;done)|(go_simp;rfl));intro PT hw;have hg:wr.grownBy PT (some xE):=(by rw[hw];exact vY.2);have je:Kd.R (Kd.int .i64) 3 PT w.heap.size (fun k_=>(w.heap.size≤k_)) (.slice (some ⟨xE,0,none⟩) qV.length U9) YC:=(by rw[hw,UA.out];exact vY.1);clear vY;have dI:=zM (je);have dG:=zM ((by rw[hw];exact dm (HB.out) TY.out:Below w.heap.size w PT));clear dY;clear HB;have dY:=dI;have HB:=dG;clear dI dG;clear hg hw je)))
              go_roundg k3
              case measure=>have:=fM.out;have:=BK.out;have:=yw.out;omega
              case rel=>exact⟨(YC),(wrap64 (Int.tdiv (wrap64 (gB+(rd qV lJ))) 10000)),(wrap64 (lJ+1)),zR,zR,H',⟨by have:=fM.out;have:=BK.out;have:=yw.out;omega⟩,⟨zO dY.out⟩,⟨zB⟩⟩
             ·rw[if_neg UX]at H;exact absurd H (by simp)
            ·rw[if_neg c21]at H;exact absurd H (by simp)
           ·rw[if_neg c20]at H;have Qa:=zF c20;clear c20;have H':=zM H;clear H;go_wp2
            repeat(go_quiet (fail);try go_wp2)
            go_roundg k3
            case measure=>have:=fM.out;have:=BK.out;have:=yw.out;omega
            case rel=>exact⟨(qV),(wrap64 (iF+1)),zR,H',⟨by have:=fM.out;have:=BK.out;have:=yw.out;omega⟩,⟨zO dY.out⟩,⟨zB⟩⟩
     ·rw[if_neg c8]at H;have nP:=zF c8;clear c8;replace H:=Option.bind_eq_some_iff.mp H;obtain⟨t215,aeH,H⟩:=H;replace H:(some t215)=some r:=H;have A27:=zM aeH;clear aeH;obtain rfl:=Option.some.inj H;obtain⟨YS,Va,acy⟩:=Kd.fO dY.out;subst acy;go_wp2_with (first|(go_at_call 178;(with_reducible refine(aG.calls k1 (fun k_=>some k_=(.slice YS aV.length Va:Value).ownBlock) _ _ aV t215 _ ?side1 A27.out).mono ?_);(case side1=>exact Kd.R_V (Kd.uU rfl (dY.out)));rintro e w29 ⟨ahL,rfl,ho0,hb⟩;have dI:=zM (Kd.dK (by(with_reducible repeat(first|apply Kd.dC|apply Kd.dD|apply Kd.dR));exact dY.out) hb);have dG:=zM (Kd.qp (Kd.qK (ok':=fun k_=>(w.heap.size≤k_)) ho0 (fun k_ Ot=>Or.elim Ot (fun hs_=>((dY.out).1 k_ hs_.symm)) (fun Wi=>(Nat.le_trans (bP (by repeat(first|(with_reducible first|exact HB.out|apply ag|apply ai|apply aC)|exact HB.out))) Wi)))) (bP (by repeat(first|(with_reducible first|exact HB.out|apply ag|apply ai|apply aC)|exact HB.out))));have fQ:=zM (eU (by repeat(first|(with_reducible first|exact HB.out|apply ag|apply ai|apply aC)|exact HB.out)) hb);clear dY;clear HB;have dY:=dI;have Uj:=dG;have HB:=fQ;clear dI dG fQ;(try clear hb);(try clear hb2);(try clear hk);(try clear hi);(try clear ho0)))
      repeat(go_quiet (first|(go_at_call 178;(with_reducible refine(aG.calls k1 (fun k_=>some k_=(.slice YS aV.length Va:Value).ownBlock) _ _ aV t215 _ ?side1 A27.out).mono ?_);(case side1=>exact Kd.R_V (Kd.uU rfl (dY.out)));rintro e w29 ⟨ahL,rfl,ho0,hb⟩;have dI:=zM (Kd.dK (by(with_reducible repeat(first|apply Kd.dC|apply Kd.dD|apply Kd.dR));exact dY.out) hb);have dG:=zM (Kd.qp (Kd.qK (ok':=fun k_=>(w.heap.size≤k_)) ho0 (fun k_ Ot=>Or.elim Ot (fun hs_=>((dY.out).1 k_ hs_.symm)) (fun Wi=>(Nat.le_trans (bP (by repeat(first|(with_reducible first|exact HB.out|apply ag|apply ai|apply aC)|exact HB.out))) Wi)))) (bP (by repeat(first|(with_reducible first|exact HB.out|apply ag|apply ai|apply aC)|exact HB.out))));have fQ:=zM (eU (by repeat(first|(with_reducible first|exact HB.out|apply ag|apply ai|apply aC)|exact HB.out)) hb);clear dY;clear HB;have dY:=dI;have Uj:=dG;have HB:=fQ;clear dI dG fQ;(try clear hb);(try clear hb2);(try clear hk);(try clear hi);(try clear ho0)));try go_wp2_with (first|(go_at_call 178;(with_reducible refine(aG.calls k1 (fun k_=>some k_=(.slice YS aV.length Va:Value).ownBlock) _ _ aV t215 _ ?side1 A27.out).mono ?_);(case side1=>exact Kd.R_V (Kd.uU rfl (dY.out)));rintro e w29 ⟨ahL,rfl,ho0,hb⟩;have dI:=zM (Kd.dK (by(with_reducible repeat(first|apply Kd.dC|apply Kd.dD|apply Kd.dR));exact dY.out) hb);have dG:=zM (Kd.qp (Kd.qK (ok':=fun k_=>(w.heap.size≤k_)) ho0 (fun k_ Ot=>Or.elim Ot (fun hs_=>((dY.out).1 k_ hs_.symm)) (fun Wi=>(Nat.le_trans (bP (by repeat(first|(with_reducible first|exact HB.out|apply ag|apply ai|apply aC)|exact HB.out))) Wi)))) (bP (by repeat(first|(with_reducible first|exact HB.out|apply ag|apply ai|apply aC)|exact HB.out))));have fQ:=zM (eU (by repeat(first|(with_reducible first|exact HB.out|apply ag|apply ai|apply aC)|exact HB.out)) hb);clear dY;clear HB;have dY:=dI;have Uj:=dG;have HB:=fQ;clear dI dG fQ;(try clear hb);(try clear hb2);(try clear hk);(try clear hi);(try clear ho0))))
      go_ret;exact⟨_,by first|rfl|(simp[bg,bn]<;>rfl)|(simp only[←kz];first|rfl|(simp[bg,bn]<;>rfl))|(simp[*,bg,bn]<;>rfl),by(with_reducible repeat(first|apply Kd.lq|apply Kd.lu|apply Kd.nX));exact Uj.out,zB⟩
  ·rw[if_neg c5]at H;exact absurd H (by simp)
 ·rw[if_neg c4]at H;exact absurd H (by simp)
def aY.l0:Nat→List Int→List Int→Int→Int→Int→Option (Int)
 |0,_,_,_,_,_=>none
 |k+1,x0,x1,x2,x7,x8=>if x7<x8 then((ak.f k x1 (([wrap64 (Int.tdiv (wrap64 ((wrap64 (x7+x8))+1)) 2)]:List Int))).bind fun t227=>(if 0≤x2 then(if x2≤(x0.length:Int)then((aG.f k (x0.drop (x2:Int).toNat)).bind fun t231=>((aZ.f k t231 t227).bind fun t234=>(if t234=true then(aY.l0 k x0 x1 x2 x7 (wrap64 ((wrap64 (Int.tdiv (wrap64 ((wrap64 (x7+x8))+1)) 2))- 1)))else(aY.l0 k x0 x1 x2 (wrap64 (Int.tdiv (wrap64 ((wrap64 (x7+x8))+1)) 2)) x8))))else(none))else(none)))else(some x7)
def aY.f (k:Nat)(l0:List Int)(l1:List Int)(a2:Int):Option (Int):=aY.l0 k l0 l1 a2 0 9999
theorem aY.cO:∀k,(∀y0 y1 y2 y3 y4,bT (aY.l0 k y0 y1 y2 y3 y4) (aY.l0 (k+1) y0 y1 y2 y3 y4))
 |0=>fun _ _ _ _ _ r h=>by simp[aY.l0]at h
 |k+1=>by
  have gU:=aY.cO k
  ·intro y0 y1 y2 y3 y4;unfold aY.l0
   repeat' first
   |exact gU _ _ _ _ _
   |(with_reducible exact aZ.mono _ _ _)
   |(with_reducible exact ak.mono _ _ _)
   |(with_reducible exact aG.mono _ _)
   |exact bT.refl _
   |exact bT.none _
   |refine bT.ite ?_ ?_
   |refine bT.bind ?_ (fun _=>?_)
   |exact aZ.mono _ _ _
   |exact ak.mono _ _ _
   |exact aG.mono _ _
theorem aY.mono:∀a0 a1 a2 k,bT (aY.f k a0 a1 a2) (aY.f (k+1) a0 a1 a2):=by
 intro a0 a1 a2 k;have gU:=aY.cO k;unfold aY.f
 repeat' first
   |exact gU _ _ _ _ _
   |(with_reducible exact aZ.mono _ _ _)
   |(with_reducible exact ak.mono _ _ _)
   |(with_reducible exact aG.mono _ _)
   |exact bT.refl _
   |exact bT.none _
   |refine bT.ite ?_ ?_
   |refine bT.bind ?_ (fun _=>?_)
   |exact aZ.mono _ _ _
   |exact ak.mono _ _ _
   |exact aG.mono _ _
theorem aY.calls (k:Nat)(A0:Option Addr)(c0:Nat)(l0:List Int)(A1:Option Addr)(c1:Nat)(l1:List Int)(a2:Int)(r:Int)(w:World)(hr0:Kd.C (Kd.int .i64) w A0 l0.length l0)(hc0:l0.length≤c0)(hr1:Kd.C (Kd.int .i64) w A1 l1.length l1)(hc1:l1.length≤c1)(h:aY.f k l0 l1 a2=some r):
  Calls Tryz.prog 175 #[.slice A0 l0.length c0,.slice A1 l1.length c1,.int .i64 a2] w fun e w'=>e= .returned (.int .i64 r)∧Below w.heap.size w w':=by
 have HR0:=zM hr0;have Hw:=zM hc0;clear hr0 hc0;have HR1:=zM hr1;have MV:=zM hc1;clear hr1 hc1;have HB:=zM (Below.refl w.heap.size w);have H:(aY.l0 k l0 l1 a2 0 9999)=some r:=h;clear h;have H':=zM H;clear H;go_enter Tryz.func175,Tryz.ntmps175;go_wp2;go_loopg [7,8] k (fun kq v7 v8 w'=>∃(dO:Int) (bU:Int),v7= .int .i64 dO∧v8= .int .i64 bU∧Aside0 (aY.l0 kq l0 l1 a2 dO bU=some r)∧Aside0 (kq≤k)∧Aside0 (Below w.heap.size w w'))
 case atStart=>exact⟨(0),(9999),zR,zR,H',⟨Nat.le_refl _⟩,⟨zB⟩⟩
 case round=>
  clear H';try clear c1
  try clear p2
  obtain⟨dO,bU,rfl,rfl,HA,fM,HB⟩:=hrel;cases gk with
  |zero=>exact absurd HA.out (by simp[aY.l0])
  |succ k1=>
   have H:=HA.out;clear HA;simp only[aY.l0]at H
   by_cases c4:dO<bU
   ·rw[if_pos c4]at H;have ig:=zT c4;clear c4;obtain⟨Jt,WL⟩:∃y_:List Int,y_=(([wrap64 (Int.tdiv (wrap64 ((wrap64 (dO+bU))+1)) 2)]:List Int)):=⟨_,rfl⟩;replace H:((ak.f k1 l1 Jt).bind fun t227=>(if 0≤a2 then(if a2≤(l0.length:Int)then((aG.f k1 (l0.drop (a2:Int).toNat)).bind fun t231=>((aZ.f k1 t231 t227).bind fun t234=>(if t234=true then(aY.l0 k1 l0 l1 a2 dO (wrap64 ((wrap64 (Int.tdiv (wrap64 ((wrap64 (dO+bU))+1)) 2))- 1)))else(aY.l0 k1 l0 l1 a2 (wrap64 (Int.tdiv (wrap64 ((wrap64 (dO+bU))+1)) 2)) bU))))else(none))else(none)))=some r:=zY WL H;have PX:=zM WL;clear WL;replace H:=Option.bind_eq_some_iff.mp H;obtain⟨t227,A50,H⟩:=H;replace H:(if 0≤a2 then(if a2≤(l0.length:Int)then((aG.f k1 (l0.drop (a2:Int).toNat)).bind fun t231=>((aZ.f k1 t231 t227).bind fun t234=>(if t234=true then(aY.l0 k1 l0 l1 a2 dO (wrap64 ((wrap64 (Int.tdiv (wrap64 ((wrap64 (dO+bU))+1)) 2))- 1)))else(aY.l0 k1 l0 l1 a2 (wrap64 (Int.tdiv (wrap64 ((wrap64 (dO+bU))+1)) 2)) bU))))else(none))else(none))=some r:=H;have A5:=zM A50;clear A50
    by_cases c6:0≤a2
    ·rw[if_pos c6]at H;have iP:=eq_true c6;have og:=zT c6;clear c6
     by_cases c7:a2≤(l0.length:Int)
     ·rw[if_pos c7]at H;have lZ:=eq_true c7;have JS:=zT c7;clear c7;replace H:=Option.bind_eq_some_iff.mp H;obtain⟨t231,A80,H⟩:=H;replace H:((aZ.f k1 t231 t227).bind fun t234=>(if t234=true then(aY.l0 k1 l0 l1 a2 dO (wrap64 ((wrap64 (Int.tdiv (wrap64 ((wrap64 (dO+bU))+1)) 2))- 1)))else(aY.l0 k1 l0 l1 a2 (wrap64 (Int.tdiv (wrap64 ((wrap64 (dO+bU))+1)) 2)) bU)))=some r:=H;have A8:=zM A80;clear A80;replace H:=Option.bind_eq_some_iff.mp H;obtain⟨t234,A90,H⟩:=H;replace H:(if t234=true then(aY.l0 k1 l0 l1 a2 dO (wrap64 ((wrap64 (Int.tdiv (wrap64 ((wrap64 (dO+bU))+1)) 2))- 1)))else(aY.l0 k1 l0 l1 a2 (wrap64 (Int.tdiv (wrap64 ((wrap64 (dO+bU))+1)) 2)) bU))=some r:=H;have A9:=zM A90;clear A90
      by_cases c10:t234=true
      ·subst c10;have H1:(aY.l0 k1 l0 l1 a2 dO (wrap64 ((wrap64 (Int.tdiv (wrap64 ((wrap64 (dO+bU))+1)) 2))- 1)))=some r:=by rw[if_pos rfl]at H;exact H
       clear H;have H:=H1;clear H1;have H':=zM H;clear H;go_wp2_with (first|((with_reducible refine jq (N:=21) rfl ?_);refine Kd.FQ (Kd.int .i64) _ 3 ?hg (N:=21) ?hd (xs:=([wrap64 (Int.tdiv (wrap64 ((wrap64 (dO+bU))+1)) 2)]:List Int)) (inner:=[.int .i64 (wrap64 (Int.tdiv (wrap64 ((wrap64 (dO+bU))+1)) 2))]) (ok:=fun _=>True) (mO:=fun _=>True) ?hr ?hp (fun _ hk=>hk) trivial (Below.refl _ _) (Nat.le_refl _) (by simp) ?_;(case hd=>rfl);(case hg=>rfl);(case hr=>first|(go_simp;done)|(go_simp;rfl));(case hp=>exact(fF.one (show Kd.M (Kd.int .i64) _ _ _ (wrap64 (Int.tdiv (wrap64 ((wrap64 (dO+bU))+1)) 2)) [.int .i64 (wrap64 (Int.tdiv (wrap64 ((wrap64 (dO+bU))+1)) 2))]from rfl) (fF.none _ _)));intro anB w11 Wj hb D7 kG;clear D7 kG;(first|rw[←PX.out]at Wj|(simp only[Int.reduceToNat]at Wj;rw[←PX.out]at Wj));have dI:=zM (Kd.iV Wj (bP (by repeat(first|(with_reducible first|exact HB.out|apply ag|apply ai|apply aC)|exact HB.out))));have dG:=zM (eU (by repeat(first|(with_reducible first|exact HB.out|apply ag|apply ai|apply aC)|exact HB.out)) hb);clear HB;have jW:=dI;have HB:=dG;clear dI dG;clear hb Wj;obtain⟨TT,U6,acs⟩:=Kd.fO jW.out;subst acs)|((with_reducible refine iJ (f:=217) rfl ?_);refine pO (some 22) rfl rfl Tryz.func217 (by kernel_rfl) rfl #[.slice A1 l1.length c1,.slice TT Jt.length U6] rfl (by(try simp only[List.map_toArray,List.map_cons,List.map_nil]);first|done|rfl|(simp only[List.length_drop,List.length_take];rfl)) ?_;(with_reducible refine(ak.calls k1 _ _ l1 _ _ Jt t227 _ ?side1 ?side2 ?side3 ?side4 A5.out).mono ?_);(case side1=>repeat(first|exact(Kd.ji HR1.out HB.out)|(with_reducible refine Kd.lg ?_ _)|(with_reducible refine Kd.lh ?_ _)|(with_reducible refine Kd.nV ?_)));(case side2=>exact MV.out);(case side3=>repeat(first|exact(Kd.dA jW.out).2.2|(with_reducible refine Kd.lg ?_ _)|(with_reducible refine Kd.lh ?_ _)|(with_reducible refine Kd.nV ?_)));(case side4=>exact(Kd.dA jW.out).2.1);rintro e w14 ⟨v228,rfl,ho0,hb⟩;refine⟨_,rfl,?_⟩;have dI:=zM (Kd.dK (by(with_reducible repeat(first|apply Kd.dC|apply Kd.dD|apply Kd.dR));exact jW.out) hb);have dG:=zM (Kd.qp (Kd.qK (ok':=fun k_=>some k_≠(.slice TT Jt.length U6:Value).ownBlock) ho0 (fun k_ Ot=>(Kd.fresh' (Kd.Dw (by(with_reducible repeat(first|apply Kd.dC|apply Kd.dD|apply Kd.dR));exact jW.out)) k_ Ot))) (bP (by repeat(first|(with_reducible first|exact HB.out|apply ag|apply ai|apply aC)|exact HB.out))));have fQ:=zM (eU (by repeat(first|(with_reducible first|exact HB.out|apply ag|apply ai|apply aC)|exact HB.out)) hb);clear jW;clear HB;have jW:=dI;have qW:=dG;have HB:=fQ;clear dI dG fQ;(try clear hb);(try clear hb2);(try clear hk);(try clear hi);(try clear ho0);obtain⟨aso,abh,_,abn,_⟩:=info_parts info3;obtain⟨A15,alz,agU,agW⟩:=wU (P:=Tryz.prog) (Value.int .i64) 0 62 3 .i64 Tryz.underlying62 abh abn A0 c0 l0 a2 (zD) (zD) Hw.out;have Uk:=zM (Kd.xe (h1:=fun _=>rfl) (agU _ (Kd.lI HR0.out)));have TZ:=zM agW;clear agU agW abh abn)|((with_reducible refine iJ (f:=178) rfl ?_);refine pO (some 26) rfl rfl Tryz.func178 (by kernel_rfl) rfl #[.slice A15 (l0.drop (a2:Int).toNat).length (c0- a2.toNat)] rfl (by(try simp only[List.map_toArray,List.map_cons,List.map_nil]);first|done|(rw[show(l0.drop (a2:Int).toNat).length=(l0.length- a2.toNat)from List.length_drop]<;>rfl)|rfl|(simp only[List.length_drop,List.length_take];rfl)) ?_;(with_reducible refine(aG.calls k1 (fun k_=>k_<w.heap.size) _ _ (l0.drop (a2:Int).toNat) t231 _ ?side1 A8.out).mono ?_);(case side1=>exact Kd.Zc TZ.out (Kd.uT (Kd.C_F (Kd.KP .i64) Uk.out) (by repeat(first|(with_reducible first|exact HB.out|apply ag|apply ai|apply aC)|exact HB.out))));rintro e w16 ⟨v232,rfl,ho0,hb⟩;refine⟨_,rfl,?_⟩;have dI:=zM (Kd.dK (by(with_reducible repeat(first|apply Kd.dC|apply Kd.dD|apply Kd.dR));exact jW.out) hb);have dG:=zM (Kd.PZ (by(with_reducible repeat(first|apply Kd.lq|apply Kd.lu|apply Kd.nX));exact qW.out) hb);have fQ:=zM (Kd.qp (Kd.qK (ok':=fun k_=>some k_≠(.slice TT Jt.length U6:Value).ownBlock) ho0 (fun k_ Ot=>Or.elim Ot (fun hs_=>fun e_=>Nat.not_le.2 hs_ (Kd.Du jW.out k_ e_.symm)) (fun Wi=>(Kd.fresh' (Kd.Dw (by(with_reducible repeat(first|apply Kd.dC|apply Kd.dD|apply Kd.dR));exact jW.out)) k_ Wi)))) (bP (by repeat(first|(with_reducible first|exact HB.out|apply ag|apply ai|apply aC)|exact HB.out))));have XF:=zM (eU (by repeat(first|(with_reducible first|exact HB.out|apply ag|apply ai|apply aC)|exact HB.out)) hb);clear jW;clear qW;clear HB;have jW:=dI;have qW:=dG;have Dn:=fQ;have HB:=XF;clear dI dG fQ XF;(try clear hb);(try clear hb2);(try clear hk);(try clear hi);(try clear ho0);obtain⟨aeJ,U8,acv⟩:=Kd.nH Dn.out;subst acv;obtain⟨ajt,agv,Zu⟩:=Kd.nH qW.out;subst Zu)|((with_reducible refine iJ (f:=174) rfl ?_);refine pO (some 28) rfl rfl Tryz.func174 (by kernel_rfl) rfl #[.slice aeJ t231.length U8,.slice ajt t227.length agv] rfl (by(try simp only[List.map_toArray,List.map_cons,List.map_nil]);first|done|rfl|(simp only[List.length_drop,List.length_take];rfl)) ?_;(with_reducible refine(aZ.calls k1 _ _ t231 _ _ t227 true _ ?side1 ?side2 ?side3 ?side4 A9.out).mono ?_);(case side1=>repeat(first|exact(Kd.jl Dn.out).2.2|(with_reducible refine Kd.lg ?_ _)|(with_reducible refine Kd.lh ?_ _)|(with_reducible refine Kd.nV ?_)));(case side2=>exact(Kd.jl Dn.out).2.1);(case side3=>repeat(first|exact(Kd.jl qW.out).2.2|(with_reducible refine Kd.lg ?_ _)|(with_reducible refine Kd.lh ?_ _)|(with_reducible refine Kd.nV ?_)));(case side4=>exact(Kd.jl qW.out).2.1);rintro e w' ⟨rfl,⟨nd,rfl⟩⟩;refine⟨_,rfl,?_⟩));go_roundg k1
       case measure=>have:=fM.out;omega
       case rel=>exact⟨(dO),(wrap64 ((wrap64 (Int.tdiv (wrap64 ((wrap64 (dO+bU))+1)) 2))- 1)),zR,zR,H',⟨by have:=fM.out;omega⟩,⟨zB⟩⟩
      ·replace c10:=Bool.eq_false_iff.mpr c10;subst c10;have H1:(aY.l0 k1 l0 l1 a2 (wrap64 (Int.tdiv (wrap64 ((wrap64 (dO+bU))+1)) 2)) bU)=some r:=by rw[if_neg (show¬(false=true)by decide)]at H;exact H
       clear H;have H:=H1;clear H1;have H':=zM H;clear H;go_wp2_with (first|((with_reducible refine jq (N:=21) rfl ?_);refine Kd.FQ (Kd.int .i64) _ 3 ?hg (N:=21) ?hd (xs:=([wrap64 (Int.tdiv (wrap64 ((wrap64 (dO+bU))+1)) 2)]:List Int)) (inner:=[.int .i64 (wrap64 (Int.tdiv (wrap64 ((wrap64 (dO+bU))+1)) 2))]) (ok:=fun _=>True) (mO:=fun _=>True) ?hr ?hp (fun _ hk=>hk) trivial (Below.refl _ _) (Nat.le_refl _) (by simp) ?_;(case hd=>rfl);(case hg=>rfl);(case hr=>first|(go_simp;done)|(go_simp;rfl));(case hp=>exact(fF.one (show Kd.M (Kd.int .i64) _ _ _ (wrap64 (Int.tdiv (wrap64 ((wrap64 (dO+bU))+1)) 2)) [.int .i64 (wrap64 (Int.tdiv (wrap64 ((wrap64 (dO+bU))+1)) 2))]from rfl) (fF.none _ _)));intro anB PR Cj hb D7 kG;clear D7 kG;(first|rw[←PX.out]at Cj|(simp only[Int.reduceToNat]at Cj;rw[←PX.out]at Cj));have dI:=zM (Kd.iV Cj (bP (by repeat(first|(with_reducible first|exact HB.out|apply ag|apply ai|apply aC)|exact HB.out))));have dG:=zM (eU (by repeat(first|(with_reducible first|exact HB.out|apply ag|apply ai|apply aC)|exact HB.out)) hb);clear HB;have jW:=dI;have HB:=dG;clear dI dG;clear hb Cj;obtain⟨abB,Zi,Zv⟩:=Kd.fO jW.out;subst Zv)|((with_reducible refine iJ (f:=217) rfl ?_);refine pO (some 22) rfl rfl Tryz.func217 (by kernel_rfl) rfl #[.slice A1 l1.length c1,.slice abB Jt.length Zi] rfl (by(try simp only[List.map_toArray,List.map_cons,List.map_nil]);first|done|rfl|(simp only[List.length_drop,List.length_take];rfl)) ?_;(with_reducible refine(ak.calls k1 _ _ l1 _ _ Jt t227 _ ?side1 ?side2 ?side3 ?side4 A5.out).mono ?_);(case side1=>repeat(first|exact(Kd.ji HR1.out HB.out)|(with_reducible refine Kd.lg ?_ _)|(with_reducible refine Kd.lh ?_ _)|(with_reducible refine Kd.nV ?_)));(case side2=>exact MV.out);(case side3=>repeat(first|exact(Kd.dA jW.out).2.2|(with_reducible refine Kd.lg ?_ _)|(with_reducible refine Kd.lh ?_ _)|(with_reducible refine Kd.nV ?_)));(case side4=>exact(Kd.dA jW.out).2.1);rintro e w22 ⟨v228,rfl,ho0,hb⟩;refine⟨_,rfl,?_⟩;have dI:=zM (Kd.dK (by(with_reducible repeat(first|apply Kd.dC|apply Kd.dD|apply Kd.dR));exact jW.out) hb);have dG:=zM (Kd.qp (Kd.qK (ok':=fun k_=>some k_≠(.slice abB Jt.length Zi:Value).ownBlock) ho0 (fun k_ Ot=>(Kd.fresh' (Kd.Dw (by(with_reducible repeat(first|apply Kd.dC|apply Kd.dD|apply Kd.dR));exact jW.out)) k_ Ot))) (bP (by repeat(first|(with_reducible first|exact HB.out|apply ag|apply ai|apply aC)|exact HB.out))));have fQ:=zM (eU (by repeat(first|(with_reducible first|exact HB.out|apply ag|apply ai|apply aC)|exact HB.out)) hb);clear jW;clear HB;have jW:=dI;have qW:=dG;have HB:=fQ;clear dI dG fQ;(try clear hb);(try clear hb2);(try clear hk);(try clear hi);(try clear ho0);obtain⟨asq,abj,_,abo,_⟩:=info_parts info3;obtain⟨A23,alA,agV,agX⟩:=wU (P:=Tryz.prog) (Value.int .i64) 0 62 3 .i64 Tryz.underlying62 abj abo A0 c0 l0 a2 (zD) (zD) Hw.out;have Uk:=zM (Kd.xe (h1:=fun _=>rfl) (agV _ (Kd.lI HR0.out)));have TZ:=zM agX;clear agV agX abj abo)|((with_reducible refine iJ (f:=178) rfl ?_);refine pO (some 26) rfl rfl Tryz.func178 (by kernel_rfl) rfl #[.slice A23 (l0.drop (a2:Int).toNat).length (c0- a2.toNat)] rfl (by(try simp only[List.map_toArray,List.map_cons,List.map_nil]);first|done|(rw[show(l0.drop (a2:Int).toNat).length=(l0.length- a2.toNat)from List.length_drop]<;>rfl)|rfl|(simp only[List.length_drop,List.length_take];rfl)) ?_;(with_reducible refine(aG.calls k1 (fun k_=>k_<w.heap.size) _ _ (l0.drop (a2:Int).toNat) t231 _ ?side1 A8.out).mono ?_);(case side1=>exact Kd.Zc TZ.out (Kd.uT (Kd.C_F (Kd.KP .i64) Uk.out) (by repeat(first|(with_reducible first|exact HB.out|apply ag|apply ai|apply aC)|exact HB.out))));rintro e w24 ⟨v232,rfl,ho0,hb⟩;refine⟨_,rfl,?_⟩;have dI:=zM (Kd.dK (by(with_reducible repeat(first|apply Kd.dC|apply Kd.dD|apply Kd.dR));exact jW.out) hb);have dG:=zM (Kd.PZ (by(with_reducible repeat(first|apply Kd.lq|apply Kd.lu|apply Kd.nX));exact qW.out) hb);have fQ:=zM (Kd.qp (Kd.qK (ok':=fun k_=>some k_≠(.slice abB Jt.length Zi:Value).ownBlock) ho0 (fun k_ Ot=>Or.elim Ot (fun hs_=>fun e_=>Nat.not_le.2 hs_ (Kd.Du jW.out k_ e_.symm)) (fun Wi=>(Kd.fresh' (Kd.Dw (by(with_reducible repeat(first|apply Kd.dC|apply Kd.dD|apply Kd.dR));exact jW.out)) k_ Wi)))) (bP (by repeat(first|(with_reducible first|exact HB.out|apply ag|apply ai|apply aC)|exact HB.out))));have XF:=zM (eU (by repeat(first|(with_reducible first|exact HB.out|apply ag|apply ai|apply aC)|exact HB.out)) hb);clear jW;clear qW;clear HB;have jW:=dI;have qW:=dG;have Dn:=fQ;have HB:=XF;clear dI dG fQ XF;(try clear hb);(try clear hb2);(try clear hk);(try clear hi);(try clear ho0);obtain⟨ajx,akN,al1⟩:=Kd.nH Dn.out;subst al1;obtain⟨ajy,akO,al2⟩:=Kd.nH qW.out;subst al2)|((with_reducible refine iJ (f:=174) rfl ?_);refine pO (some 28) rfl rfl Tryz.func174 (by kernel_rfl) rfl #[.slice ajx t231.length akN,.slice ajy t227.length akO] rfl (by(try simp only[List.map_toArray,List.map_cons,List.map_nil]);first|done|rfl|(simp only[List.length_drop,List.length_take];rfl)) ?_;(with_reducible refine(aZ.calls k1 _ _ t231 _ _ t227 false _ ?side1 ?side2 ?side3 ?side4 A9.out).mono ?_);(case side1=>repeat(first|exact(Kd.jl Dn.out).2.2|(with_reducible refine Kd.lg ?_ _)|(with_reducible refine Kd.lh ?_ _)|(with_reducible refine Kd.nV ?_)));(case side2=>exact(Kd.jl Dn.out).2.1);(case side3=>repeat(first|exact(Kd.jl qW.out).2.2|(with_reducible refine Kd.lg ?_ _)|(with_reducible refine Kd.lh ?_ _)|(with_reducible refine Kd.nV ?_)));(case side4=>exact(Kd.jl qW.out).2.1);rintro e w' ⟨rfl,⟨nd,rfl⟩⟩;refine⟨_,rfl,?_⟩));go_roundg k1
       case measure=>have:=fM.out;omega
       case rel=>exact⟨(wrap64 (Int.tdiv (wrap64 ((wrap64 (dO+bU))+1)) 2)),(bU),zR,zR,H',⟨by have:=fM.out;omega⟩,⟨zB⟩⟩
     ·rw[if_neg c7]at H;exact absurd H (by simp)
    ·rw[if_neg c6]at H;exact absurd H (by simp)
   ·rw[if_neg c4]at H;have ig:=zF c4;clear c4;obtain rfl:=Option.some.inj H;go_wp2;go_ret;exact⟨by first|rfl|(simp[bg,bn]<;>rfl)|(simp[*,bg,bn]<;>rfl),zB⟩
end Go.Proofs.YthbdjmopolpjmaaGreatDoor.F
