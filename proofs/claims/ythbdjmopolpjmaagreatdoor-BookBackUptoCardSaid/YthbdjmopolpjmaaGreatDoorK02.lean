/- Part 2 of the proof. -/
import Derived.Test.YthbdjmopolpjmaaGreatDoorK01
set_option linter.unusedVariables false
set_option linter.unusedSimpArgs false
set_option maxHeartbeats 8000000
set_option maxRecDepth 100000
namespace Go.Proofs.YthbdjmopolpjmaaGreatDoor.F
open Go.RowKit Go.Proofs.YthbdjmopolpjmaaGreatDoorW.PrintWords Go.Proofs.YthbdjmopolpjmaaGreatDoorW.PrintLast Go.Proofs.YthbdjmopolpjmaaGreatDoorW.PrintMore
attribute [local go_sem] max2_int min2_int max_two min_two max_three min_three max_four min_four
def dF.l0:Nat→List Int→Int→List Int→Int→Int→Option (List Int×Int)
 |0,_,_,_,_,_=>none
 |k+1,x0,x1,x6,x7,x8=>if x8≥0 then(if 0≤x8 then(if x8<(x0.length:Int)then(if(IntKind.u64.wrap (x1))=0 then(none)else(if x8<(x6.length:Int)then(dF.l0 k x0 x1 (x6.set (x8:Int).toNat ((IntKind.u64.wrap (Int.tdiv (Go.bits .or .u64 (IntKind.u64.wrap (x7*4294967296)) (IntKind.u64.wrap (rd x0 x8))) (IntKind.u64.wrap (x1))))%4294967296)) (Int.tmod (Go.bits .or .u64 (IntKind.u64.wrap (x7*4294967296)) (IntKind.u64.wrap (rd x0 x8))) (IntKind.u64.wrap (x1))) (wrap64 (x8- 1)))else(none)))else(none))else(none))else(some (x6,(x7)%4294967296))
def dF.f (k:Nat)(l0:List Int)(a1:Int):Option (List Int×Int):=if 0≤(l0.length:Int)then(if((l0.length:Int):Int).toNat≤70368744177664 then(dF.l0 k l0 a1 (List.replicate ((l0.length:Int):Int).toNat 0) 0 (wrap64 ((l0.length:Int)- 1)))else(none))else(none)
theorem dF.cO:∀k,(∀y0 y1 y2 y3 y4,bT (dF.l0 k y0 y1 y2 y3 y4) (dF.l0 (k+1) y0 y1 y2 y3 y4))
 |0=>fun _ _ _ _ _ r h=>by simp[dF.l0]at h
 |k+1=>by
  have gU:=dF.cO k
  ·intro y0 y1 y2 y3 y4;unfold dF.l0
   repeat' first
   |exact gU _ _ _ _ _
   |exact bT.refl _
   |exact bT.none _
   |refine bT.ite ?_ ?_
   |refine bT.bind ?_ (fun _=>?_)
theorem dF.mono:∀a0 a1 k,bT (dF.f k a0 a1) (dF.f (k+1) a0 a1):=by
 intro a0 a1 k;have gU:=dF.cO k;unfold dF.f
 repeat' first
   |exact gU _ _ _ _ _
   |exact bT.refl _
   |exact bT.none _
   |refine bT.ite ?_ ?_
   |refine bT.bind ?_ (fun _=>?_)
theorem dF.calls (k:Nat)(A0:Option Addr)(c0:Nat)(l0:List Int)(a1:Int)(r1:List Int)(r2:Int)(w:World)(hr0:Kd.C (Kd.int .u32) w A0 l0.length l0)(hc0:l0.length≤c0)(h:dF.f k l0 a1=some (r1,r2)):
  Calls Tryz.prog 205 #[.slice A0 l0.length c0,.int .u32 a1] w fun e w'=>∃BH:Value,e= .returned (.tuple #[BH,.int .u32 r2])∧Kd.R (Kd.int .u32) 131 w' w.heap.size (fun _=>True) BH r1∧Below w.heap.size w w':=by
 have HR0:=zM hr0;have Hw:=zM hc0;clear hr0 hc0;have HB:=zM (Below.refl w.heap.size w);have H:(if 0≤(l0.length:Int)then(if((l0.length:Int):Int).toNat≤70368744177664 then(dF.l0 k l0 a1 (List.replicate ((l0.length:Int):Int).toNat 0) 0 (wrap64 ((l0.length:Int)- 1)))else(none))else(none))=some (r1,r2):=h;clear h
 by_cases c3:0≤(l0.length:Int)
 ·rw[if_pos c3]at H;have iI:=eq_true c3;have kW:=zT c3;clear c3
  by_cases c4:((l0.length:Int):Int).toNat≤70368744177664
  ·rw[if_pos c4]at H;have ig:=eq_true c4;have oQ:=zT c4;clear c4;obtain⟨ahN,Wu⟩:∃y_:List Int,y_=(List.replicate ((l0.length:Int):Int).toNat 0):=⟨_,rfl⟩;replace H:(dF.l0 k l0 a1 ahN 0 (wrap64 ((l0.length:Int)- 1)))=some (r1,r2):=zY Wu H;have aaP:=zM Wu;clear Wu;have H':=zM H;clear H;go_enter Tryz.func205,Tryz.ntmps205;go_wp2_with (first|((with_reducible refine jq (N:=11) rfl ?_);refine Kd.xm (Kd.int .u32) _ 131 rfl (N:=11) rfl 171 _ _ rfl (l0.length:Int) rfl rfl Tryz.underlying171 (.int .u32 0) 4 kQ rfl (by decide) (by omega) 0 (ok:=fun _=>True) (mO:=fun _=>True) rfl (fun _ hk=>hk) trivial (zD) (Nat.le_trans (Nat.mul_le_mul_right _ (zD:(l0.length:Int).toNat≤70368744177664)) (by omega)) (Below.refl _ _) (Nat.le_refl _) ?_;intro anz w5 Wl hb D7 kG;clear D7 kG;(first|rw[←aaP.out]at Wl|(simp only[Int.reduceToNat]at Wl;rw[←aaP.out]at Wl));have dI:=zM (Kd.iV Wl (bP (by repeat(first|(with_reducible first|exact HB.out|apply ag|apply ai|apply aC)|exact HB.out))));have dG:=zM (eU (by repeat(first|(with_reducible first|exact HB.out|apply ag|apply ai|apply aC)|exact HB.out)) hb);clear HB;have af0:=dI;have HB:=dG;clear dI dG;clear hb Wl));go_loopg [7,8] k (fun kq v7 v8 w'=>∃(iF:List Int) (dO:Int) (bU:Int),v7= .int .u64 dO∧v8= .int .i64 bU∧Aside0 (dF.l0 kq l0 a1 iF dO bU=some (r1,r2))∧Aside0 (kq≤k)∧Aside0 (Kd.R (Kd.int .u32) 131 w' w.heap.size (fun _=>True) anz iF)∧Aside0 (Below w.heap.size w w'))
   case atStart=>exact⟨(ahN),(0),(wrap64 ((l0.length:Int)- 1)),zR,zR,H',⟨Nat.le_refl _⟩,⟨zO af0.out⟩,⟨zB⟩⟩
   case round=>
    clear H';try clear c2
    try clear p2
    try clear c3
    try clear iI
    try clear kW
    try clear c4
    try clear ig
    try clear oQ
    try clear p6
    obtain⟨iF,dO,bU,rfl,rfl,HA,fM,Nv,HB⟩:=hrel;cases gk with
    |zero=>exact absurd HA.out (by simp[dF.l0])
    |succ k1=>
     have H:=HA.out;clear HA;simp only[dF.l0]at H
     by_cases c7:bU≥0
     ·rw[if_pos c7]at H;have lZ:=zT c7;clear c7
      by_cases c8:0≤bU
      ·rw[if_pos c8]at H;have nP:=zT c8;clear c8
       by_cases c9:bU<(l0.length:Int)
       ·rw[if_pos c9]at H;have qL:=zT c9;clear c9
        by_cases c10:(IntKind.u64.wrap (a1))=0
        ·rw[if_pos c10]at H;exact absurd H (by simp)
        ·rw[if_neg c10]at H;have yB:((IntKind.u64.wrap (a1))==0)=false:=beq_eq_false_iff_ne.mpr c10;have aoA:((IntKind.u64.wrap (a1)) !=0)=true:=bne_iff_ne.mpr c10
         by_cases c11:bU<(iF.length:Int)
         ·rw[if_pos c11]at H;have lL:=zT c11;clear c11;obtain⟨aed,Wv⟩:∃y_:List Int,y_=(iF.set (bU:Int).toNat ((IntKind.u64.wrap (Int.tdiv (Go.bits .or .u64 (IntKind.u64.wrap (dO*4294967296)) (IntKind.u64.wrap (rd l0 bU))) (IntKind.u64.wrap (a1))))%4294967296)):=⟨_,rfl⟩;replace H:(dF.l0 k1 l0 a1 aed (Int.tmod (Go.bits .or .u64 (IntKind.u64.wrap (dO*4294967296)) (IntKind.u64.wrap (rd l0 bU))) (IntKind.u64.wrap (a1))) (wrap64 (bU- 1)))=some (r1,r2):=zY Wv H;have aft:=zM Wv;clear Wv;have H':=zM H;clear H;have adA:0≤(bU:Int):=zD;have adO:bU<(l0.length:Int):=zD;obtain⟨aoo,akR,IC⟩:=Kd.dM HR0.out bU adA adO;cases akR;replace IC:=(HB.out.cell (World.block_lt_of_cell? w _ IC)).trans IC;replace adA:=eq_true adA;replace adO:=eq_true adO;have p12:0≤(bU:Int):=zD;have q12:(bU:Int)<((iF.length:Int):Int):=zD;obtain⟨IB,ET,zQ,VV,acB,akI,Ua⟩:=Kd.jf Nv.out (by omega)
          (first|cases zQ|(injection zQ with ea_ en_ ec_;(first|subst ea_|(injection ea_ with ea_;subst ea_));subst ec_;clear en_))
          have abG:=zM VV;have ajI:=zM Ua;clear VV acB Ua;obtain⟨ade,acP⟩:=Kd.fE 0 Nv.out (bU:Int) p12 q12;replace p12:=eq_true p12;replace q12:=eq_true q12;have abN:=Kd.fJ Nv.out (bU:Int) ((IntKind.u64.wrap (Int.tdiv (Go.bits .or .u64 (IntKind.u64.wrap (dO*4294967296)) (IntKind.u64.wrap (rd l0 bU))) (IntKind.u64.wrap (a1))))%4294967296);go_wp2_with (first|((with_reducible refine dN (t:=131) (p:=34) rfl ?_);refine dE (t:=131) (p:=34) (v:=?vo_w14) (w1:=(wr.setCell ⟨IB,(bU:Int).toNat,none⟩ (.int .u32 ((IntKind.u64.wrap (Int.tdiv (Go.bits .or .u64 (IntKind.u64.wrap (dO*4294967296)) (IntKind.u64.wrap (rd l0 bU))) (IntKind.u64.wrap (a1))))%4294967296)))) ?hg ?ho ?hn ?hr ?_;(case ho=>rfl);(case hg=>rfl);(case hn=>rfl);(case hr=>first|(go_simp;done)|(go_simp;rfl));intro w14 hw;have hg:wr.grownBy w14 (some IB):=(by rw[hw];exact abN.2);have je:Kd.R (Kd.int .u32) 131 w14 w.heap.size (fun _=>True) (.slice (some ⟨IB,0,none⟩) iF.length ET) aed:=(by rw[hw,aft.out];exact abN.1);clear abN;have dI:=zM (je);have dG:=zM ((by rw[hw];exact dm (HB.out) abG.out:Below w.heap.size w w14));clear Nv;clear HB;have Nv:=dI;have HB:=dG;clear dI dG;clear hg hw je));go_roundg k1
          case measure=>have:=fM.out;omega
          case rel=>exact⟨(aed),(Int.tmod (Go.bits .or .u64 (IntKind.u64.wrap (dO*4294967296)) (IntKind.u64.wrap (rd l0 bU))) (IntKind.u64.wrap (a1))),(wrap64 (bU- 1)),zR,zR,H',⟨by have:=fM.out;omega⟩,⟨zO Nv.out⟩,⟨zB⟩⟩
         ·rw[if_neg c11]at H;exact absurd H (by simp)
       ·rw[if_neg c9]at H;exact absurd H (by simp)
      ·rw[if_neg c8]at H;exact absurd H (by simp)
     ·rw[if_neg c7]at H;have lZ:=zF c7;clear c7;simp only[Option.some.injEq,Prod.mk.injEq]at H;obtain⟨rfl,rfl⟩:=H;go_wp2;go_ret2;exact⟨_,by first|rfl|(simp[bg,bn]<;>rfl)|(simp[*,bg,bn]<;>rfl),zO Nv.out,zB⟩
  ·rw[if_neg c4]at H;exact absurd H (by simp)
 ·rw[if_neg c3]at H;exact absurd H (by simp)
def dX.l0:Nat→List Int→Int→Int→Int→Int→Option (List Int)
 |0,_,_,_,_,_=>none
 |k+1,x0,x1,x7,x12,Hg=>if Hg<x12 then(if 0≤Hg then(if Hg<(x0.length:Int)then(dX.l0 k (x0.set (Hg:Int).toNat ((IntKind.u64.wrap (x7+(IntKind.u64.wrap ((IntKind.u64.wrap (rd x0 Hg))*(IntKind.u64.wrap (x1))))))%4294967296)) x1 ((IntKind.u64.wrap (x7+(IntKind.u64.wrap ((IntKind.u64.wrap (rd x0 Hg))*(IntKind.u64.wrap (x1))))))/4294967296) x12 (wrap64 (Hg+1)))else(none))else(none))else(if x7>0 then(if x0.length<35184372088832 then(some (x0++[(x7)%4294967296]))else(none))else(some x0))
def dX.f (k:Nat)(l0:List Int)(a1:Int)(a2:Int):Option (List Int):=dX.l0 k l0 a1 (IntKind.u64.wrap (a2)) (l0.length:Int) 0
theorem dX.cO:∀k,(∀y0 y1 y2 y3 y4,bT (dX.l0 k y0 y1 y2 y3 y4) (dX.l0 (k+1) y0 y1 y2 y3 y4))
 |0=>fun _ _ _ _ _ r h=>by simp[dX.l0]at h
 |k+1=>by
  have gU:=dX.cO k
  ·intro y0 y1 y2 y3 y4;unfold dX.l0
   repeat' first
   |exact gU _ _ _ _ _
   |exact bT.refl _
   |exact bT.none _
   |refine bT.ite ?_ ?_
   |refine bT.bind ?_ (fun _=>?_)
theorem dX.mono:∀a0 a1 a2 k,bT (dX.f k a0 a1 a2) (dX.f (k+1) a0 a1 a2):=by
 intro a0 a1 a2 k;have gU:=dX.cO k;unfold dX.f
 repeat' first
   |exact gU _ _ _ _ _
   |exact bT.refl _
   |exact bT.none _
   |refine bT.ite ?_ ?_
   |refine bT.bind ?_ (fun _=>?_)
theorem dX.calls (k:Nat)(iG:Nat→Prop)(iQ:Value)(l0:List Int)(a1:Int)(a2:Int)(r:List Int)(w0 w:World)(hB:Below w0.heap.size w0 w)(ho0:Kd.R (Kd.int .u32) 131 w w0.heap.size iG iQ l0)(h:dX.f k l0 a1 a2=some r):
  Calls Tryz.prog 204 #[iQ,.int .u32 a1,.int .u32 a2] w fun e w'=>∃BH:Value,e= .returned (BH)∧Kd.R (Kd.int .u32) 131 w' w0.heap.size (fun k_=>(iG k_∨w.heap.size≤k_)) BH r∧Below w0.heap.size w0 w'∧Kept w w' (fun k_=>iG k_):=by
 have zC:=zM (show Kd.R (Kd.int .u32) 131 w w0.heap.size (fun k_=>(iG k_∨w.heap.size≤k_)) iQ l0 from Kd.gI ho0 (fun k_ hk=>(.inl hk)));have HK:=zM (Kept.refl w (fun k_=>iG k_));have HW0:=zM hB.size;have HB:=zM hB;clear hB;have H:(dX.l0 k l0 a1 (IntKind.u64.wrap (a2)) (l0.length:Int) 0)=some r:=h;clear h;have H':=zM H;clear H;obtain⟨Ao4,co4,eo4⟩:=Kd.fO zC.out;subst eo4;go_enter Tryz.func204,Tryz.ntmps204;go_wp2;go_loopg [7,13] k (fun kq v7 v13 w'=>∃(aU:List Int) (dO:Int) (jM:Int),v7= .int .u64 dO∧v13= .int .i64 jM∧Aside0 (dX.l0 kq aU a1 dO (l0.length:Int) jM=some r)∧Aside0 (kq≤k)∧Aside0 (Kd.R (Kd.int .u32) 131 w' w0.heap.size (fun k_=>(iG k_∨w.heap.size≤k_)) (.slice Ao4 l0.length co4) aU)∧Aside0 (Kept w w' (fun k_=>iG k_))∧Aside0 (Below w0.heap.size w0 w'))
 case atStart=>exact⟨(l0),(IntKind.u64.wrap (a2)),(0),zR,zR,H',⟨Nat.le_refl _⟩,⟨zO zC.out⟩,⟨zK⟩,⟨zB⟩⟩
 case round=>
  clear H';try clear c2
  try clear p2
  obtain⟨aU,dO,jM,rfl,rfl,HA,fM,bF,HK,HB⟩:=hrel;have jr:=(Kd.dA bF.out).1;rw[jr]at bF
  (try simp only[jr])
  cases gk with
  |zero=>exact absurd HA.out (by simp[dX.l0])
  |succ k1=>
   have H:=HA.out;clear HA;simp only[dX.l0]at H
   by_cases c5:jM<(l0.length:Int)
   ·rw[if_pos c5]at H;have jJ:=zT c5;clear c5
    by_cases c6:0≤jM
    ·rw[if_pos c6]at H;have iP:=zT c6;clear c6
     by_cases c7:jM<(aU.length:Int)
     ·rw[if_pos c7]at H;have lZ:=zT c7;clear c7;obtain⟨aec,Wq⟩:∃y_:List Int,y_=(aU.set (jM:Int).toNat ((IntKind.u64.wrap (dO+(IntKind.u64.wrap ((IntKind.u64.wrap (rd aU jM))*(IntKind.u64.wrap (a1))))))%4294967296)):=⟨_,rfl⟩;replace H:(dX.l0 k1 aec a1 ((IntKind.u64.wrap (dO+(IntKind.u64.wrap ((IntKind.u64.wrap (rd aU jM))*(IntKind.u64.wrap (a1))))))/4294967296) (l0.length:Int) (wrap64 (jM+1)))=some r:=zY Wq H;have afr:=zM Wq;clear Wq;have H':=zM H;clear H;have adz:0≤(jM:Int):=zD;have adN:jM<(aU.length:Int):=zD;obtain⟨aon,e125,ZG⟩:=Kd.dM (Kd.dA bF.out).2.2 jM adz adN;cases e125;replace adz:=eq_true adz;replace adN:=eq_true adN;have p8:0≤(jM:Int):=zD;have q8:(jM:Int)<((aU.length:Int):Int):=zD;obtain⟨YL,co8,eo8,gb8,gl8,cl8,HG8⟩:=Kd.jf bF.out (by omega)
      (first|cases eo8|(injection eo8 with ea_ en_ ec_;(first|subst ea_|(injection ea_ with ea_;subst ea_));subst ec_;clear en_))
      have GB8:=zM gb8;have GG8:=zM HG8;clear gb8 gl8 HG8;have Uf:=zM (show(iG YL∨w.heap.size≤YL)from(bF.out.1 _ rfl));try simp only[add_plain]at ZG
      obtain⟨abq,abg⟩:=Kd.fE 0 bF.out (jM:Int) p8 q8;replace p8:=eq_true p8;replace q8:=eq_true q8;have HP9:=Kd.fJ bF.out (jM:Int) ((IntKind.u64.wrap (dO+(IntKind.u64.wrap ((IntKind.u64.wrap (rd aU jM))*(IntKind.u64.wrap (a1))))))%4294967296);go_wp2_with (first|((with_reducible refine dN (t:=131) (p:=30) rfl ?_);refine dE (t:=131) (p:=30) (v:=?vo_w10) (w1:=(wr.setCell ⟨YL,(jM:Int).toNat,none⟩ (.int .u32 ((IntKind.u64.wrap (dO+(IntKind.u64.wrap ((IntKind.u64.wrap (rd aU jM))*(IntKind.u64.wrap (a1))))))%4294967296)))) ?hg ?ho ?hn ?hr ?_;(case ho=>rfl);(case hg=>rfl);(case hn=>rfl);(case hr=>first|(go_simp;done)|(go_simp;rfl));intro w10 hw;have hg:wr.grownBy w10 (some YL):=(by rw[hw];exact HP9.2);have je:Kd.R (Kd.int .u32) 131 w10 w0.heap.size (fun k_=>(iG k_∨w.heap.size≤k_)) (.slice (some ⟨YL,0,none⟩) aU.length co4) aec:=(by rw[hw,afr.out];exact HP9.1);clear HP9;have dI:=zM (je);have dG:=zM ((by rw[hw];exact dm (HB.out) GB8.out:Below w0.heap.size w0 w10));have fQ:=zM (Kept.gq (S:=(fun k_=>iG k_)) hg (by repeat(first|(with_reducible first|exact HK.out|apply Kept.alloc|apply Kept.drewN|apply Kept.drew)|exact HK.out)) (fun k_ e_=>(bF.out.1 k_ e_)));clear bF;clear HB;clear HK;have bF:=dI;have HB:=dG;have HK:=fQ;clear dI dG fQ;clear hg hw je))
      (try simp only[←jr])
      go_roundg k1
      case measure=>have:=fM.out;omega
      case rel=>exact⟨(aec),((IntKind.u64.wrap (dO+(IntKind.u64.wrap ((IntKind.u64.wrap (rd aU jM))*(IntKind.u64.wrap (a1))))))/4294967296),(wrap64 (jM+1)),zR,zR,H',⟨by have:=fM.out;omega⟩,⟨by(try simp only[jr]);(with_reducible repeat(first|apply Kd.dC|apply Kd.dD|apply Kd.dR));exact bF.out⟩,⟨zK⟩,⟨zB⟩⟩
     ·rw[if_neg c7]at H;exact absurd H (by simp)
    ·rw[if_neg c6]at H;exact absurd H (by simp)
   ·rw[if_neg c5]at H;have jJ:=zF c5
    (try rw[jr]at jJ)
    clear c5
    by_cases c11:dO>0
    ·rw[if_pos c11]at H;have lL:=zT c11;clear c11
     by_cases c12:aU.length<35184372088832
     ·rw[if_pos c12]at H;have Dp:=zM c12;clear c12;obtain⟨anM,Ws⟩:∃y_:List Int,y_=(aU++[(dO)%4294967296]):=⟨_,rfl⟩;replace H:(some anM)=some r:=zY Ws H;have afs:=zM Ws;clear Ws;obtain rfl:=Option.some.inj H;go_wp2_with (first|((with_reducible refine bK (b:= .append) (xs:= #[.tmp 36,.tmp 39]) rfl ?_);at_builtin;refine Kd.dZ (Kd.int .u32) (w0:=w0) w0.heap.size rfl (.tmp 36) (.tmp 39) 171 131 (.int .u32 0) 4 rfl Tryz.underlying171 kQ rfl (by decide) (by omega) (.slice Ao4 aU.length co4) aU ((dO)%4294967296) [.int .u32 ((dO)%4294967296)] (fun k_=>(iG k_∨w.heap.size≤k_)) (fun _=>False) rfl rfl ?aP (fun _ hk=>hk.elim) ?aF ?aO ?aB ?aS ?aL ?_;(case aP=>exact rfl);(case aB=>exact(by repeat(first|(with_reducible first|exact HB.out|apply ag|apply ai|apply aC)|exact HB.out)));(case aF=>exact(fun k_ hk=>(.inr (Nat.le_trans (by first|exact HK.out.1|exact(show Kept w _ (fun k_=>iG k_)from by repeat(first|(with_reducible first|exact HK.out|apply Kept.alloc|apply Kept.drewN|apply Kept.drew)|exact HK.out)).1) hk))));(case aO=>exact(by(with_reducible repeat(first|apply Kd.dC|apply Kd.dD|apply Kd.dR));exact bF.out));(case aS=>exact(bP (by repeat(first|(with_reducible first|exact HB.out|apply ag|apply ai|apply aC)|exact HB.out))));(case aL=>have:=Dp.out;omega);intro ato w13 ho hb hg hat;rw[←afs.out]at ho;have dI:=zM (hb);have dG:=zM (Kept.gq (S:=(fun k_=>iG k_)) hg (by repeat(first|(with_reducible first|exact HK.out|apply Kept.alloc|apply Kept.drewN|apply Kept.drew)|exact HK.out)) (fun k_ e_=>(bF.out.1 k_ e_)));have fQ:=zM (ho);clear HB;clear HK;clear bF;have HB:=dI;have HK:=dG;have aeZ:=fQ;clear dI dG fQ;clear ho hb hg hat));go_ret;exact⟨_,by first|rfl|(simp[bg,bn]<;>rfl)|(simp[*,bg,bn]<;>rfl),zO aeZ.out,zB,zK⟩
     ·rw[if_neg c12]at H;exact absurd H (by simp)
    ·rw[if_neg c11]at H;have lL:=zF c11;clear c11;obtain rfl:=Option.some.inj H;go_wp2;go_ret;exact⟨_,by first|rfl|(simp[bg,bn]<;>rfl)|(simp[*,bg,bn]<;>rfl),zO bF.out,zB,zK⟩
def gY (w0 W:World)(g:Nat)(f0:Bool)(f1:List Int):Prop:=∃A1 c1,W.heap[g]?=some (.cells #[.bool f0,.slice A1 f1.length c1] 173 (0,0))∧w0.heap.size≤g∧Kd.C (Kd.int .u32) w0 A1 f1.length f1
theorem gY.grown {w0 W:World}{g:Nat}{f0:Bool}{f1:List Int}{W1:World}{row:Option Nat}(h:gY w0 W g f0 f1)(hw:W.grownBy W1 row)(hne:some g≠row):gY w0 W1 g f0 f1:=by
 obtain⟨A1,c1,hb,hg,hr1⟩:=h;exact⟨A1,c1,Q4 hb hw hne,hg,hr1⟩
theorem gY.kept {w0 W:World}{g:Nat}{f0:Bool}{f1:List Int}{W1:World}{S:Nat→Prop}(h:gY w0 W g f0 f1)(hk:Kept W W1 S)(hne:¬S g):gY w0 W1 g f0 f1:=by
 obtain⟨A1,c1,hb,hg,hr1⟩:=h;exact⟨A1,c1,JM hb hk hne,hg,hr1⟩
theorem gY.below {w0 W:World}{g:Nat}{f0:Bool}{f1:List Int}{W1:World}(h:gY w0 W g f0 f1)(hw:Below W.heap.size W W1):gY w0 W1 g f0 f1:=h.grown (uB hw none) (by simp)
theorem gY.alloc {w0 W:World}{g:Nat}{f0:Bool}{f1:List Int}(h:gY w0 W g f0 f1)(o:Obj):gY w0 (W.alloc o) g f0 f1:=h.below (ag (Below.refl _ _) o)
theorem gY.drewN {w0 W:World}{g:Nat}{f0:Bool}{f1:List Int}(h:gY w0 W g f0 f1)(m:Nat):gY w0 (W.drewN m) g f0 f1:=h
theorem gY.drew {w0 W:World}{g:Nat}{f0:Bool}{f1:List Int}(h:gY w0 W g f0 f1):gY w0 W.drew g f0 f1:=h
theorem gY.at_ {w0 W:World}{g:Nat}{f0:Bool}{f1:List Int}{w':World}{m:Nat}(hq:W.drewN m=w')(h:gY w0 W g f0 f1):gY w0 w' g f0 f1:=by subst hq;exact gY.drewN h m
theorem gY.apart {w0 W:World}{g:Nat}{f0:Bool}{f1:List Int}{α:Type}{d:Kd α}{e:Nat}{base:Nat}{ok:Nat→Prop}{v:Value}{xs:List α}(h:gY w0 W g f0 f1)(ho:d.R e W base ok v xs)(ht:∀q,q∈e::d.E→q≠173):d.R e W base (fun k=>ok k∧k≠g) v xs:=by
 obtain⟨A1,c1,hb,hg,hr1⟩:=h;exact Kd.uV ho hb ht
theorem gY.own_ne {w0 W:World}{g:Nat}{f0:Bool}{f1:List Int}{α:Type}{d:Kd α}{e:Nat}{base:Nat}{ok:Nat→Prop}{v:Value}{xs:List α}(h:gY w0 W g f0 f1)(ho:d.R e W base ok v xs)(ht:e≠173):some g≠v.ownBlock:=by
 obtain⟨A1,c1,hb,hg,hr1⟩:=h;exact Kd.akm ho hb ht
theorem gY.lt {w0 W:World}{g:Nat}{f0:Bool}{f1:List Int}(h:gY w0 W g f0 f1):g<W.heap.size:=by
 obtain⟨A1,c1,hb,hg,hr1⟩:=h;exact dV hb
theorem gY.new (w0 W:World)(A1:Option Addr)(c1:Nat)(f0:Bool)(f1:List Int)(hB:Below w0.heap.size w0 W)(hr1:Kd.C (Kd.int .u32) w0 A1 f1.length f1):gY w0 (W.alloc (.cells #[.bool f0,.slice A1 f1.length c1] 173)) W.heap.size f0 f1:=⟨A1,c1,by simpa using heap_alloc_new W _,hB.size,hr1⟩
def dH.l0:Nat→Int→List Int→List Int→Int→Int→Option (List Int)
 |0,_,_,_,_,_=>none
 |k+1,x1,x5,Hg,x14,x15=>if x15<x14 then(if 0≤x15 then(if x15<(Hg.length:Int)then(if 0≤x1 then(if x15<(x5.length:Int)then(if 0≤(wrap64 (x15+1))then(if(wrap64 (x15+1))<(x5.length:Int)then(dH.l0 k x1 ((x5.set (x15:Int).toNat (Go.bits .or .u32 (rd x5 x15) ((shl .u64 (IntKind.u64.wrap (rd Hg x15)) x1)%4294967296))).set ((wrap64 (x15+1)):Int).toNat (((shl .u64 (IntKind.u64.wrap (rd Hg x15)) x1)/4294967296)%4294967296)) Hg x14 (wrap64 (x15+1)))else(none))else(none))else(none))else(none))else(none))else(none))else(some x5)
def dH.f (k:Nat)(l0:List Int)(a1:Int):Option (List Int):=if 0≤(wrap64 ((l0.length:Int)+1))then(if(wrap64 ((l0.length:Int)+1):Int).toNat≤70368744177664 then(dH.l0 k a1 (List.replicate (wrap64 ((l0.length:Int)+1):Int).toNat 0) l0 (l0.length:Int) 0)else(none))else(none)
theorem dH.cO:∀k,(∀y0 y1 y2 y3 y4,bT (dH.l0 k y0 y1 y2 y3 y4) (dH.l0 (k+1) y0 y1 y2 y3 y4))
 |0=>fun _ _ _ _ _ r h=>by simp[dH.l0]at h
 |k+1=>by
  have gU:=dH.cO k
  ·intro y0 y1 y2 y3 y4;unfold dH.l0
   repeat' first
   |exact gU _ _ _ _ _
   |exact bT.refl _
   |exact bT.none _
   |refine bT.ite ?_ ?_
   |refine bT.bind ?_ (fun _=>?_)
theorem dH.mono:∀a0 a1 k,bT (dH.f k a0 a1) (dH.f (k+1) a0 a1):=by
 intro a0 a1 k;have gU:=dH.cO k;unfold dH.f
 repeat' first
   |exact gU _ _ _ _ _
   |exact bT.refl _
   |exact bT.none _
   |refine bT.ite ?_ ?_
   |refine bT.bind ?_ (fun _=>?_)
theorem dH.calls (k:Nat)(A0:Option Addr)(c0:Nat)(l0:List Int)(a1:Int)(r:List Int)(w:World)(hr0:Kd.C (Kd.int .u32) w A0 l0.length l0)(hc0:l0.length≤c0)(h:dH.f k l0 a1=some r):
  Calls Tryz.prog 208 #[.slice A0 l0.length c0,.int .i64 a1] w fun e w'=>∃BH:Value,e= .returned (BH)∧Kd.R (Kd.int .u32) 131 w' w.heap.size (fun _=>True) BH r∧Below w.heap.size w w':=by
 have HR0:=zM hr0;have Hw:=zM hc0;clear hr0 hc0;have HB:=zM (Below.refl w.heap.size w);have H:(if 0≤(wrap64 ((l0.length:Int)+1))then(if(wrap64 ((l0.length:Int)+1):Int).toNat≤70368744177664 then(dH.l0 k a1 (List.replicate (wrap64 ((l0.length:Int)+1):Int).toNat 0) l0 (l0.length:Int) 0)else(none))else(none))=some r:=h;clear h;obtain⟨gX,kz⟩:=zI (wrap64 ((l0.length:Int)+1));replace H:(if 0≤(gX)then(if(gX:Int).toNat≤70368744177664 then(dH.l0 k a1 (List.replicate (gX:Int).toNat 0) l0 (l0.length:Int) 0)else(none))else(none))=some r:=by first|(rw[kz]at H;exact H)|(simp only[kz]at H⊢;exact H)
 have Gv:(IntKind.i64.wrap ((l0.length:Int)+1))=gX:=(dL _).trans kz
 by_cases c4:0≤(gX)
 ·rw[if_pos c4]at H;have ig:=eq_true c4;have oQ:=zT c4;clear c4
  by_cases c5:(gX:Int).toNat≤70368744177664
  ·rw[if_pos c5]at H;have jJ:=eq_true c5;have qh:=zT c5;clear c5;obtain⟨y153,hy153⟩:∃y_:List Int,y_=(List.replicate (gX:Int).toNat 0):=⟨_,rfl⟩;replace H:(dH.l0 k a1 y153 l0 (l0.length:Int) 0)=some r:=zY hy153 H;have aaQ:=zM hy153;clear hy153;have H':=zM H;clear H;go_enter Tryz.func208,Tryz.ntmps208;go_wp2_with (first|((with_reducible refine jq (N:=12) rfl ?_);refine Kd.xm (Kd.int .u32) _ 131 rfl (N:=12) rfl 171 _ _ rfl gX rfl rfl Tryz.underlying171 (.int .u32 0) 4 kQ rfl (by decide) (by omega) 0 (ok:=fun _=>True) (mO:=fun _=>True) rfl (fun _ hk=>hk) trivial (zD) (Nat.le_trans (Nat.mul_le_mul_right _ (zD:gX.toNat≤70368744177664)) (by omega)) (Below.refl _ _) (Nat.le_refl _) ?_;intro v154 w6 D8 hb D7 kG;clear D7 kG;(first|rw[←aaQ.out]at D8|(simp only[Int.reduceToNat]at D8;rw[←aaQ.out]at D8));have dI:=zM (Kd.iV D8 (bP (by repeat(first|(with_reducible first|exact HB.out|apply ag|apply ai|apply aC)|exact HB.out))));have dG:=zM (eU (by repeat(first|(with_reducible first|exact HB.out|apply ag|apply ai|apply aC)|exact HB.out)) hb);clear HB;have af2:=dI;have HB:=dG;clear dI dG;clear hb D8));go_loopg [15] k (fun kq v15 w'=>∃(aV:List Int) (gQ:Int),v15= .int .i64 gQ∧Aside0 (dH.l0 kq a1 aV l0 (l0.length:Int) gQ=some r)∧Aside0 (kq≤k)∧Aside0 (Kd.R (Kd.int .u32) 131 w' w.heap.size (fun _=>True) v154 aV)∧Aside0 (Below w.heap.size w w'))
   case atStart=>exact⟨(y153),(0),zR,H',⟨Nat.le_refl _⟩,⟨zO af2.out⟩,⟨zB⟩⟩
   case round=>
    clear H';try clear c2
    try clear p2
    try clear c4
    try clear ig
    try clear oQ
    try clear c5
    try clear jJ
    try clear qh
    try clear p6
    obtain⟨aV,gQ,rfl,HA,fM,dY,HB⟩:=hrel;cases gk with
    |zero=>exact absurd HA.out (by simp[dH.l0])
    |succ k1=>
     have H:=HA.out;clear HA;simp only[dH.l0]at H
     by_cases c8:gQ<(l0.length:Int)
     ·rw[if_pos c8]at H;have nP:=zT c8;clear c8
      by_cases c9:0≤gQ
      ·rw[if_pos c9]at H;have qL:=zT c9;clear c9
       by_cases c10:gQ<(l0.length:Int)
       ·rw[if_pos c10]at H;have yB:=zT c10;clear c10
        by_cases c11:0≤a1
        ·rw[if_pos c11]at H;have lL:=eq_true c11;have A7:=zT c11;clear c11;obtain⟨Cm,Qn⟩:=zI (shl .u64 (IntKind.u64.wrap (rd l0 gQ)) a1);replace H:(if gQ<(aV.length:Int)then(if 0≤(wrap64 (gQ+1))then(if(wrap64 (gQ+1))<(aV.length:Int)then(dH.l0 k1 a1 ((aV.set (gQ:Int).toNat (Go.bits .or .u32 (rd aV gQ) ((Cm)%4294967296))).set ((wrap64 (gQ+1)):Int).toNat (((Cm)/4294967296)%4294967296)) l0 (l0.length:Int) (wrap64 (gQ+1)))else(none))else(none))else(none))=some r:=by first|(rw[Qn]at H;exact H)|(simp only[Qn]at H⊢;exact H)
         have alN:(IntKind.u64.wrap ((IntKind.u64.wrap (rd l0 gQ))*2^min a1.toNat 64))=Cm:=Qn;have alO:a1≤64→(IntKind.u64.wrap ((IntKind.u64.wrap (rd l0 gQ))*2^a1.toNat))=Cm:=Tn Qn
         by_cases c13:gQ<(aV.length:Int)
         ·rw[if_pos c13]at H;have oK:=zT c13;clear c13;obtain⟨y158,hy158⟩:∃y_:List Int,y_=(aV.set (gQ:Int).toNat (Go.bits .or .u32 (rd aV gQ) ((Cm)%4294967296))):=⟨_,rfl⟩;replace H:(if 0≤(wrap64 (gQ+1))then(if(wrap64 (gQ+1))<(aV.length:Int)then(dH.l0 k1 a1 (y158.set ((wrap64 (gQ+1)):Int).toNat (((Cm)/4294967296)%4294967296)) l0 (l0.length:Int) (wrap64 (gQ+1)))else(none))else(none))=some r:=zY hy158 H;have afu:=zM hy158;clear hy158;obtain⟨wu,Qp⟩:=zI (wrap64 (gQ+1));replace H:(if 0≤(wu)then(if(wu)<(aV.length:Int)then(dH.l0 k1 a1 (y158.set ((wu):Int).toNat (((Cm)/4294967296)%4294967296)) l0 (l0.length:Int) wu)else(none))else(none))=some r:=by first|(rw[Qp]at H;exact H)|(simp only[Qp]at H⊢;exact H)
          have alR:(IntKind.i64.wrap (gQ+1))=wu:=(dL _).trans Qp
          by_cases c16:0≤(wu)
          ·rw[if_pos c16]at H;have UT:=zT c16;clear c16
           by_cases c17:(wu)<(aV.length:Int)
           ·rw[if_pos c17]at H;have FZ:=zT c17;clear c17;obtain⟨y159,hy159⟩:∃y_:List Int,y_=(y158.set ((wu):Int).toNat (((Cm)/4294967296)%4294967296)):=⟨_,rfl⟩;replace H:(dH.l0 k1 a1 y159 l0 (l0.length:Int) wu)=some r:=zY hy159 H;have afv:=zM hy159;clear hy159;have H':=zM H;clear H;have adB:0≤(gQ:Int):=zD;have adP:gQ<(l0.length:Int):=zD;obtain⟨aop,akS,IE⟩:=Kd.dM HR0.out gQ adB adP;cases akS;replace IE:=(HB.out.cell (World.block_lt_of_cell? w _ IE)).trans IE;replace adB:=eq_true adB;replace adP:=eq_true adP;obtain⟨aju,Zh,acw⟩:=Kd.fO dY.out;subst acw;have adC:0≤(gQ:Int):=zD;have adQ:gQ<(aV.length:Int):=zD;obtain⟨aoq,akT,ZJ⟩:=Kd.dM (Kd.dA dY.out).2.2 gQ adC adQ;cases akT;replace adC:=eq_true adC;replace adQ:=eq_true adQ;have SG:0≤(gQ:Int):=zD;have SV:(gQ:Int)<((aV.length:Int):Int):=zD;obtain⟨Cf,akL,Vo,VW,acC,akJ,Ub⟩:=Kd.jf dY.out (by omega)
            (first|cases Vo|(injection Vo with ea_ en_ ec_;(first|subst ea_|(injection ea_ with ea_;subst ea_));subst ec_;clear en_))
            have YX:=zM VW;have ajJ:=zM Ub;clear VW acC Ub;try simp only[add_plain]at ZJ
            obtain⟨adf,acQ⟩:=Kd.fE 0 dY.out (gQ:Int) SG SV;replace SG:=eq_true SG;replace SV:=eq_true SV;have Nz:=Kd.fJ dY.out (gQ:Int) (Go.bits .or .u32 (rd aV gQ) ((Cm)%4294967296));go_wp2_with (first|((with_reducible refine dN (t:=131) (p:=31) rfl ?_);refine dE (t:=131) (p:=31) (v:=?vo_w21) (w1:=(wr.setCell ⟨Cf,(gQ:Int).toNat,none⟩ (.int .u32 (Go.bits .or .u32 (rd aV gQ) ((Cm)%4294967296))))) ?hg ?ho ?hn ?hr ?_;(case ho=>rfl);(case hg=>rfl);(case hn=>rfl);(case hr=>first|(go_simp;done)|(go_simp;rfl));intro YQ hw;have hg:wr.grownBy YQ (some Cf):=(by rw[hw];exact Nz.2);have je:Kd.R (Kd.int .u32) 131 YQ w.heap.size (fun _=>True) (.slice (some ⟨Cf,0,none⟩) aV.length Zh) y158:=(by rw[hw,afu.out];exact Nz.1);clear Nz;have dI:=zM (je);have dG:=zM ((by rw[hw];exact dm (HB.out) YX.out:Below w.heap.size w YQ));clear dY;clear HB;have dY:=dI;have HB:=dG;clear dI dG;clear hg hw je;have p18:0≤((wu):Int):=zD;have q18:((wu):Int)<((aV.length:Int):Int):=zD;obtain⟨adg,acR⟩:=Kd.fE 0 dY.out ((wu):Int) p18 q18;replace p18:=eq_true p18;replace q18:=eq_true q18;obtain⟨apC,apE⟩:=Kd.fE 0 dY.out ((wu):Int) (zD) (zD);have vX:=Kd.fJ dY.out ((wu):Int) (((Cm)/4294967296)%4294967296))|((with_reducible refine dN (t:=131) (p:=38) rfl ?_);refine dE (t:=131) (p:=38) (v:=?vo_w23) (w1:=(YQ.setCell ⟨Cf,((wu):Int).toNat,none⟩ (.int .u32 (((Cm)/4294967296)%4294967296)))) ?hg ?ho ?hn ?hr ?_;(case ho=>rfl);(case hg=>rfl);(case hn=>rfl);(case hr=>first|(go_simp;done)|(go_simp;rfl));intro PS hw;have hg:YQ.grownBy PS (some Cf):=(by rw[hw];exact vX.2);have je:Kd.R (Kd.int .u32) 131 PS w.heap.size (fun _=>True) (.slice (some ⟨Cf,0,none⟩) aV.length Zh) y159:=(by rw[hw,afv.out];exact vX.1);clear vX;have dI:=zM (je);have dG:=zM ((by rw[hw];exact dm (HB.out) YX.out:Below w.heap.size w PS));clear dY;clear HB;have dY:=dI;have HB:=dG;clear dI dG;clear hg hw je));go_roundg k1
            case measure=>have:=fM.out;omega
            case rel=>exact⟨(y159),(wu),(by first|rfl|(simp;done)|(simp only[←Qp]<;>(first|rfl|simp))|(simp[*];done)),H',⟨by have:=fM.out;omega⟩,⟨zO dY.out⟩,⟨zB⟩⟩
           ·rw[if_neg c17]at H;exact absurd H (by simp)
          ·rw[if_neg c16]at H;exact absurd H (by simp)
         ·rw[if_neg c13]at H;exact absurd H (by simp)
        ·rw[if_neg c11]at H;exact absurd H (by simp)
       ·rw[if_neg c10]at H;exact absurd H (by simp)
      ·rw[if_neg c9]at H;exact absurd H (by simp)
     ·rw[if_neg c8]at H;have nP:=zF c8;clear c8;obtain rfl:=Option.some.inj H;go_wp2;go_ret;exact⟨_,by first|rfl|(simp[bg,bn]<;>rfl)|(simp only[←kz];first|rfl|(simp[bg,bn]<;>rfl))|(simp[*,bg,bn]<;>rfl),zO dY.out,zB⟩
  ·rw[if_neg c5]at H;exact absurd H (by simp)
 ·rw[if_neg c4]at H;exact absurd H (by simp)
def di.l0:Nat→List Int→Int→List Int→List Int→Int→Int→Option (List Int)
 |0,_,_,_,_,_,_=>none
 |k+1,x0,x1,x5,x12,Hg,x14=>if x14<Hg then(if 0≤x14 then(if x14<(x12.length:Int)then(if(wrap64 (x14+1))<(x0.length:Int)then(if 0≤(wrap64 (x14+1))then(if 0≤x1 then(if x14<(x5.length:Int)then(di.l0 k x0 x1 (x5.set (x14:Int).toNat ((shr .u64 (Go.bits .or .u64 (IntKind.u64.wrap (rd x12 x14)) (IntKind.u64.wrap ((IntKind.u64.wrap (rd x0 (wrap64 (x14+1))))*4294967296))) x1)%4294967296)) x12 Hg (wrap64 (x14+1)))else(none))else(none))else(none))else(if 0≤x1 then(if x14<(x5.length:Int)then(di.l0 k x0 x1 (x5.set (x14:Int).toNat ((shr .u64 (IntKind.u64.wrap (rd x12 x14)) x1)%4294967296)) x12 Hg (wrap64 (x14+1)))else(none))else(none)))else(none))else(none))else(some x5)
def di.f (k:Nat)(l0:List Int)(a1:Int):Option (List Int):=if 0≤(l0.length:Int)then(if((l0.length:Int):Int).toNat≤70368744177664 then(di.l0 k l0 a1 (List.replicate ((l0.length:Int):Int).toNat 0) l0 (l0.length:Int) 0)else(none))else(none)
theorem di.cO:∀k,(∀y0 y1 y2 y3 y4 y5,bT (di.l0 k y0 y1 y2 y3 y4 y5) (di.l0 (k+1) y0 y1 y2 y3 y4 y5))
 |0=>fun _ _ _ _ _ _ r h=>by simp[di.l0]at h
 |k+1=>by
  have gU:=di.cO k
  ·intro y0 y1 y2 y3 y4 y5;unfold di.l0
   repeat' first
   |exact gU _ _ _ _ _ _
   |exact bT.refl _
   |exact bT.none _
   |refine bT.ite ?_ ?_
   |refine bT.bind ?_ (fun _=>?_)
theorem di.mono:∀a0 a1 k,bT (di.f k a0 a1) (di.f (k+1) a0 a1):=by
 intro a0 a1 k;have gU:=di.cO k;unfold di.f
 repeat' first
   |exact gU _ _ _ _ _ _
   |exact bT.refl _
   |exact bT.none _
   |refine bT.ite ?_ ?_
   |refine bT.bind ?_ (fun _=>?_)
theorem di.calls (k:Nat)(A0:Option Addr)(c0:Nat)(l0:List Int)(a1:Int)(r:List Int)(w:World)(hr0:Kd.C (Kd.int .u32) w A0 l0.length l0)(hc0:l0.length≤c0)(h:di.f k l0 a1=some r):
  Calls Tryz.prog 210 #[.slice A0 l0.length c0,.int .i64 a1] w fun e w'=>∃BH:Value,e= .returned (BH)∧Kd.R (Kd.int .u32) 131 w' w.heap.size (fun _=>True) BH r∧Below w.heap.size w w':=by
 have HR0:=zM hr0;have Hw:=zM hc0;clear hr0 hc0;have HB:=zM (Below.refl w.heap.size w);have H:(if 0≤(l0.length:Int)then(if((l0.length:Int):Int).toNat≤70368744177664 then(di.l0 k l0 a1 (List.replicate ((l0.length:Int):Int).toNat 0) l0 (l0.length:Int) 0)else(none))else(none))=some r:=h;clear h
 by_cases c3:0≤(l0.length:Int)
 ·rw[if_pos c3]at H;have iI:=eq_true c3;have kW:=zT c3;clear c3
  by_cases c4:((l0.length:Int):Int).toNat≤70368744177664
  ·rw[if_pos c4]at H;have ig:=eq_true c4;have oQ:=zT c4;clear c4;obtain⟨ahO,WB⟩:∃y_:List Int,y_=(List.replicate ((l0.length:Int):Int).toNat 0):=⟨_,rfl⟩;replace H:(di.l0 k l0 a1 ahO l0 (l0.length:Int) 0)=some r:=zY WB H;have aaR:=zM WB;clear WB;have H':=zM H;clear H;go_enter Tryz.func210,Tryz.ntmps210;go_wp2_with (first|((with_reducible refine jq (N:=11) rfl ?_);refine Kd.xm (Kd.int .u32) _ 131 rfl (N:=11) rfl 171 _ _ rfl (l0.length:Int) rfl rfl Tryz.underlying171 (.int .u32 0) 4 kQ rfl (by decide) (by omega) 0 (ok:=fun _=>True) (mO:=fun _=>True) rfl (fun _ hk=>hk) trivial (zD) (Nat.le_trans (Nat.mul_le_mul_right _ (zD:(l0.length:Int).toNat≤70368744177664)) (by omega)) (Below.refl _ _) (Nat.le_refl _) ?_;intro anA w5 Wl hb D7 kG;clear D7 kG;(first|rw[←aaR.out]at Wl|(simp only[Int.reduceToNat]at Wl;rw[←aaR.out]at Wl));have dI:=zM (Kd.iV Wl (bP (by repeat(first|(with_reducible first|exact HB.out|apply ag|apply ai|apply aC)|exact HB.out))));have dG:=zM (eU (by repeat(first|(with_reducible first|exact HB.out|apply ag|apply ai|apply aC)|exact HB.out)) hb);clear HB;have af4:=dI;have HB:=dG;clear dI dG;clear hb Wl));go_loopg [14] k (fun kq v14 w'=>∃(aV:List Int) (gu:Int),v14= .int .i64 gu∧Aside0 (di.l0 kq l0 a1 aV l0 (l0.length:Int) gu=some r)∧Aside0 (kq≤k)∧Aside0 (Kd.R (Kd.int .u32) 131 w' w.heap.size (fun _=>True) anA aV)∧Aside0 (Below w.heap.size w w'))
   case atStart=>exact⟨(ahO),(0),zR,H',⟨Nat.le_refl _⟩,⟨zO af4.out⟩,⟨zB⟩⟩
   case round=>
    clear H';try clear c2
    try clear p2
    try clear c3
    try clear iI
    try clear kW
    try clear c4
    try clear ig
    try clear oQ
    obtain⟨aV,gu,rfl,HA,fM,dY,HB⟩:=hrel;cases gk with
    |zero=>exact absurd HA.out (by simp[di.l0])
    |succ k1=>
     have H:=HA.out;clear HA;simp only[di.l0]at H
     by_cases c7:gu<(l0.length:Int)
     ·rw[if_pos c7]at H;have lZ:=zT c7;clear c7
      by_cases c8:0≤gu
      ·rw[if_pos c8]at H;have nP:=zT c8;clear c8
       by_cases c9:gu<(l0.length:Int)
       ·rw[if_pos c9]at H;have qL:=zT c9;clear c9
        by_cases c10:(wrap64 (gu+1))<(l0.length:Int)
        ·rw[if_pos c10]at H;have yB:=zT c10;clear c10;obtain⟨yP,KQ⟩:=zI (wrap64 (gu+1));replace H:(if 0≤(yP)then(if 0≤a1 then(if gu<(aV.length:Int)then(di.l0 k1 l0 a1 (aV.set (gu:Int).toNat ((shr .u64 (Go.bits .or .u64 (IntKind.u64.wrap (rd l0 gu)) (IntKind.u64.wrap ((IntKind.u64.wrap (rd l0 (yP)))*4294967296))) a1)%4294967296)) l0 (l0.length:Int) yP)else(none))else(none))else(none))=some r:=by first|(rw[KQ]at H;exact H)|(simp only[KQ]at H⊢;exact H)
         (try rw[KQ]at yB)
         have alM:(IntKind.i64.wrap (gu+1))=yP:=(dL _).trans KQ
         by_cases c12:0≤(yP)
         ·rw[if_pos c12]at H;have rf:=zT c12;clear c12
          by_cases c13:0≤a1
          ·rw[if_pos c13]at H;have oK:=eq_true c13;have P9:=zT c13;clear c13;obtain⟨RV,Qo⟩:=zI (shr .u64 (Go.bits .or .u64 (IntKind.u64.wrap (rd l0 gu)) (IntKind.u64.wrap ((IntKind.u64.wrap (rd l0 (yP)))*4294967296))) a1);replace H:(if gu<(aV.length:Int)then(di.l0 k1 l0 a1 (aV.set (gu:Int).toNat ((RV)%4294967296)) l0 (l0.length:Int) yP)else(none))=some r:=by first|(rw[Qo]at H;exact H)|(simp only[Qo]at H⊢;exact H)
           have alP:((Go.bits .or .u64 (IntKind.u64.wrap (rd l0 gu)) (IntKind.u64.wrap ((IntKind.u64.wrap (rd l0 (yP)))*4294967296)))/2^min a1.toNat 64)=RV:=Qo;have alQ:a1≤64→((Go.bits .or .u64 (IntKind.u64.wrap (rd l0 gu)) (IntKind.u64.wrap ((IntKind.u64.wrap (rd l0 (yP)))*4294967296)))/2^a1.toNat)=RV:=GY Qo
           by_cases c15:gu<(aV.length:Int)
           ·rw[if_pos c15]at H;have Bc:=zT c15;clear c15;obtain⟨aee,WC⟩:∃y_:List Int,y_=(aV.set (gu:Int).toNat ((RV)%4294967296)):=⟨_,rfl⟩;replace H:(di.l0 k1 l0 a1 aee l0 (l0.length:Int) yP)=some r:=zY WC H;have afw:=zM WC;clear WC;have H':=zM H;clear H;have OL:0≤(gu:Int):=zD;have O6:gu<(l0.length:Int):=zD;obtain⟨aaZ,aci,sJ⟩:=Kd.dM HR0.out gu OL O6;cases aci;replace sJ:=(HB.out.cell (World.block_lt_of_cell? w _ sJ)).trans sJ;replace OL:=eq_true OL;replace O6:=eq_true O6;have adF:0≤((yP):Int):=zD;have adT:(yP)<(l0.length:Int):=zD;obtain⟨aga,akX,IK⟩:=Kd.dM HR0.out (yP) adF adT;obtain rfl:aaZ=aga:=(by injection akX);replace IK:=(HB.out.cell (World.block_lt_of_cell? w _ IK)).trans IK;replace adF:=eq_true adF;replace adT:=eq_true adT;have p16:0≤(gu:Int):=zD;have q16:(gu:Int)<((aV.length:Int):Int):=zD;obtain⟨yI,U7,EU,KF,VY,agt,JC⟩:=Kd.jf dY.out (by omega)
            (first|cases EU|(injection EU with ea_ en_ ec_;(first|subst ea_|(injection ea_ with ea_;subst ea_));subst ec_;clear en_))
            have Ho:=zM KF;have aeN:=zM JC;clear KF VY JC;obtain⟨oH,sG⟩:=Kd.fE 0 dY.out (gu:Int) p16 q16;replace p16:=eq_true p16;replace q16:=eq_true q16;have vW:=Kd.fJ dY.out (gu:Int) ((RV)%4294967296);go_wp2_with (first|((with_reducible refine dN (t:=131) (p:=41) rfl ?_);refine dE (t:=131) (p:=41) (v:=?vo_w18) (w1:=(wr.setCell ⟨yI,(gu:Int).toNat,none⟩ (.int .u32 ((RV)%4294967296)))) ?hg ?ho ?hn ?hr ?_;(case ho=>rfl);(case hg=>rfl);(case hn=>rfl);(case hr=>first|(go_simp;done)|(go_simp;rfl));intro Nh hw;have hg:wr.grownBy Nh (some yI):=(by rw[hw];exact vW.2);have je:Kd.R (Kd.int .u32) 131 Nh w.heap.size (fun _=>True) (.slice (some ⟨yI,0,none⟩) aV.length U7) aee:=(by rw[hw,afw.out];exact vW.1);clear vW;have dI:=zM (je);have dG:=zM ((by rw[hw];exact dm (HB.out) Ho.out:Below w.heap.size w Nh));clear dY;clear HB;have dY:=dI;have HB:=dG;clear dI dG;clear hg hw je));go_roundg k1
            case measure=>have:=fM.out;omega
            case rel=>exact⟨(aee),(yP),(by first|rfl|(simp;done)|(simp only[←KQ]<;>(first|rfl|simp))|(simp[*];done)),H',⟨by have:=fM.out;omega⟩,⟨zO dY.out⟩,⟨zB⟩⟩
           ·rw[if_neg c15]at H;exact absurd H (by simp)
          ·rw[if_neg c13]at H;exact absurd H (by simp)
         ·rw[if_neg c12]at H;exact absurd H (by simp)
        ·rw[if_neg c10]at H;have yB:=zF c10;clear c10
         by_cases c19:0≤a1
         ·rw[if_pos c19]at H;have UU:=eq_true c19;have UW:=zT c19;clear c19;obtain⟨RX,Qq⟩:=zI (shr .u64 (IntKind.u64.wrap (rd l0 gu)) a1);replace H:(if gu<(aV.length:Int)then(di.l0 k1 l0 a1 (aV.set (gu:Int).toNat ((RX)%4294967296)) l0 (l0.length:Int) (wrap64 (gu+1)))else(none))=some r:=by first|(rw[Qq]at H;exact H)|(simp only[Qq]at H⊢;exact H)
          have alS:((IntKind.u64.wrap (rd l0 gu))/2^min a1.toNat 64)=RX:=Qq;have alT:a1≤64→((IntKind.u64.wrap (rd l0 gu))/2^a1.toNat)=RX:=GY Qq
          by_cases c21:gu<(aV.length:Int)
          ·rw[if_pos c21]at H;have agr:=zT c21;clear c21;obtain⟨aef,WE⟩:∃y_:List Int,y_=(aV.set (gu:Int).toNat ((RX)%4294967296)):=⟨_,rfl⟩;replace H:(di.l0 k1 l0 a1 aef l0 (l0.length:Int) (wrap64 (gu+1)))=some r:=zY WE H;have afx:=zM WE;clear WE;have H':=zM H;clear H;have OL:0≤(gu:Int):=zD;have O6:gu<(l0.length:Int):=zD;obtain⟨aaZ,aci,sJ⟩:=Kd.dM HR0.out gu OL O6;cases aci;replace sJ:=(HB.out.cell (World.block_lt_of_cell? w _ sJ)).trans sJ;replace OL:=eq_true OL;replace O6:=eq_true O6;have p22:0≤(gu:Int):=zD;have q22:(gu:Int)<((aV.length:Int):Int):=zD;obtain⟨acF,ace,Zw,agR,ale,aqL,aeU⟩:=Kd.jf dY.out (by omega)
           (first|cases Zw|(injection Zw with ea_ en_ ec_;(first|subst ea_|(injection ea_ with ea_;subst ea_));subst ec_;clear en_))
           have ajG:=zM agR;have aq5:=zM aeU;clear agR ale aeU;obtain⟨ame,alE⟩:=Kd.fE 0 dY.out (gu:Int) p22 q22;replace p22:=eq_true p22;replace q22:=eq_true q22;have abO:=Kd.fJ dY.out (gu:Int) ((RX)%4294967296);go_wp2_with (first|((with_reducible refine dN (t:=131) (p:=41) rfl ?_);refine dE (t:=131) (p:=41) (v:=?vo_w24) (w1:=(wr.setCell ⟨acF,(gu:Int).toNat,none⟩ (.int .u32 ((RX)%4294967296)))) ?hg ?ho ?hn ?hr ?_;(case ho=>rfl);(case hg=>rfl);(case hn=>rfl);(case hr=>first|(go_simp;done)|(go_simp;rfl));intro w24 hw;have hg:wr.grownBy w24 (some acF):=(by rw[hw];exact abO.2);have je:Kd.R (Kd.int .u32) 131 w24 w.heap.size (fun _=>True) (.slice (some ⟨acF,0,none⟩) aV.length ace) aef:=(by rw[hw,afx.out];exact abO.1);clear abO;have dI:=zM (je);have dG:=zM ((by rw[hw];exact dm (HB.out) ajG.out:Below w.heap.size w w24));clear dY;clear HB;have dY:=dI;have HB:=dG;clear dI dG;clear hg hw je));go_roundg k1
           case measure=>have:=fM.out;omega
           case rel=>exact⟨(aef),(wrap64 (gu+1)),zR,H',⟨by have:=fM.out;omega⟩,⟨zO dY.out⟩,⟨zB⟩⟩
          ·rw[if_neg c21]at H;exact absurd H (by simp)
         ·rw[if_neg c19]at H;exact absurd H (by simp)
       ·rw[if_neg c9]at H;exact absurd H (by simp)
      ·rw[if_neg c8]at H;exact absurd H (by simp)
     ·rw[if_neg c7]at H;have lZ:=zF c7;clear c7;obtain rfl:=Option.some.inj H;go_wp2;go_ret;exact⟨_,by first|rfl|(simp[bg,bn]<;>rfl)|(simp[*,bg,bn]<;>rfl),zO dY.out,zB⟩
  ·rw[if_neg c4]at H;exact absurd H (by simp)
 ·rw[if_neg c3]at H;exact absurd H (by simp)
mutual
def bM.j0:Nat→ByteArray→Bool→Option (Bool)
 |0,_,_=>none
 |k+1,x0,x21=>if x21=true then(some false)else(bM.l0 k x0 (x0.size:Int) 0)
def bM.l0:Nat→ByteArray→Int→Int→Option (Bool)
 |0,_,_,_=>none
 |k+1,x0,x23,x24=>if x24<x23 then(if 0≤x24 then(if x24<(x0.size:Int)then(if(bt x0 x24)<48 then(some false)else(if(bt x0 x24)>57 then(some false)else(bM.l0 k x0 x23 (wrap64 (x24+1)))))else(none))else(none))else(some true)
end
def bM.f (k:Nat)(a0:ByteArray):Option (Bool):=if(a0.size:Int)=0 then(bM.j0 k a0 true)else(if(a0.size:Int)>600 then(bM.j0 k a0 true)else(if 0<(a0.size:Int)then(if(bt a0 0)=48 then(bM.j0 k a0 (decide ((a0.size:Int)>1)))else(bM.j0 k a0 false))else(none)))
theorem bM.cO:∀k,(∀y0 y1,bT (bM.j0 k y0 y1) (bM.j0 (k+1) y0 y1))∧(∀y0 y1 y2,bT (bM.l0 k y0 y1 y2) (bM.l0 (k+1) y0 y1 y2))
 |0=>⟨fun _ _ r h=>by simp[bM.j0]at h,fun _ _ _ r h=>by simp[bM.l0]at h⟩
 |k+1=>by
  obtain⟨gU,ih1⟩:=bM.cO k;refine⟨?_,?_⟩
  ·intro y0 y1;unfold bM.j0
   repeat' first
   |exact gU _ _
   |exact ih1 _ _ _
   |exact bT.refl _
   |exact bT.none _
   |refine bT.ite ?_ ?_
   |refine bT.bind ?_ (fun _=>?_)
  ·intro y0 y1 y2;unfold bM.l0
   repeat' first
   |exact gU _ _
   |exact ih1 _ _ _
   |exact bT.refl _
   |exact bT.none _
   |refine bT.ite ?_ ?_
   |refine bT.bind ?_ (fun _=>?_)
theorem bM.mono:∀a0 k,bT (bM.f k a0) (bM.f (k+1) a0):=by
 intro a0 k;obtain⟨gU,ih1⟩:=bM.cO k;unfold bM.f
 repeat' first
   |exact gU _ _
   |exact ih1 _ _ _
   |exact bT.refl _
   |exact bT.none _
   |refine bT.ite ?_ ?_
   |refine bT.bind ?_ (fun _=>?_)
theorem bM.calls (k:Nat)(a0:ByteArray)(r:Bool)(w:World)(h:bM.f k a0=some r):
  Calls Tryz.prog 157 #[.string a0] w fun e w'=>e= .returned (.bool r)∧aJ w w':=by
 have H:(if(a0.size:Int)=0 then(bM.j0 k a0 true)else(if(a0.size:Int)>600 then(bM.j0 k a0 true)else(if 0<(a0.size:Int)then(if(bt a0 0)=48 then(bM.j0 k a0 (decide ((a0.size:Int)>1)))else(bM.j0 k a0 false))else(none))))=some r:=h;clear h;have HC2:=zM H;clear H;go_enter Tryz.func157,Tryz.ntmps157;go_upto_region 1 with(fail);go_cut [21] (fun v21 wc=>∃(kq:Nat) (QR:Bool),v21= .bool QR∧Aside0 (bM.j0 kq a0 QR=some r)∧Aside0 (kq≤k)∧aJ w wc)
 case first=>
  have H:=HC2.out;clear HC2
  by_cases c3:(a0.size:Int)=0
  ·rw[if_pos c3]at H;have iI:((a0.size:Int)==0)=true:=beq_iff_eq.mpr c3;have kW:((a0.size:Int) !=0)=false:=bne_eq_false_iff_eq.mpr c3;clear c3
   (first|rw[iI]|(simp only[dL,jK];rw[iI])|skip)
   have H':=zM H;clear H;go_wp2;go_meet
   case rel=>exact⟨_,(true),zR,H',⟨by first|omega|exact Nat.le_refl _⟩,by repeat(first|exact aJ.refl _|apply aJ.step)⟩
  ·rw[if_neg c3]at H;have iI:((a0.size:Int)==0)=false:=beq_eq_false_iff_ne.mpr c3;have kW:((a0.size:Int) !=0)=true:=bne_iff_ne.mpr c3
   (first|rw[iI]|(simp only[dL,jK];rw[iI])|skip)
   by_cases c4:(a0.size:Int)>600
   ·rw[if_pos c4]at H;have ig:=zT c4;have oQ:decide (600<a0.size)=true:=decide_eq_true (by omega);clear c4;have H':=zM H;clear H;go_wp2;go_meet
    case rel=>exact⟨_,(true),zR,H',⟨by first|omega|exact Nat.le_refl _⟩,by repeat(first|exact aJ.refl _|apply aJ.step)⟩
   ·rw[if_neg c4]at H;have ig:=zF c4;have oQ:decide (600<a0.size)=false:=decide_eq_false (by omega);clear c4
    by_cases c5:0<(a0.size:Int)
    ·rw[if_pos c5]at H;have jJ:=zT c5;have qh:decide (0<a0.size)=true:=decide_eq_true (by omega);clear c5
     by_cases c7:(bt a0 0)=48
     ·rw[if_pos c7]at H;have lZ:((bt a0 0)==48)=true:=beq_iff_eq.mpr c7;have JS:((bt a0 0) !=48)=false:=bne_eq_false_iff_eq.mpr c7;clear c7;have H':=zM H;clear H;have p6:0≤(0:Int):=(by omega);have q6:0<a0.size:=(by have:(0:Int)<(a0.size:Int):=zD;omega);have hx6:∀h:0<a0.size,((a0[0]'h).toNat:Int)=bt a0 0:=dQ a0 0;clear p6;have qi6:(0<(a0.size:Int))=True:=eq_true (zD);replace q6:=eq_true q6;go_wp2;go_meet
      case rel=>exact⟨_,(decide ((a0.size:Int)>1)),zR,H',⟨by first|omega|exact Nat.le_refl _⟩,by repeat(first|exact aJ.refl _|apply aJ.step)⟩
     ·rw[if_neg c7]at H;have lZ:((bt a0 0)==48)=false:=beq_eq_false_iff_ne.mpr c7;have JS:((bt a0 0) !=48)=true:=bne_iff_ne.mpr c7;have H':=zM H;clear H;have p6:0≤(0:Int):=(by omega);have q6:0<a0.size:=(by have:(0:Int)<(a0.size:Int):=zD;omega);have hx6:∀h:0<a0.size,((a0[0]'h).toNat:Int)=bt a0 0:=dQ a0 0;clear p6;have qi6:(0<(a0.size:Int))=True:=eq_true (zD);replace q6:=eq_true q6;go_wp2;go_meet
      case rel=>exact⟨_,(false),zR,H',⟨by first|omega|exact Nat.le_refl _⟩,by repeat(first|exact aJ.refl _|apply aJ.step)⟩
    ·rw[if_neg c5]at H;exact absurd H (by simp)
 case rest=>
  clear HC2;try clear c1
  try clear p2
  try clear c3
  try clear iI
  try clear kW
  try clear c4
  try clear ig
  try clear oQ
  try clear c5
  try clear jJ
  try clear qh
  try clear p6
  try clear q6
  try clear hx6
  try clear qi6
  try clear c7
  try clear lZ
  try clear JS
  try clear p6
  try clear q6
  obtain⟨kq,QR,rfl,HA,HJ1,⟨mc1,rfl⟩⟩:=hcut;cases kq with
  |zero=>exact absurd HA.out (by simp[bM.j0])
  |succ kj1=>
   have H:=HA.out;clear HA;simp only[bM.j0]at H
   by_cases c8:QR=true
   ·subst c8;have H1:(some false)=some r:=by rw[if_pos rfl]at H;exact H
    clear H;have H:=H1;clear H1;obtain rfl:=Option.some.inj H;go_wp2;go_ret;exact⟨zR,by repeat(first|exact aJ.refl _|apply aJ.step)⟩
   ·replace c8:=Bool.eq_false_iff.mpr c8;subst c8;have H1:(bM.l0 kj1 a0 (a0.size:Int) 0)=some r:=by rw[if_neg (show¬(false=true)by decide)]at H;exact H
    clear H;have H:=H1;clear H1;have H':=zM H;clear H;go_wp2;go_loopg [24] kj1 (fun kq v24 w'=>∃(kD:Int),v24= .int .i64 kD∧Aside0 (bM.l0 kq a0 (a0.size:Int) kD=some r)∧Aside0 (kq≤kj1)∧aJ w w')
    case atStart=>exact⟨(0),zR,H',⟨Nat.le_refl _⟩,by repeat(first|exact aJ.refl _|apply aJ.step)⟩
    case round=>
     clear H';try clear c1
     try clear p2
     try clear c3
     try clear iI
     try clear kW
     try clear c4
     try clear ig
     try clear oQ
     try clear c5
     try clear jJ
     try clear qh
     try clear p6
     try clear q6
     try clear hx6
     try clear qi6
     try clear c7
     try clear lZ
     try clear JS
     try clear c8
     try clear p2
     try clear p6
     try clear q6
     obtain⟨kD,rfl,HA,BK,⟨m2,rfl⟩⟩:=hrel;cases gk with
     |zero=>exact absurd HA.out (by simp[bM.l0])
     |succ k2=>
      have H:=HA.out;clear HA;simp only[bM.l0]at H
      by_cases c9:kD<(a0.size:Int)
      ·rw[if_pos c9]at H;have qL:=zT c9;clear c9
       by_cases c10:0≤kD
       ·rw[if_pos c10]at H;have yB:=zT c10;clear c10
        by_cases c11:kD<(a0.size:Int)
        ·rw[if_pos c11]at H;have lL:=zT c11;clear c11
         by_cases c13:(bt a0 kD)<48
         ·rw[if_pos c13]at H;have oK:=zT c13;clear c13;obtain rfl:=Option.some.inj H;have p12:0≤(kD:Int):=zD;have q12:kD<(a0.size:Int):=zD;have RU:=dQ a0 kD;replace p12:=eq_true p12;replace q12:=eq_true q12;go_wp2;go_ret;exact⟨zR,by repeat(first|exact aJ.refl _|apply aJ.step)⟩
         ·rw[if_neg c13]at H;have oK:=zF c13;clear c13
          by_cases c15:(bt a0 kD)>57
          ·rw[if_pos c15]at H;have Bc:=zT c15;clear c15;obtain rfl:=Option.some.inj H;have p12:0≤(kD:Int):=zD;have q12:kD<(a0.size:Int):=zD;have RU:=dQ a0 kD;replace p12:=eq_true p12;replace q12:=eq_true q12;have SG:0≤(kD:Int):=zD;have SV:kD<(a0.size:Int):=zD;have amb:=dQ a0 kD;replace SG:=eq_true SG;replace SV:=eq_true SV;go_wp2;go_ret;exact⟨zR,by repeat(first|exact aJ.refl _|apply aJ.step)⟩
          ·rw[if_neg c15]at H;have Bc:=zF c15;clear c15;have H':=zM H;clear H;have p12:0≤(kD:Int):=zD;have q12:kD<(a0.size:Int):=zD;have RU:=dQ a0 kD;replace p12:=eq_true p12;replace q12:=eq_true q12;have SG:0≤(kD:Int):=zD;have SV:kD<(a0.size:Int):=zD;have amb:=dQ a0 kD;replace SG:=eq_true SG;replace SV:=eq_true SV;go_wp2;go_roundg k2
           case measure=>have:=HJ1.out;have:=BK.out;omega
           case rel=>exact⟨(wrap64 (kD+1)),zR,H',⟨by have:=HJ1.out;have:=BK.out;omega⟩,by repeat(first|exact aJ.refl _|apply aJ.step)⟩
        ·rw[if_neg c11]at H;exact absurd H (by simp)
       ·rw[if_neg c10]at H;exact absurd H (by simp)
      ·rw[if_neg c9]at H;have qL:=zF c9;clear c9;obtain rfl:=Option.some.inj H;go_wp2;go_ret;exact⟨zR,by repeat(first|exact aJ.refl _|apply aJ.step)⟩
mutual
def ay.j0:Nat→ByteArray→Bool→Option (Bool)
 |0,_,_=>none
 |k+1,x0,x15=>if x15=true then(some false)else(ay.l0 k x0 0)
def ay.l0:Nat→ByteArray→Int→Option (Bool)
 |0,_,_=>none
 |k+1,x0,x3=>if x3<(x0.size:Int)then(if 0≤x3 then(if(bt x0 x3)<48 then(some false)else(if(bt x0 x3)>57 then(some false)else(ay.l0 k x0 (wrap64 (x3+1)))))else(none))else(some true)
end
def ay.f (k:Nat)(a0:ByteArray):Option (Bool):=if a0.toList=([]:List UInt8)then(ay.j0 k a0 true)else(if 0<(a0.size:Int)then(if(bt a0 0)=48 then(ay.j0 k a0 (decide ((a0.size:Int)>1)))else(ay.j0 k a0 false))else(none))
theorem ay.cO:∀k,(∀y0 y1,bT (ay.j0 k y0 y1) (ay.j0 (k+1) y0 y1))∧(∀y0 y1,bT (ay.l0 k y0 y1) (ay.l0 (k+1) y0 y1))
 |0=>⟨fun _ _ r h=>by simp[ay.j0]at h,fun _ _ r h=>by simp[ay.l0]at h⟩
 |k+1=>by
  obtain⟨gU,ih1⟩:=ay.cO k;refine⟨?_,?_⟩
  ·intro y0 y1;unfold ay.j0
   repeat' first
   |exact gU _ _
   |exact ih1 _ _
   |exact bT.refl _
   |exact bT.none _
   |refine bT.ite ?_ ?_
   |refine bT.bind ?_ (fun _=>?_)
  ·intro y0 y1;unfold ay.l0
   repeat' first
   |exact gU _ _
   |exact ih1 _ _
   |exact bT.refl _
   |exact bT.none _
   |refine bT.ite ?_ ?_
   |refine bT.bind ?_ (fun _=>?_)
theorem ay.mono:∀a0 k,bT (ay.f k a0) (ay.f (k+1) a0):=by
 intro a0 k;obtain⟨gU,ih1⟩:=ay.cO k;unfold ay.f
 repeat' first
   |exact gU _ _
   |exact ih1 _ _
   |exact bT.refl _
   |exact bT.none _
   |refine bT.ite ?_ ?_
   |refine bT.bind ?_ (fun _=>?_)
theorem ay.calls (k:Nat)(a0:ByteArray)(r:Bool)(w:World)(h:ay.f k a0=some r):
  Calls Tryz.prog 127 #[.string a0] w fun e w'=>e= .returned (.bool r)∧aJ w w':=by
 have H:(if a0.toList=([]:List UInt8)then(ay.j0 k a0 true)else(if 0<(a0.size:Int)then(if(bt a0 0)=48 then(ay.j0 k a0 (decide ((a0.size:Int)>1)))else(ay.j0 k a0 false))else(none)))=some r:=h;clear h;have HC2:=zM H;clear H;go_enter Tryz.func127,Tryz.ntmps127;go_upto_region 1 with(fail);go_cut [15] (fun v15 wc=>∃(kq:Nat) (gQ:Bool),v15= .bool gQ∧Aside0 (ay.j0 kq a0 gQ=some r)∧Aside0 (kq≤k)∧aJ w wc)
 case first=>
  have H:=HC2.out;clear HC2
  by_cases c3:a0.toList=([]:List UInt8)
  ·rw[if_pos c3]at H;have iI:(a0.toList==([]:List UInt8))=true:=beq_iff_eq.mpr c3;have kW:(a0.toList !=([]:List UInt8))=false:=bne_eq_false_iff_eq.mpr c3;clear c3
   (first|rw[iI]|(simp only[dL,jK];rw[iI])|skip)
   have H':=zM H;clear H;go_wp2;go_meet
   case rel=>exact⟨_,(true),zR,H',⟨by first|omega|exact Nat.le_refl _⟩,by repeat(first|exact aJ.refl _|apply aJ.step)⟩
  ·rw[if_neg c3]at H;have iI:(a0.toList==([]:List UInt8))=false:=beq_eq_false_iff_ne.mpr c3;have kW:(a0.toList !=([]:List UInt8))=true:=bne_iff_ne.mpr c3
   (first|rw[iI]|(simp only[dL,jK];rw[iI])|skip)
   by_cases c4:0<(a0.size:Int)
   ·rw[if_pos c4]at H;have ig:=zT c4;have oQ:decide (0<a0.size)=true:=decide_eq_true (by omega);clear c4
    by_cases c6:(bt a0 0)=48
    ·rw[if_pos c6]at H;have iP:((bt a0 0)==48)=true:=beq_iff_eq.mpr c6;have og:((bt a0 0) !=48)=false:=bne_eq_false_iff_eq.mpr c6;clear c6;have H':=zM H;clear H;have p5:0≤(0:Int):=(by omega);have q5:0<a0.size:=(by have:(0:Int)<(a0.size:Int):=zD;omega);have hx5:∀h:0<a0.size,((a0[0]'h).toNat:Int)=bt a0 0:=dQ a0 0;clear p5;have qi5:(0<(a0.size:Int))=True:=eq_true (zD);replace q5:=eq_true q5;go_wp2;go_meet
     case rel=>exact⟨_,(decide ((a0.size:Int)>1)),zR,H',⟨by first|omega|exact Nat.le_refl _⟩,by repeat(first|exact aJ.refl _|apply aJ.step)⟩
    ·rw[if_neg c6]at H;have iP:((bt a0 0)==48)=false:=beq_eq_false_iff_ne.mpr c6;have og:((bt a0 0) !=48)=true:=bne_iff_ne.mpr c6;have H':=zM H;clear H;have p5:0≤(0:Int):=(by omega);have q5:0<a0.size:=(by have:(0:Int)<(a0.size:Int):=zD;omega);have hx5:∀h:0<a0.size,((a0[0]'h).toNat:Int)=bt a0 0:=dQ a0 0;clear p5;have qi5:(0<(a0.size:Int))=True:=eq_true (zD);replace q5:=eq_true q5;go_wp2;go_meet
     case rel=>exact⟨_,(false),zR,H',⟨by first|omega|exact Nat.le_refl _⟩,by repeat(first|exact aJ.refl _|apply aJ.step)⟩
   ·rw[if_neg c4]at H;exact absurd H (by simp)
 case rest=>
  clear HC2;try clear c1
  try clear p2
  try clear c3
  try clear iI
  try clear kW
  try clear c4
  try clear ig
  try clear oQ
  try clear p5
  try clear q5
  try clear hx5
  try clear qi5
  try clear c6
  try clear iP
  try clear og
  try clear p5
  try clear q5
  obtain⟨kq,gQ,rfl,HA,HJ1,⟨mc1,rfl⟩⟩:=hcut;cases kq with
  |zero=>exact absurd HA.out (by simp[ay.j0])
  |succ kj1=>
   have H:=HA.out;clear HA;simp only[ay.j0]at H
   by_cases c7:gQ=true
   ·subst c7;have H1:(some false)=some r:=by rw[if_pos rfl]at H;exact H
    clear H;have H:=H1;clear H1;obtain rfl:=Option.some.inj H;go_wp2;go_ret;exact⟨zR,by repeat(first|exact aJ.refl _|apply aJ.step)⟩
   ·replace c7:=Bool.eq_false_iff.mpr c7;subst c7;have H1:(ay.l0 kj1 a0 0)=some r:=by rw[if_neg (show¬(false=true)by decide)]at H;exact H
    clear H;have H:=H1;clear H1;have H':=zM H;clear H;go_wp2;go_loopg [3] kj1 (fun kq v3 w'=>∃(qf:Int),v3= .int .i64 qf∧Aside0 (ay.l0 kq a0 qf=some r)∧Aside0 (kq≤kj1)∧aJ w w')
    case atStart=>exact⟨(0),zR,H',⟨Nat.le_refl _⟩,by repeat(first|exact aJ.refl _|apply aJ.step)⟩
    case round=>
     clear H';try clear c1
     try clear p2
     try clear c3
     try clear iI
     try clear kW
     try clear c4
     try clear ig
     try clear oQ
     try clear p5
     try clear q5
     try clear hx5
     try clear qi5
     try clear c6
     try clear iP
     try clear og
     try clear c7
     try clear p2
     try clear p5
     try clear q5
     obtain⟨qf,rfl,HA,BK,⟨m2,rfl⟩⟩:=hrel;cases gk with
     |zero=>exact absurd HA.out (by simp[ay.l0])
     |succ k2=>
      have H:=HA.out;clear HA;simp only[ay.l0]at H
      by_cases c8:qf<(a0.size:Int)
      ·rw[if_pos c8]at H;have nP:=zT c8;clear c8
       by_cases c9:0≤qf
       ·rw[if_pos c9]at H;have qL:=zT c9;clear c9
        by_cases c11:(bt a0 qf)<48
        ·rw[if_pos c11]at H;have lL:=zT c11;clear c11;obtain rfl:=Option.some.inj H;have p10:0≤(qf:Int):=zD;have q10:qf<(a0.size:Int):=zD;have tX:=dQ a0 qf;replace p10:=eq_true p10;replace q10:=eq_true q10;go_wp2;go_ret;exact⟨zR,by repeat(first|exact aJ.refl _|apply aJ.step)⟩
        ·rw[if_neg c11]at H;have lL:=zF c11;clear c11
         by_cases c13:(bt a0 qf)>57
         ·rw[if_pos c13]at H;have oK:=zT c13;clear c13;obtain rfl:=Option.some.inj H;have p10:0≤(qf:Int):=zD;have q10:qf<(a0.size:Int):=zD;have tX:=dQ a0 qf;replace p10:=eq_true p10;replace q10:=eq_true q10;have p12:0≤(qf:Int):=zD;have q12:qf<(a0.size:Int):=zD;have RU:=dQ a0 qf;replace p12:=eq_true p12;replace q12:=eq_true q12;go_wp2;go_ret;exact⟨zR,by repeat(first|exact aJ.refl _|apply aJ.step)⟩
         ·rw[if_neg c13]at H;have oK:=zF c13;clear c13;have H':=zM H;clear H;have p10:0≤(qf:Int):=zD;have q10:qf<(a0.size:Int):=zD;have tX:=dQ a0 qf;replace p10:=eq_true p10;replace q10:=eq_true q10;have p12:0≤(qf:Int):=zD;have q12:qf<(a0.size:Int):=zD;have RU:=dQ a0 qf;replace p12:=eq_true p12;replace q12:=eq_true q12;go_wp2;go_roundg k2
          case measure=>have:=HJ1.out;have:=BK.out;omega
          case rel=>exact⟨(wrap64 (qf+1)),zR,H',⟨by have:=HJ1.out;have:=BK.out;omega⟩,by repeat(first|exact aJ.refl _|apply aJ.step)⟩
       ·rw[if_neg c9]at H;exact absurd H (by simp)
      ·rw[if_neg c8]at H;have nP:=zF c8;clear c8;obtain rfl:=Option.some.inj H;go_wp2;go_ret;exact⟨zR,by repeat(first|exact aJ.refl _|apply aJ.step)⟩
def ed.f (k:Nat)(a0:ByteArray):Option (Bool):=if(a0.size:Int)≤600 then((ay.f k a0).bind fun t195=>(some t195))else(some false)
theorem ed.mono:∀a0 k,bT (ed.f k a0) (ed.f (k+1) a0):=by
 intro a0 k;unfold ed.f
 repeat' first
   |(with_reducible exact ay.mono _ _)
   |exact bT.refl _
   |exact bT.none _
   |refine bT.ite ?_ ?_
   |refine bT.bind ?_ (fun _=>?_)
   |exact ay.mono _ _
theorem ed.calls (k:Nat)(a0:ByteArray)(r:Bool)(w:World)(h:ed.f k a0=some r):
  Calls Tryz.prog 92 #[.string a0] w fun e w'=>e= .returned (.bool r)∧aJ w w':=by
 have H:(if(a0.size:Int)≤600 then((ay.f k a0).bind fun t195=>(some t195))else(some false))=some r:=h;clear h
 by_cases c2:(a0.size:Int)≤600
 ·rw[if_pos c2]at H;have kE:=zT c2;have xw:decide (a0.size≤600)=true:=decide_eq_true (by omega);clear c2;replace H:=Option.bind_eq_some_iff.mp H;obtain⟨t195,TS,H⟩:=H;replace H:(some t195)=some r:=H;have A3:=zM TS;clear TS;obtain rfl:=Option.some.inj H;go_enter Tryz.func92,Tryz.ntmps92;go_wp2_with (first|(go_at_call 127;(with_reducible refine(ay.calls k a0 t195 _ A3.out).mono ?_);rintro e w' ⟨rfl,⟨nd,rfl⟩⟩));go_ret;exact⟨zR,by repeat(first|exact aJ.refl _|apply aJ.step)⟩
 ·rw[if_neg c2]at H;have kE:=zF c2;have xw:decide (a0.size≤600)=false:=decide_eq_false (by omega);clear c2;obtain rfl:=Option.some.inj H;go_enter Tryz.func92,Tryz.ntmps92;go_wp2;go_ret;exact⟨zR,by repeat(first|exact aJ.refl _|apply aJ.step)⟩
def aG.l0:Nat→List Int→Option (List Int)
 |0,_=>none
 |k+1,x0=>if(x0.length:Int)>0 then(if 0≤(wrap64 ((x0.length:Int)- 1))then(if(wrap64 ((x0.length:Int)- 1))<(x0.length:Int)then(if(rd x0 (wrap64 ((x0.length:Int)- 1)))=0 then(if(wrap64 ((x0.length:Int)- 1))≤(x0.length:Int)then(aG.l0 k (x0.take ((wrap64 ((x0.length:Int)- 1)):Int).toNat))else(none))else(some x0))else(none))else(none))else(some x0)
def aG.f (k:Nat)(l0:List Int):Option (List Int):=aG.l0 k l0
theorem aG.cO:∀k,(∀y0,bT (aG.l0 k y0) (aG.l0 (k+1) y0))
 |0=>fun _ r h=>by simp[aG.l0]at h
 |k+1=>by
  have gU:=aG.cO k
  ·intro y0;unfold aG.l0
   repeat' first
   |exact gU _
   |exact bT.refl _
   |exact bT.none _
   |refine bT.ite ?_ ?_
   |refine bT.bind ?_ (fun _=>?_)
theorem aG.mono:∀a0 k,bT (aG.f k a0) (aG.f (k+1) a0):=by
 intro a0 k;have gU:=aG.cO k;unfold aG.f
 repeat' first
   |exact gU _
   |exact bT.refl _
   |exact bT.none _
   |refine bT.ite ?_ ?_
   |refine bT.bind ?_ (fun _=>?_)
theorem aG.calls (k:Nat)(iG:Nat→Prop)(A0:Option Addr)(c0:Nat)(l0:List Int)(r:List Int)(w:World)(hs0:Kd.V (Kd.int .i64) 3 w w.heap.size (fun k_=>iG k_) (.slice A0 l0.length c0) l0)(h:aG.f k l0=some r):
  Calls Tryz.prog 178 #[.slice A0 l0.length c0] w fun e w'=>∃BH:Value,e= .returned (BH)∧Kd.V (Kd.int .i64) 3 w' w.heap.size (fun k_=>(iG k_∨w.heap.size≤k_)) BH r∧Below w.heap.size w w':=by
 have zC:=zM (show Kd.V (Kd.int .i64) 3 w w.heap.size (fun k_=>(iG k_∨w.heap.size≤k_)) (.slice A0 l0.length c0) l0 from Kd.qK hs0 (fun k_ hk=> .inl hk));have HB:=zM (Below.refl w.heap.size w);have H:(aG.l0 k l0)=some r:=h;clear h;have H':=zM H;clear H;go_enter Tryz.func178,Tryz.ntmps178;go_wp2;go_loopg [0] k (fun kq v0 w'=>∃(aU:List Int),Aside0 (aG.l0 kq aU=some r)∧Aside0 (kq≤k)∧Aside0 (Kd.V (Kd.int .i64) 3 w' w.heap.size (fun k_=>(iG k_∨w.heap.size≤k_)) v0 aU)∧Aside0 (Below w.heap.size w w'))
 case atStart=>exact⟨(l0),H',⟨Nat.le_refl _⟩,⟨by(with_reducible repeat(first|apply Kd.lq|apply Kd.lu|apply Kd.nX));exact zC.out⟩,⟨zB⟩⟩
 case round=>
  clear H';try clear c1
  obtain⟨aU,HA,fM,bF,HB⟩:=hrel;cases gk with
  |zero=>exact absurd HA.out (by simp[aG.l0])
  |succ k1=>
   have H:=HA.out;clear HA;simp only[aG.l0]at H
   by_cases c2:(aU.length:Int)>0
   ·rw[if_pos c2]at H;have kE:=zT c2;have xw:decide (0<aU.length)=true:=decide_eq_true (by omega);clear c2;obtain⟨gX,kz⟩:=zI (wrap64 ((aU.length:Int)- 1));replace H:(if 0≤(gX)then(if(gX)<(aU.length:Int)then(if(rd aU (gX))=0 then(if(gX)≤(aU.length:Int)then(aG.l0 k1 (aU.take ((gX):Int).toNat))else(none))else(some aU))else(none))else(none))=some r:=by first|(rw[kz]at H;exact H)|(simp only[kz]at H⊢;exact H)
    have Gv:(IntKind.i64.wrap ((aU.length:Int)- 1))=gX:=(dL _).trans kz
    by_cases c4:0≤(gX)
    ·rw[if_pos c4]at H;have ig:=zT c4;clear c4
     by_cases c5:(gX)<(aU.length:Int)
     ·rw[if_pos c5]at H;have jJ:=zT c5;clear c5
      by_cases c6:(rd aU (gX))=0
      ·rw[if_pos c6]at H;have iP:((rd aU (gX))==0)=true:=beq_iff_eq.mpr c6;have og:((rd aU (gX)) !=0)=false:=bne_eq_false_iff_eq.mpr c6;clear c6;have lZ:=eq_true (zD:0≤(gX))
       by_cases c8:(gX)≤(aU.length:Int)
       ·rw[if_pos c8]at H;have nP:=eq_true c8;have UY:=zT c8;clear c8;obtain⟨TJ,WG⟩:∃y_:List Int,y_=(aU.take ((gX):Int).toNat):=⟨_,rfl⟩;replace H:(aG.l0 k1 TJ)=some r:=zY WG H;have aaS:=zM WG;clear WG;have H':=zM H;clear H;obtain⟨Ao9,Zj,eo9⟩:=Kd.nH bF.out;subst eo9;have OM:0≤((gX):Int):=zD;have O7:(gX)<(aU.length:Int):=zD;obtain⟨P7,acj,ZK⟩:=Kd.dM (Kd.jl bF.out).2.2 (gX) OM O7;cases acj;replace OM:=eq_true OM;replace O7:=eq_true O7;have q10:((gX):Int)≤((aU.length:Int):Int):=zD;obtain⟨Xo,oL,_,wO,_⟩:=info_parts info3;have yL:aU.length≤Zj:=(Kd.jl bF.out).2.1;have V5:Kd.F (Kd.int .i64) _ _ (some P7) aU.length aU:=(Kd.UF (base:=w.heap.size) bF.out).2.2;have sD:=xy (P:=Tryz.prog) 62 3 .i64 Tryz.underlying62 oL (some P7) aU.length Zj (gX) (zD) q10 yL;have vZ:=Kd.Nq (m:=((gX):Int).toNat) V5 (by omega);have sN:TJ.length=((gX):Int).toNat:=(by rw[aaS.out,List.length_take];omega);rw[←aaS.out]at vZ;rw[←sN]at sD;have af5:=zM (show Kd.V (Kd.int .i64) 3 _ w.heap.size _ (.slice (some P7) TJ.length Zj) TJ from Kd.Zc (by omega) vZ);have anZ:=zM (show TJ.length≤Zj from by omega);clear vZ V5 yL oL wO;have Y6:=zM sN;clear sN;replace q10:=eq_true q10;go_wp2;go_roundg k1
        case measure=>have:=fM.out;omega
        case rel=>exact⟨(TJ),H',⟨by have:=fM.out;omega⟩,⟨by(with_reducible repeat(first|apply Kd.lq|apply Kd.lu|apply Kd.nX));exact af5.out⟩,⟨zB⟩⟩
       ·rw[if_neg c8]at H;exact absurd H (by simp)
      ·rw[if_neg c6]at H;have iP:((rd aU (gX))==0)=false:=beq_eq_false_iff_ne.mpr c6;have og:((rd aU (gX)) !=0)=true:=bne_iff_ne.mpr c6;obtain rfl:=Option.some.inj H;obtain⟨aeI,uy,Vm⟩:=Kd.nH bF.out;subst Vm;have OM:0≤((gX):Int):=zD;have O7:(gX)<(aU.length:Int):=zD;obtain⟨P7,acj,ZK⟩:=Kd.dM (Kd.jl bF.out).2.2 (gX) OM O7;cases acj;replace OM:=eq_true OM;replace O7:=eq_true O7;go_wp2;go_ret;exact⟨_,by first|rfl|(simp[bg,bn]<;>rfl)|(simp only[←kz];first|rfl|(simp[bg,bn]<;>rfl))|(simp[*,bg,bn]<;>rfl),by(with_reducible repeat(first|apply Kd.lq|apply Kd.lu|apply Kd.nX));exact bF.out,zB⟩
     ·rw[if_neg c5]at H;exact absurd H (by simp)
    ·rw[if_neg c4]at H;exact absurd H (by simp)
   ·rw[if_neg c2]at H;have kE:=zF c2;have xw:decide (0<aU.length)=false:=decide_eq_false (by omega);clear c2;obtain rfl:=Option.some.inj H;obtain⟨Nj,ET,zQ⟩:=Kd.nH bF.out;subst zQ;go_wp2;go_ret;exact⟨_,by first|rfl|(simp[bg,bn]<;>rfl)|(simp[*,bg,bn]<;>rfl),by(with_reducible repeat(first|apply Kd.lq|apply Kd.lu|apply Kd.nX));exact bF.out,zB⟩
end Go.Proofs.YthbdjmopolpjmaaGreatDoor.F
