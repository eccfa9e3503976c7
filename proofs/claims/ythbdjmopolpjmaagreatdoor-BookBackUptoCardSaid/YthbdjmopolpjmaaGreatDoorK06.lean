/- Part 6 of the proof. -/
import Derived.Test.YthbdjmopolpjmaaGreatDoorK01
set_option linter.unusedVariables false
set_option linter.unusedSimpArgs false
set_option maxHeartbeats 8000000
set_option maxRecDepth 100000
namespace Go.Proofs.YthbdjmopolpjmaaGreatDoor.F
open Go.RowKit Go.Proofs.YthbdjmopolpjmaaGreatDoorW.PrintWords Go.Proofs.YthbdjmopolpjmaaGreatDoorW.PrintLast Go.Proofs.YthbdjmopolpjmaaGreatDoorW.PrintMore
attribute [local go_sem] max2_int min2_int max_two min_two max_three min_three max_four min_four
def bz.l0:Nat→ByteArray→List Int→Int→Option (ByteArray)
 |0,_,_,_=>none
 |k+1,x0,x3,x4=>if x4<(x0.size:Int)then(if 0≤x4 then(if(bt x0 x4)=92 then((some (([92,92]:List Int):List Int)).bind fun Ju=>(if x3.length+Ju.length<140737488355328 then(bz.l0 k x0 (x3++Ju) (wrap64 (x4+1)))else(none)))else(if(bt x0 x4)=9 then((some (([92,116]:List Int):List Int)).bind fun Jv=>(if x3.length+Jv.length<140737488355328 then(bz.l0 k x0 (x3++Jv) (wrap64 (x4+1)))else(none)))else(if(bt x0 x4)=10 then((some (([92,110]:List Int):List Int)).bind fun Jw=>(if x3.length+Jw.length<140737488355328 then(bz.l0 k x0 (x3++Jw) (wrap64 (x4+1)))else(none)))else(if x3.length<140737488355328 then(bz.l0 k x0 (x3++[bt x0 x4]) (wrap64 (x4+1)))else(none)))))else(none))else(some (strOfNums x3))
def bz.f (k:Nat)(a0:ByteArray):Option (ByteArray):=bz.l0 k a0 ([]:List Int) 0
theorem bz.cO:∀k,(∀y0 y1 y2,bT (bz.l0 k y0 y1 y2) (bz.l0 (k+1) y0 y1 y2))
 |0=>fun _ _ _ r h=>by simp[bz.l0]at h
 |k+1=>by
  have gU:=bz.cO k
  ·intro y0 y1 y2;unfold bz.l0
   repeat' first
   |exact gU _ _ _
   |exact bT.refl _
   |exact bT.none _
   |refine bT.ite ?_ ?_
   |refine bT.bind ?_ (fun _=>?_)
theorem bz.mono:∀a0 k,bT (bz.f k a0) (bz.f (k+1) a0):=by
 intro a0 k;have gU:=bz.cO k;unfold bz.f
 repeat' first
   |exact gU _ _ _
   |exact bT.refl _
   |exact bT.none _
   |refine bT.ite ?_ ?_
   |refine bT.bind ?_ (fun _=>?_)
theorem bz.calls (k:Nat)(a0:ByteArray)(r:ByteArray)(w:World)(h:bz.f k a0=some r):
  Calls Tryz.prog 59 #[.string a0] w fun e w'=>e= .returned (.string r)∧Below w.heap.size w w':=by
 have HB:=zM (Below.refl w.heap.size w);have H:(bz.l0 k a0 ([]:List Int) 0)=some r:=h;clear h;have H':=zM H;clear H;go_enter Tryz.func59,Tryz.ntmps59;go_wp2;go_loopg [3,4] k (fun kq v3 v4 w'=>∃(fH:List Int) (dJ:Int),v4= .int .i64 dJ∧Aside0 (bz.l0 kq a0 fH dJ=some r)∧Aside0 (kq≤k)∧Aside0 (Kd.R (Kd.int .u8) 5 w' w.heap.size (fun _=>True) v3 fH)∧Aside0 (Below w.heap.size w w'))
 case atStart=>exact⟨(([]:List Int)),(0),zR,H',⟨Nat.le_refl _⟩,⟨by first|exact Kd.jB _ _ _ _ _|exact Kd.FN _ _ _ _ _|exact Kd.FT _ _ _ _ _|exact Kd.FP _ _ _ _ _|exact Kd.tH _ _ _ _ _⟩,⟨zB⟩⟩
 case round=>
  clear H';obtain⟨fH,dJ,rfl,HA,fM,ik,HB⟩:=hrel;cases gk with
  |zero=>exact absurd HA.out (by simp[bz.l0])
  |succ k1=>
   have H:=HA.out;clear HA;simp only[bz.l0]at H
   by_cases c2:dJ<(a0.size:Int)
   ·rw[if_pos c2]at H;have kE:=zT c2;clear c2
    by_cases c3:0≤dJ
    ·rw[if_pos c3]at H;have iI:=zT c3;clear c3
     by_cases c5:(bt a0 dJ)=92
     ·rw[if_pos c5]at H;have jJ:((bt a0 dJ)==92)=true:=beq_iff_eq.mpr c5;have qh:((bt a0 dJ) !=92)=false:=bne_eq_false_iff_eq.mpr c5;clear c5;obtain⟨Ju,WR⟩:∃y_:List Int,y_=(([92,92]:List Int)):=⟨_,rfl⟩;replace H:(if fH.length+Ju.length<140737488355328 then(bz.l0 k1 a0 (fH++Ju) (wrap64 (dJ+1)))else(none))=some r:=zY WR H;have aaT:=zM WR;clear WR
      by_cases c6:fH.length+Ju.length<140737488355328
      ·rw[if_pos c6]at H;have akk:=zM c6;clear c6;obtain⟨ahQ,WS⟩:∃y_:List Int,y_=(fH++Ju):=⟨_,rfl⟩;replace H:(bz.l0 k1 a0 ahQ (wrap64 (dJ+1)))=some r:=zY WS H;have afC:=zM WS;clear WS;have H':=zM H;clear H;have p4:0≤(dJ:Int):=zD;have q4:dJ<(a0.size:Int):=zD;have hx4:=dQ a0 dJ;replace p4:=eq_true p4;replace q4:=eq_true q4;go_wp2_with (first|((with_reducible refine jq (N:=23) rfl ?_);refine Kd.FQ (Kd.int .u8) _ 5 ?hg (N:=23) ?hd (xs:=([92,92]:List Int)) (inner:=[.int .u8 92,.int .u8 92]) (ok:=fun _=>True) (mO:=fun _=>True) ?hr ?hp (fun _ hk=>hk) trivial (Below.refl _ _) (Nat.le_refl _) (by simp) ?_;(case hd=>rfl);(case hg=>rfl);(case hr=>first|(go_simp;done)|(go_simp;rfl));(case hp=>exact(fF.one (show Kd.M (Kd.int .u8) _ _ _ 92 [.int .u8 92]from rfl) (fF.one (show Kd.M (Kd.int .u8) _ _ _ 92 [.int .u8 92]from rfl) (fF.none _ _))));intro atp w7 ho8 hb D7 kG;clear D7 kG;(first|rw[←aaT.out]at ho8|(simp only[Int.reduceToNat]at ho8;rw[←aaT.out]at ho8));have dI:=zM (Kd.Dv (by(with_reducible repeat(first|apply Kd.dC|apply Kd.dD|apply Kd.dR));exact ik.out) (Kd.Du ho8) hb);have dG:=zM (Kd.iV (Kd.NJ ho8 (Kd.Dw (by(with_reducible repeat(first|apply Kd.dC|apply Kd.dD|apply Kd.dR));exact ik.out))) (bP (by repeat(first|(with_reducible first|exact HB.out|apply ag|apply ai|apply aC)|exact HB.out))));have fQ:=zM (eU (by repeat(first|(with_reducible first|exact HB.out|apply ag|apply ai|apply aC)|exact HB.out)) hb);clear ik;clear HB;have ik:=dI;have FH:=dG;have HB:=fQ;clear dI dG fQ;clear hb ho8;obtain⟨ajq,agu,Zt⟩:=Kd.fO FH.out;subst Zt)|((with_reducible refine bK (b:= .append) (xs:= #[.tmp 22,.tmp 23]) rfl ?_);at_builtin;refine Kd.kT (Kd.int .u8) (w0:=w) w.heap.size rfl (.tmp 22) (.tmp 23) 50 5 (.int .u8 0) 1 rfl Tryz.underlying50 info5 rfl (by decide) (by omega) u3 fH Ju _ _ _ (fun k_=>some k_≠(.slice ajq Ju.length agu:Value).ownBlock) (fun _=>False) rfl rfl ?aO ?aR (fun _ _ h=>h) (fun _ h=>h.elim) ?aF ?aB ?aS ?aL ?_;(case aR=>repeat(first|exact(Kd.dA FH.out).2.2|(with_reducible refine Kd.lg ?_ _)|(with_reducible refine Kd.lh ?_ _)|(with_reducible refine Kd.nV ?_)));(case aB=>exact(by repeat(first|(with_reducible first|exact HB.out|apply ag|apply ai|apply aC)|exact HB.out)));(case aF=>exact(fun k_ hk=>Kd.fresh' (Kd.Dw (by(with_reducible repeat(first|apply Kd.dC|apply Kd.dD|apply Kd.dR));exact FH.out)) k_ hk));(case aO=>exact(by(with_reducible repeat(first|apply Kd.dC|apply Kd.dD|apply Kd.dR));exact Kd.gI ik.out (fun _ hk=>hk.2)));(case aS=>exact(bP (by repeat(first|(with_reducible first|exact HB.out|apply ag|apply ai|apply aC)|exact HB.out))));(case aL=>have:=akk.out;omega);intro atq w9 ho hb hg hat;rw[←afC.out]at ho;have dI:=zM (Kd.Ic (ok:=(fun _=>True)) (by(with_reducible repeat(first|apply Kd.dC|apply Kd.dD|apply Kd.dR));exact FH.out) hg hat);have dG:=zM (hb);have fQ:=zM (ho);clear FH;clear HB;clear ik;have FH:=dI;have HB:=dG;have af7:=fQ;clear dI dG fQ;clear ho hb hg hat));go_roundg k1
       case measure=>have:=fM.out;omega
       case rel=>exact⟨(ahQ),(wrap64 (dJ+1)),zR,H',⟨by have:=fM.out;omega⟩,⟨by(with_reducible repeat(first|apply Kd.dC|apply Kd.dD|apply Kd.dR));exact Kd.gI af7.out (fun _ hk=>trivial)⟩,⟨zB⟩⟩
      ·rw[if_neg c6]at H;exact absurd H (by simp)
     ·rw[if_neg c5]at H;have jJ:((bt a0 dJ)==92)=false:=beq_eq_false_iff_ne.mpr c5;have qh:((bt a0 dJ) !=92)=true:=bne_iff_ne.mpr c5
      by_cases c11:(bt a0 dJ)=9
      ·rw[if_pos c11]at H;have lL:((bt a0 dJ)==9)=true:=beq_iff_eq.mpr c11;have A7:((bt a0 dJ) !=9)=false:=bne_eq_false_iff_eq.mpr c11;clear c11;obtain⟨Jv,WT⟩:∃y_:List Int,y_=(([92,116]:List Int)):=⟨_,rfl⟩;replace H:(if fH.length+Jv.length<140737488355328 then(bz.l0 k1 a0 (fH++Jv) (wrap64 (dJ+1)))else(none))=some r:=zY WT H;have aaU:=zM WT;clear WT
       by_cases c12:fH.length+Jv.length<140737488355328
       ·rw[if_pos c12]at H;have Dp:=zM c12;clear c12;obtain⟨ahR,WU⟩:∃y_:List Int,y_=(fH++Jv):=⟨_,rfl⟩;replace H:(bz.l0 k1 a0 ahR (wrap64 (dJ+1)))=some r:=zY WU H;have afD:=zM WU;clear WU;have H':=zM H;clear H;have p4:0≤(dJ:Int):=zD;have q4:dJ<(a0.size:Int):=zD;have hx4:=dQ a0 dJ;replace p4:=eq_true p4;replace q4:=eq_true q4;go_wp2_with (first|((with_reducible refine jq (N:=28) rfl ?_);refine Kd.FQ (Kd.int .u8) _ 5 ?hg (N:=28) ?hd (xs:=([92,116]:List Int)) (inner:=[.int .u8 92,.int .u8 116]) (ok:=fun _=>True) (mO:=fun _=>True) ?hr ?hp (fun _ hk=>hk) trivial (Below.refl _ _) (Nat.le_refl _) (by simp) ?_;(case hd=>rfl);(case hg=>rfl);(case hr=>first|(go_simp;done)|(go_simp;rfl));(case hp=>exact(fF.one (show Kd.M (Kd.int .u8) _ _ _ 92 [.int .u8 92]from rfl) (fF.one (show Kd.M (Kd.int .u8) _ _ _ 116 [.int .u8 116]from rfl) (fF.none _ _))));intro atr w13 RQ hb D7 kG;clear D7 kG;(first|rw[←aaU.out]at RQ|(simp only[Int.reduceToNat]at RQ;rw[←aaU.out]at RQ));have dI:=zM (Kd.Dv (by(with_reducible repeat(first|apply Kd.dC|apply Kd.dD|apply Kd.dR));exact ik.out) (Kd.Du RQ) hb);have dG:=zM (Kd.iV (Kd.NJ RQ (Kd.Dw (by(with_reducible repeat(first|apply Kd.dC|apply Kd.dD|apply Kd.dR));exact ik.out))) (bP (by repeat(first|(with_reducible first|exact HB.out|apply ag|apply ai|apply aC)|exact HB.out))));have fQ:=zM (eU (by repeat(first|(with_reducible first|exact HB.out|apply ag|apply ai|apply aC)|exact HB.out)) hb);clear ik;clear HB;have ik:=dI;have FI:=dG;have HB:=fQ;clear dI dG fQ;clear hb RQ;obtain⟨ajs,U7,EU⟩:=Kd.fO FI.out;subst EU)|((with_reducible refine bK (b:= .append) (xs:= #[.tmp 27,.tmp 28]) rfl ?_);at_builtin;refine Kd.kT (Kd.int .u8) (w0:=w) w.heap.size rfl (.tmp 27) (.tmp 28) 50 5 (.int .u8 0) 1 rfl Tryz.underlying50 info5 rfl (by decide) (by omega) u3 fH Jv _ _ _ (fun k_=>some k_≠(.slice ajs Jv.length U7:Value).ownBlock) (fun _=>False) rfl rfl ?aO ?aR (fun _ _ h=>h) (fun _ h=>h.elim) ?aF ?aB ?aS ?aL ?_;(case aR=>repeat(first|exact(Kd.dA FI.out).2.2|(with_reducible refine Kd.lg ?_ _)|(with_reducible refine Kd.lh ?_ _)|(with_reducible refine Kd.nV ?_)));(case aB=>exact(by repeat(first|(with_reducible first|exact HB.out|apply ag|apply ai|apply aC)|exact HB.out)));(case aF=>exact(fun k_ hk=>Kd.fresh' (Kd.Dw (by(with_reducible repeat(first|apply Kd.dC|apply Kd.dD|apply Kd.dR));exact FI.out)) k_ hk));(case aO=>exact(by(with_reducible repeat(first|apply Kd.dC|apply Kd.dD|apply Kd.dR));exact Kd.gI ik.out (fun _ hk=>hk.2)));(case aS=>exact(bP (by repeat(first|(with_reducible first|exact HB.out|apply ag|apply ai|apply aC)|exact HB.out))));(case aL=>have:=Dp.out;omega);intro att w15 ho hb hg hat;rw[←afD.out]at ho;have dI:=zM (Kd.Ic (ok:=(fun _=>True)) (by(with_reducible repeat(first|apply Kd.dC|apply Kd.dD|apply Kd.dR));exact FI.out) hg hat);have dG:=zM (hb);have fQ:=zM (ho);clear FI;clear HB;clear ik;have FI:=dI;have HB:=dG;have af8:=fQ;clear dI dG fQ;clear ho hb hg hat));go_roundg k1
        case measure=>have:=fM.out;omega
        case rel=>exact⟨(ahR),(wrap64 (dJ+1)),zR,H',⟨by have:=fM.out;omega⟩,⟨by(with_reducible repeat(first|apply Kd.dC|apply Kd.dD|apply Kd.dR));exact Kd.gI af8.out (fun _ hk=>trivial)⟩,⟨zB⟩⟩
       ·rw[if_neg c12]at H;exact absurd H (by simp)
      ·rw[if_neg c11]at H;have lL:((bt a0 dJ)==9)=false:=beq_eq_false_iff_ne.mpr c11;have A7:((bt a0 dJ) !=9)=true:=bne_iff_ne.mpr c11
       by_cases c17:(bt a0 dJ)=10
       ·rw[if_pos c17]at H;have FZ:((bt a0 dJ)==10)=true:=beq_iff_eq.mpr c17;have JR:((bt a0 dJ) !=10)=false:=bne_eq_false_iff_eq.mpr c17;clear c17;obtain⟨Jw,WV⟩:∃y_:List Int,y_=(([92,110]:List Int)):=⟨_,rfl⟩;replace H:(if fH.length+Jw.length<140737488355328 then(bz.l0 k1 a0 (fH++Jw) (wrap64 (dJ+1)))else(none))=some r:=zY WV H;have aaV:=zM WV;clear WV
        by_cases c18:fH.length+Jw.length<140737488355328
        ·rw[if_pos c18]at H;have JG:=zM c18;clear c18;obtain⟨ahS,WW⟩:∃y_:List Int,y_=(fH++Jw):=⟨_,rfl⟩;replace H:(bz.l0 k1 a0 ahS (wrap64 (dJ+1)))=some r:=zY WW H;have afE:=zM WW;clear WW;have H':=zM H;clear H;have p4:0≤(dJ:Int):=zD;have q4:dJ<(a0.size:Int):=zD;have hx4:=dQ a0 dJ;replace p4:=eq_true p4;replace q4:=eq_true q4;go_wp2_with (first|((with_reducible refine jq (N:=33) rfl ?_);refine Kd.FQ (Kd.int .u8) _ 5 ?hg (N:=33) ?hd (xs:=([92,110]:List Int)) (inner:=[.int .u8 92,.int .u8 110]) (ok:=fun _=>True) (mO:=fun _=>True) ?hr ?hp (fun _ hk=>hk) trivial (Below.refl _ _) (Nat.le_refl _) (by simp) ?_;(case hd=>rfl);(case hg=>rfl);(case hr=>first|(go_simp;done)|(go_simp;rfl));(case hp=>exact(fF.one (show Kd.M (Kd.int .u8) _ _ _ 92 [.int .u8 92]from rfl) (fF.one (show Kd.M (Kd.int .u8) _ _ _ 110 [.int .u8 110]from rfl) (fF.none _ _))));intro atu PR Cj hb D7 kG;clear D7 kG;(first|rw[←aaV.out]at Cj|(simp only[Int.reduceToNat]at Cj;rw[←aaV.out]at Cj));have dI:=zM (Kd.Dv (by(with_reducible repeat(first|apply Kd.dC|apply Kd.dD|apply Kd.dR));exact ik.out) (Kd.Du Cj) hb);have dG:=zM (Kd.iV (Kd.NJ Cj (Kd.Dw (by(with_reducible repeat(first|apply Kd.dC|apply Kd.dD|apply Kd.dR));exact ik.out))) (bP (by repeat(first|(with_reducible first|exact HB.out|apply ag|apply ai|apply aC)|exact HB.out))));have fQ:=zM (eU (by repeat(first|(with_reducible first|exact HB.out|apply ag|apply ai|apply aC)|exact HB.out)) hb);clear ik;clear HB;have ik:=dI;have FM:=dG;have HB:=fQ;clear dI dG fQ;clear hb Cj;obtain⟨ajv,ace,Zw⟩:=Kd.fO FM.out;subst Zw)|((with_reducible refine bK (b:= .append) (xs:= #[.tmp 32,.tmp 33]) rfl ?_);at_builtin;refine Kd.kT (Kd.int .u8) (w0:=w) w.heap.size rfl (.tmp 32) (.tmp 33) 50 5 (.int .u8 0) 1 rfl Tryz.underlying50 info5 rfl (by decide) (by omega) u3 fH Jw _ _ _ (fun k_=>some k_≠(.slice ajv Jw.length ace:Value).ownBlock) (fun _=>False) rfl rfl ?aO ?aR (fun _ _ h=>h) (fun _ h=>h.elim) ?aF ?aB ?aS ?aL ?_;(case aR=>repeat(first|exact(Kd.dA FM.out).2.2|(with_reducible refine Kd.lg ?_ _)|(with_reducible refine Kd.lh ?_ _)|(with_reducible refine Kd.nV ?_)));(case aB=>exact(by repeat(first|(with_reducible first|exact HB.out|apply ag|apply ai|apply aC)|exact HB.out)));(case aF=>exact(fun k_ hk=>Kd.fresh' (Kd.Dw (by(with_reducible repeat(first|apply Kd.dC|apply Kd.dD|apply Kd.dR));exact FM.out)) k_ hk));(case aO=>exact(by(with_reducible repeat(first|apply Kd.dC|apply Kd.dD|apply Kd.dR));exact Kd.gI ik.out (fun _ hk=>hk.2)));(case aS=>exact(bP (by repeat(first|(with_reducible first|exact HB.out|apply ag|apply ai|apply aC)|exact HB.out))));(case aL=>have:=JG.out;omega);intro atv YQ ho hb hg hat;rw[←afE.out]at ho;have dI:=zM (Kd.Ic (ok:=(fun _=>True)) (by(with_reducible repeat(first|apply Kd.dC|apply Kd.dD|apply Kd.dR));exact FM.out) hg hat);have dG:=zM (hb);have fQ:=zM (ho);clear FM;clear HB;clear ik;have FM:=dI;have HB:=dG;have af9:=fQ;clear dI dG fQ;clear ho hb hg hat));go_roundg k1
         case measure=>have:=fM.out;omega
         case rel=>exact⟨(ahS),(wrap64 (dJ+1)),zR,H',⟨by have:=fM.out;omega⟩,⟨by(with_reducible repeat(first|apply Kd.dC|apply Kd.dD|apply Kd.dR));exact Kd.gI af9.out (fun _ hk=>trivial)⟩,⟨zB⟩⟩
        ·rw[if_neg c18]at H;exact absurd H (by simp)
       ·rw[if_neg c17]at H;have FZ:((bt a0 dJ)==10)=false:=beq_eq_false_iff_ne.mpr c17;have JR:((bt a0 dJ) !=10)=true:=bne_iff_ne.mpr c17
        by_cases c24:fH.length<140737488355328
        ·rw[if_pos c24]at H;have afq:=zM c24;clear c24;obtain⟨ahT,WX⟩:∃y_:List Int,y_=(fH++[bt a0 dJ]):=⟨_,rfl⟩;replace H:(bz.l0 k1 a0 ahT (wrap64 (dJ+1)))=some r:=zY WX H;have afF:=zM WX;clear WX;have H':=zM H;clear H;have p4:0≤(dJ:Int):=zD;have q4:dJ<(a0.size:Int):=zD;have hx4:=dQ a0 dJ;replace p4:=eq_true p4;replace q4:=eq_true q4;have YP:0≤(dJ:Int):=zD;have q23:dJ<(a0.size:Int):=zD;have asn:=dQ a0 dJ;replace YP:=eq_true YP;replace q23:=eq_true q23;go_wp2_with (first|((with_reducible refine bK (b:= .append) (xs:= #[.tmp 14,.tmp 18]) rfl ?_);at_builtin;refine Kd.dZ (Kd.int .u8) (w0:=w) w.heap.size rfl (.tmp 14) (.tmp 18) 50 5 (.int .u8 0) 1 rfl Tryz.underlying50 info5 rfl (by decide) (by omega) u3 fH (bt a0 dJ) [.int .u8 (bt a0 dJ)] (fun _=>True) (fun _=>False) rfl rfl ?aP (fun _ hk=>hk.elim) ?aF ?aO ?aB ?aS ?aL ?_;(case aP=>exact rfl);(case aB=>exact(by repeat(first|(with_reducible first|exact HB.out|apply ag|apply ai|apply aC)|exact HB.out)));(case aF=>exact(fun _ _=>trivial));(case aO=>exact(by(with_reducible repeat(first|apply Kd.dC|apply Kd.dD|apply Kd.dR));exact ik.out));(case aS=>exact(bP (by repeat(first|(with_reducible first|exact HB.out|apply ag|apply ai|apply aC)|exact HB.out))));(case aL=>have:=afq.out;omega);intro atw w25 ho hb hg hat;rw[←afF.out]at ho;have dI:=zM (hb);have dG:=zM (ho);clear HB;clear ik;have HB:=dI;have afa:=dG;clear dI dG;clear ho hb hg hat));go_roundg k1
         case measure=>have:=fM.out;omega
         case rel=>exact⟨(ahT),(wrap64 (dJ+1)),zR,H',⟨by have:=fM.out;omega⟩,⟨zO afa.out⟩,⟨zB⟩⟩
        ·rw[if_neg c24]at H;exact absurd H (by simp)
    ·rw[if_neg c3]at H;exact absurd H (by simp)
   ·rw[if_neg c2]at H;have kE:=zF c2;clear c2;obtain rfl:=Option.some.inj H;have apg:=pV (P:=Tryz.prog) Tryz.underlying50 Tryz.underlying5 Tryz.underlying9 (Kd.jd ik.out);go_wp2;go_ret;exact⟨by first|rfl|(simp[bg,bn]<;>rfl)|(simp[*,bg,bn]<;>rfl),zB⟩
theorem agB (d:Nat)(w:World)(x0 y0:ByteArray)(x1 y1:ByteArray):
  (Op.equalIn (d+2) 39 (.agg #[.string x0,.string x1]) (.agg #[.string y0,.string y1])).run Tryz.prog w= .ok (x0.toList==y0.toList&&(x1.toList==y1.toList)) w:=by
 refine acz Tryz.underlying39 (by kernel_rfl) ?_;refine Vq (by rfl) (by go_simp;rfl) (by go_simp;rfl) (by go_simp) ?_;exact Vr (by rfl) (by go_simp;rfl) (by go_simp;rfl) (by go_simp)
def bW.l0:Nat→List ByteArray→List ByteArray→Int→Option (Bool)
 |0,_,_,_=>none
 |k+1,x0,x1,x5=>if x5<(x0.length:Int)then(if 0≤x5 then(if x5<(x1.length:Int)then(if(jg ByteArray.empty x0 x5).toList=(jg ByteArray.empty x1 x5).toList then(bW.l0 k x0 x1 (wrap64 (x5+1)))else(some false))else(none))else(none))else(some true)
def bW.f (k:Nat)(l0:List ByteArray)(l1:List ByteArray):Option (Bool):=if(l0.length:Int)=(l1.length:Int)then(bW.l0 k l0 l1 0)else(some false)
theorem bW.cO:∀k,(∀y0 y1 y2,bT (bW.l0 k y0 y1 y2) (bW.l0 (k+1) y0 y1 y2))
 |0=>fun _ _ _ r h=>by simp[bW.l0]at h
 |k+1=>by
  have gU:=bW.cO k
  ·intro y0 y1 y2;unfold bW.l0
   repeat' first
   |exact gU _ _ _
   |exact bT.refl _
   |exact bT.none _
   |refine bT.ite ?_ ?_
   |refine bT.bind ?_ (fun _=>?_)
theorem bW.mono:∀a0 a1 k,bT (bW.f k a0 a1) (bW.f (k+1) a0 a1):=by
 intro a0 a1 k;have gU:=bW.cO k;unfold bW.f
 repeat' first
   |exact gU _ _ _
   |exact bT.refl _
   |exact bT.none _
   |refine bT.ite ?_ ?_
   |refine bT.bind ?_ (fun _=>?_)
theorem bW.calls (k:Nat)(A0:Option Addr)(c0:Nat)(l0:List ByteArray)(A1:Option Addr)(c1:Nat)(l1:List ByteArray)(r:Bool)(w:World)(hr0:Kd.C Kd.string w A0 l0.length l0)(hc0:l0.length≤c0)(hr1:Kd.C Kd.string w A1 l1.length l1)(hc1:l1.length≤c1)(h:bW.f k l0 l1=some r):
  Calls Tryz.prog 65 #[.slice A0 l0.length c0,.slice A1 l1.length c1] w fun e w'=>e= .returned (.bool r)∧aJ w w':=by
 have HR0:=zM hr0;have Hw:=zM hc0;clear hr0 hc0;have HR1:=zM hr1;have MV:=zM hc1;clear hr1 hc1;have H:(if(l0.length:Int)=(l1.length:Int)then(bW.l0 k l0 l1 0)else(some false))=some r:=h;clear h
 by_cases c3:(l0.length:Int)=(l1.length:Int)
 ·rw[if_pos c3]at H;have iI:((l0.length:Int)==(l1.length:Int))=true:=beq_iff_eq.mpr c3;have kW:((l0.length:Int) !=(l1.length:Int))=false:=bne_eq_false_iff_eq.mpr c3;have DK:(l0.length==l1.length)=true:=by first|simpa using c3|(simp at c3⊢;omega)
  clear c3;have H':=zM H;clear H;go_enter Tryz.func65,Tryz.ntmps65;go_wp2
  repeat(go_quiet (fail);try go_wp2)
  go_loopg [5] k (fun kq v5 w'=>∃(aV:Int),v5= .int .i64 aV∧Aside0 (bW.l0 kq l0 l1 aV=some r)∧Aside0 (kq≤k)∧aJ w w')
  case atStart=>exact⟨(0),zR,H',⟨Nat.le_refl _⟩,by repeat(first|exact aJ.refl _|apply aJ.step)⟩
  case round=>
   clear H';try clear c1
   try clear p2
   try clear c3
   try clear iI
   try clear kW
   try clear DK
   obtain⟨aV,rfl,HA,fM,⟨m1,rfl⟩⟩:=hrel;cases gk with
   |zero=>exact absurd HA.out (by simp[bW.l0])
   |succ k1=>
    have H:=HA.out;clear HA;simp only[bW.l0]at H
    by_cases c4:aV<(l0.length:Int)
    ·rw[if_pos c4]at H;have ig:=zT c4;clear c4
     by_cases c5:0≤aV
     ·rw[if_pos c5]at H;have jJ:=zT c5;clear c5
      by_cases c6:aV<(l1.length:Int)
      ·rw[if_pos c6]at H;have iP:=zT c6;clear c6
       by_cases c7:(jg ByteArray.empty l0 aV).toList=(jg ByteArray.empty l1 aV).toList
       ·rw[if_pos c7]at H;have lZ:((jg ByteArray.empty l0 aV).toList==(jg ByteArray.empty l1 aV).toList)=true:=beq_iff_eq.mpr c7;have JS:((jg ByteArray.empty l0 aV).toList !=(jg ByteArray.empty l1 aV).toList)=false:=bne_eq_false_iff_eq.mpr c7;clear c7;have H':=zM H;clear H;have OU:0≤(aV:Int):=zD;have Ph:aV<(l0.length:Int):=zD;obtain⟨age,e302,ZP⟩:=Kd.jI HR0.out aV OU Ph;cases e302;replace OU:=eq_true OU;replace Ph:=eq_true Ph;have OV:0≤(aV:Int):=zD;have Pj:aV<(l1.length:Int):=zD;obtain⟨agf,e303,ZQ⟩:=Kd.jI HR1.out aV OV Pj;cases e303;replace OV:=eq_true OV;replace Pj:=eq_true Pj;go_wp2
        repeat(go_quiet (fail);try go_wp2)
        go_roundg k1
        case measure=>have:=fM.out;omega
        case rel=>exact⟨(wrap64 (aV+1)),zR,H',⟨by have:=fM.out;omega⟩,by repeat(first|exact aJ.refl _|apply aJ.step)⟩
       ·rw[if_neg c7]at H;have lZ:((jg ByteArray.empty l0 aV).toList==(jg ByteArray.empty l1 aV).toList)=false:=beq_eq_false_iff_ne.mpr c7;have JS:((jg ByteArray.empty l0 aV).toList !=(jg ByteArray.empty l1 aV).toList)=true:=bne_iff_ne.mpr c7;obtain rfl:=Option.some.inj H;have OU:0≤(aV:Int):=zD;have Ph:aV<(l0.length:Int):=zD;obtain⟨age,e302,ZP⟩:=Kd.jI HR0.out aV OU Ph;cases e302;replace OU:=eq_true OU;replace Ph:=eq_true Ph;have OV:0≤(aV:Int):=zD;have Pj:aV<(l1.length:Int):=zD;obtain⟨agf,e303,ZQ⟩:=Kd.jI HR1.out aV OV Pj;cases e303;replace OV:=eq_true OV;replace Pj:=eq_true Pj;go_wp2
        repeat(go_quiet (fail);try go_wp2)
        go_ret;exact⟨zR,by repeat(first|exact aJ.refl _|apply aJ.step)⟩
      ·rw[if_neg c6]at H;exact absurd H (by simp)
     ·rw[if_neg c5]at H;exact absurd H (by simp)
    ·rw[if_neg c4]at H;have ig:=zF c4;clear c4;obtain rfl:=Option.some.inj H;go_wp2
     repeat(go_quiet (fail);try go_wp2)
     go_ret;exact⟨zR,by repeat(first|exact aJ.refl _|apply aJ.step)⟩
 ·rw[if_neg c3]at H;have iI:((l0.length:Int)==(l1.length:Int))=false:=beq_eq_false_iff_ne.mpr c3;have kW:((l0.length:Int) !=(l1.length:Int))=true:=bne_iff_ne.mpr c3;have DK:(l0.length==l1.length)=false:=by first|simpa using c3|(simp at c3⊢;omega)
  obtain rfl:=Option.some.inj H;go_enter Tryz.func65,Tryz.ntmps65;go_wp2
  repeat(go_quiet (fail);try go_wp2)
  go_ret;exact⟨zR,by repeat(first|exact aJ.refl _|apply aJ.step)⟩
def bG.l0:Nat→List ByteArray→List ByteArray→Int→Option (Bool)
 |0,_,_,_=>none
 |k+1,x0,x1,x5=>if x5<(x0.length:Int)then(if 0≤x5 then(if x5<(x1.length:Int)then(if(jg ByteArray.empty x0 x5).toList=(jg ByteArray.empty x1 x5).toList then(bG.l0 k x0 x1 (wrap64 (x5+1)))else(some false))else(none))else(none))else(some true)
def bG.f (k:Nat)(l0:List ByteArray)(l1:List ByteArray):Option (Bool):=if(l0.length:Int)=(l1.length:Int)then(bG.l0 k l0 l1 0)else(some false)
theorem bG.cO:∀k,(∀y0 y1 y2,bT (bG.l0 k y0 y1 y2) (bG.l0 (k+1) y0 y1 y2))
 |0=>fun _ _ _ r h=>by simp[bG.l0]at h
 |k+1=>by
  have gU:=bG.cO k
  ·intro y0 y1 y2;unfold bG.l0
   repeat' first
   |exact gU _ _ _
   |exact bT.refl _
   |exact bT.none _
   |refine bT.ite ?_ ?_
   |refine bT.bind ?_ (fun _=>?_)
theorem bG.mono:∀a0 a1 k,bT (bG.f k a0 a1) (bG.f (k+1) a0 a1):=by
 intro a0 a1 k;have gU:=bG.cO k;unfold bG.f
 repeat' first
   |exact gU _ _ _
   |exact bT.refl _
   |exact bT.none _
   |refine bT.ite ?_ ?_
   |refine bT.bind ?_ (fun _=>?_)
theorem bG.calls (k:Nat)(A0:Option Addr)(c0:Nat)(l0:List ByteArray)(A1:Option Addr)(c1:Nat)(l1:List ByteArray)(r:Bool)(w:World)(hr0:Kd.C Kd.string w A0 l0.length l0)(hc0:l0.length≤c0)(hr1:Kd.C Kd.string w A1 l1.length l1)(hc1:l1.length≤c1)(h:bG.f k l0 l1=some r):
  Calls Tryz.prog 14 #[.slice A0 l0.length c0,.slice A1 l1.length c1] w fun e w'=>e= .returned (.bool r)∧aJ w w':=by
 have HR0:=zM hr0;have Hw:=zM hc0;clear hr0 hc0;have HR1:=zM hr1;have MV:=zM hc1;clear hr1 hc1;have H:(if(l0.length:Int)=(l1.length:Int)then(bG.l0 k l0 l1 0)else(some false))=some r:=h;clear h
 by_cases c3:(l0.length:Int)=(l1.length:Int)
 ·rw[if_pos c3]at H;have iI:((l0.length:Int)==(l1.length:Int))=true:=beq_iff_eq.mpr c3;have kW:((l0.length:Int) !=(l1.length:Int))=false:=bne_eq_false_iff_eq.mpr c3;have DK:(l0.length==l1.length)=true:=by first|simpa using c3|(simp at c3⊢;omega)
  clear c3;have H':=zM H;clear H;go_enter Tryz.func14,Tryz.ntmps14;go_wp2
  repeat(go_quiet (fail);try go_wp2)
  go_loopg [5] k (fun kq v5 w'=>∃(aV:Int),v5= .int .i64 aV∧Aside0 (bG.l0 kq l0 l1 aV=some r)∧Aside0 (kq≤k)∧aJ w w')
  case atStart=>exact⟨(0),zR,H',⟨Nat.le_refl _⟩,by repeat(first|exact aJ.refl _|apply aJ.step)⟩
  case round=>
   clear H';try clear c1
   try clear p2
   try clear c3
   try clear iI
   try clear kW
   try clear DK
   obtain⟨aV,rfl,HA,fM,⟨m1,rfl⟩⟩:=hrel;cases gk with
   |zero=>exact absurd HA.out (by simp[bG.l0])
   |succ k1=>
    have H:=HA.out;clear HA;simp only[bG.l0]at H
    by_cases c4:aV<(l0.length:Int)
    ·rw[if_pos c4]at H;have ig:=zT c4;clear c4
     by_cases c5:0≤aV
     ·rw[if_pos c5]at H;have jJ:=zT c5;clear c5
      by_cases c6:aV<(l1.length:Int)
      ·rw[if_pos c6]at H;have iP:=zT c6;clear c6
       by_cases c7:(jg ByteArray.empty l0 aV).toList=(jg ByteArray.empty l1 aV).toList
       ·rw[if_pos c7]at H;have lZ:((jg ByteArray.empty l0 aV).toList==(jg ByteArray.empty l1 aV).toList)=true:=beq_iff_eq.mpr c7;have JS:((jg ByteArray.empty l0 aV).toList !=(jg ByteArray.empty l1 aV).toList)=false:=bne_eq_false_iff_eq.mpr c7;clear c7;have H':=zM H;clear H;have OW:0≤(aV:Int):=zD;have Pm:aV<(l0.length:Int):=zD;obtain⟨agh,acm,ZR⟩:=Kd.jI HR0.out aV OW Pm;cases acm;replace OW:=eq_true OW;replace Pm:=eq_true Pm;have OX:0≤(aV:Int):=zD;have Pn:aV<(l1.length:Int):=zD;obtain⟨agi,acn,ZT⟩:=Kd.jI HR1.out aV OX Pn;cases acn;replace OX:=eq_true OX;replace Pn:=eq_true Pn;go_wp2
        repeat(go_quiet (fail);try go_wp2)
        go_roundg k1
        case measure=>have:=fM.out;omega
        case rel=>exact⟨(wrap64 (aV+1)),zR,H',⟨by have:=fM.out;omega⟩,by repeat(first|exact aJ.refl _|apply aJ.step)⟩
       ·rw[if_neg c7]at H;have lZ:((jg ByteArray.empty l0 aV).toList==(jg ByteArray.empty l1 aV).toList)=false:=beq_eq_false_iff_ne.mpr c7;have JS:((jg ByteArray.empty l0 aV).toList !=(jg ByteArray.empty l1 aV).toList)=true:=bne_iff_ne.mpr c7;obtain rfl:=Option.some.inj H;have OW:0≤(aV:Int):=zD;have Pm:aV<(l0.length:Int):=zD;obtain⟨agh,acm,ZR⟩:=Kd.jI HR0.out aV OW Pm;cases acm;replace OW:=eq_true OW;replace Pm:=eq_true Pm;have OX:0≤(aV:Int):=zD;have Pn:aV<(l1.length:Int):=zD;obtain⟨agi,acn,ZT⟩:=Kd.jI HR1.out aV OX Pn;cases acn;replace OX:=eq_true OX;replace Pn:=eq_true Pn;go_wp2
        repeat(go_quiet (fail);try go_wp2)
        go_ret;exact⟨zR,by repeat(first|exact aJ.refl _|apply aJ.step)⟩
      ·rw[if_neg c6]at H;exact absurd H (by simp)
     ·rw[if_neg c5]at H;exact absurd H (by simp)
    ·rw[if_neg c4]at H;have ig:=zF c4;clear c4;obtain rfl:=Option.some.inj H;go_wp2
     repeat(go_quiet (fail);try go_wp2)
     go_ret;exact⟨zR,by repeat(first|exact aJ.refl _|apply aJ.step)⟩
 ·rw[if_neg c3]at H;have iI:((l0.length:Int)==(l1.length:Int))=false:=beq_eq_false_iff_ne.mpr c3;have kW:((l0.length:Int) !=(l1.length:Int))=true:=bne_iff_ne.mpr c3;have DK:(l0.length==l1.length)=false:=by first|simpa using c3|(simp at c3⊢;omega)
  obtain rfl:=Option.some.inj H;go_enter Tryz.func14,Tryz.ntmps14;go_wp2
  repeat(go_quiet (fail);try go_wp2)
  go_ret;exact⟨zR,by repeat(first|exact aJ.refl _|apply aJ.step)⟩
def az.l0:Nat→List Int→Int→Int→Option (List Int)
 |0,_,_,_=>none
 |k+1,x0,x2,x3=>if x2<x3 then(if 0≤x3 then(if x3<(x0.length:Int)then(if 0≤x2 then(if x2<(x0.length:Int)then(az.l0 k ((x0.set (x2:Int).toNat (rd x0 x3)).set (x3:Int).toNat (rd x0 x2)) (wrap64 (x2+1)) (wrap64 (x3- 1)))else(none))else(none))else(none))else(none))else(some x0)
def az.f (k:Nat)(l0:List Int):Option (List Int):=az.l0 k l0 0 (wrap64 ((l0.length:Int)- 1))
theorem az.cO:∀k,(∀y0 y1 y2,bT (az.l0 k y0 y1 y2) (az.l0 (k+1) y0 y1 y2))
 |0=>fun _ _ _ r h=>by simp[az.l0]at h
 |k+1=>by
  have gU:=az.cO k
  ·intro y0 y1 y2;unfold az.l0
   repeat' first
   |exact gU _ _ _
   |exact bT.refl _
   |exact bT.none _
   |refine bT.ite ?_ ?_
   |refine bT.bind ?_ (fun _=>?_)
theorem az.mono:∀a0 k,bT (az.f k a0) (az.f (k+1) a0):=by
 intro a0 k;have gU:=az.cO k;unfold az.f
 repeat' first
   |exact gU _ _ _
   |exact bT.refl _
   |exact bT.none _
   |refine bT.ite ?_ ?_
   |refine bT.bind ?_ (fun _=>?_)
def az.T3:Bool×List (List Nat×List Nat):=(true,[([],[]),([],[]),([],[]),([],[]),([],[]),([],[]),([4,5],[4,5]),([6],[6]),([],[]),([],[]),([8,9],[8,9]),([10],[10]),([0,1,0,1,4,5,6,7,11],[0,1]),([12,7,0,1,4,5,6,7,11],[7,12]),([2,3,0,1,2,3,4,5,6,7,8,9,10,11,12,13],[2,3]),([14,11,13,0,1,2,3,4,5,6,7,8,9,10,11,12,13],[11,14])])
def az.B3:List Nat:=[0,0,0,0,0,0,48,112,0,0,768,1792,4083,8179,16383,32767]
theorem az.amD:qQ .any (opsOf Tryz.f229 3)=az.T3:=by kernel_rfl
theorem az.agp:zo az.T3.2 az.B3=true:=by kernel_rfl
theorem az.calls (k:Nat)(iG:Nat→Prop)(iQ:Value)(l0:List Int)(r:List Int)(w0 w:World)(hB:Below w0.heap.size w0 w)(ho0:Kd.R (Kd.int .u8) 5 w w0.heap.size iG iQ l0)(h:az.f k l0=some r):
  Calls Tryz.prog 229 #[iQ] w fun e w'=>e= .returned (.tuple #[])∧Kd.R (Kd.int .u8) 5 w' w0.heap.size (fun k_=>(iG k_∨w.heap.size≤k_)) iQ r∧Below w0.heap.size w0 w'∧Kept w w' (fun k_=>iG k_):=by
 have zC:=zM (show Kd.R (Kd.int .u8) 5 w w0.heap.size (fun k_=>(iG k_∨w.heap.size≤k_)) iQ l0 from Kd.gI ho0 (fun k_ hk=>(.inl hk)));have HK:=zM (Kept.refl w (fun k_=>iG k_));have HW0:=zM hB.size;have HB:=zM hB;clear hB;have H:(az.l0 k l0 0 (wrap64 ((l0.length:Int)- 1)))=some r:=h;clear h;have H':=zM H;clear H;obtain⟨Ao2,co2,eo2⟩:=Kd.fO zC.out;subst eo2;go_enter Tryz.func229,Tryz.ntmps229;go_wp2;go_loopg [2,3] k (fun kq v2 v3 w'=>∃(aU:List Int) (kF:Int) (fH:Int),v2= .int .i64 kF∧v3= .int .i64 fH∧Aside0 (az.l0 kq aU kF fH=some r)∧Aside0 (kq≤k)∧Aside0 (Kd.R (Kd.int .u8) 5 w' w0.heap.size (fun k_=>(iG k_∨w.heap.size≤k_)) (.slice Ao2 l0.length co2) aU)∧Aside0 (Kept w w' (fun k_=>iG k_))∧Aside0 (Below w0.heap.size w0 w'))
 case atStart=>exact⟨(l0),(0),(wrap64 ((l0.length:Int)- 1)),zR,zR,H',⟨Nat.le_refl _⟩,⟨zO zC.out⟩,⟨zK⟩,⟨zB⟩⟩
 case round=>
  clear H';try clear c2
  try clear p2
  obtain⟨aU,kF,fH,rfl,rfl,HA,fM,bF,HK,HB⟩:=hrel;have jr:=(Kd.dA bF.out).1;rw[jr]at bF
  (try simp only[jr])
  cases gk with
  |zero=>exact absurd HA.out (by simp[az.l0])
  |succ k1=>
   have H:=HA.out;clear HA;simp only[az.l0]at H
   by_cases c3:kF<fH
   ·rw[if_pos c3]at H;have iI:=zT c3;clear c3
    by_cases c4:0≤fH
    ·rw[if_pos c4]at H;have ig:=zT c4;clear c4
     by_cases c5:fH<(aU.length:Int)
     ·rw[if_pos c5]at H;have jJ:=zT c5;clear c5
      by_cases c6:0≤kF
      ·rw[if_pos c6]at H;have iP:=zT c6;clear c6
       by_cases c7:kF<(aU.length:Int)
       ·rw[if_pos c7]at H;have lZ:=zT c7;clear c7;obtain⟨ahY,Xb⟩:∃y_:List Int,y_=(aU.set (kF:Int).toNat (rd aU fH)):=⟨_,rfl⟩;replace H:(az.l0 k1 (ahY.set (fH:Int).toNat (rd aU kF)) (wrap64 (kF+1)) (wrap64 (fH- 1)))=some r:=zY Xb H;have afK:=zM Xb;clear Xb;obtain⟨ahZ,Xc⟩:∃y_:List Int,y_=(ahY.set (fH:Int).toNat (rd aU kF)):=⟨_,rfl⟩;replace H:(az.l0 k1 ahZ (wrap64 (kF+1)) (wrap64 (fH- 1)))=some r:=zY Xc H;have afL:=zM Xc;clear Xc;have H':=zM H;clear H;try go_wp2
        have dI:=zM (Kd.dR bF.out);have dG:=zM (Kept.drew HK.out);have fQ:=zM (aC HB.out);clear bF;clear HK;clear HB;have bF:=dI;have HK:=dG;have HB:=fQ;clear dI dG fQ;have adL:0≤(fH:Int):=zD;have adZ:fH<(aU.length:Int):=zD;obtain⟨agk,akZ,IL⟩:=Kd.dM (Kd.dA bF.out).2.2 fH adL adZ;cases akZ;replace adL:=eq_true adL;replace adZ:=eq_true adZ;have adM:0≤(kF:Int):=zD;have ae0:kF<(aU.length:Int):=zD;obtain⟨agl,al0,IM⟩:=Kd.dM (Kd.dA bF.out).2.2 kF adM ae0;obtain rfl:agk=agl:=(by injection al0);replace adM:=eq_true adM;replace ae0:=eq_true ae0;have p8:0≤(kF:Int):=zD;have q8:(kF:Int)<((aU.length:Int):Int):=zD;obtain⟨YL,co8,eo8,gb8,gl8,cl8,HG8⟩:=Kd.jf bF.out (by omega)
        (first|cases eo8|(injection eo8 with ea_ en_ ec_;(first|subst ea_|(injection ea_ with ea_;subst ea_));subst ec_;clear en_))
        have GB8:=zM gb8;have GG8:=zM HG8;clear gb8 gl8 HG8;have Uf:=zM (show(iG YL∨w.heap.size≤YL)from(bF.out.1 _ rfl));try simp only[add_plain]at IL
        try simp only[add_plain]at IM
        obtain⟨abq,abg⟩:=Kd.fE 0 bF.out (kF:Int) p8 q8;replace p8:=eq_true p8;replace q8:=eq_true q8;have Nw:=Kd.Ig bF.out (kF:Int) (rd aU fH);rw[←afK.out]at Nw;have abQ:=zM Nw;clear Nw;have p9:0≤(fH:Int):=zD;have q9:(fH:Int)<((aU.length:Int):Int):=zD;obtain⟨ahr,ah8⟩:=Kd.fE 0 abQ.out (fH:Int) p9 q9;replace p9:=eq_true p9;replace q9:=eq_true q9;have abM:=Kd.Ig abQ.out (fH:Int) (rd aU kF);rw[←afL.out]at abM;have afm:=zM abM;clear abM;refine ae5 (n:=16) (S:=fun w'=>w'.cell? ⟨YL,(fH).toNat,none⟩=some (.int .u8 (rd aU fH))∧w'.cell? ⟨YL,(kF).toNat,none⟩=some (.int .u8 (rd aU kF))) (ds:=[13,15]) #[false,false,false,false,false,false,false,false,false,false,false,false,false,false,false,false] (by kernel_rfl) rfl rfl ⟨IL,IM⟩ (fun hHeld=>?_);refine TI az.amD az.agp (fun JF HW_=>?_);generalize wr.drew=w10 at bF HK HB GG8 abQ afm abg ah8 IL IM abq ahr hHeld⊢;refine tK (i:=0) (N:=some 14) (v:=?_) (a':=?_) #[true,false,false,false,false,false,false,false,false,false,false,false,false,false,false,false] rfl rfl (nY JF.out (by kernel_rfl)) (fun _ _ _ h=>h) (Or.inl ⟨by rfl,?_⟩) ?_ ?_;rotate_left
        ·intro w';go_simp
         with_reducible rfl
        rotate_left
        ·simp only[Act.put,List.setIfInBounds_toArray,List.set_cons_zero,List.set_cons_succ,dL,jK];rfl
        refine tK (i:=1) (N:=some 15) (v:=?_) (a':=?_) #[true,true,false,false,false,false,false,false,false,false,false,false,false,false,false,false] rfl rfl (nY JF.out (by kernel_rfl)) (fun _ _ _ h=>h) (Or.inl ⟨by rfl,?_⟩) ?_ ?_;rotate_left
        ·intro w';go_simp
         with_reducible rfl
        rotate_left
        ·simp only[Act.put,List.setIfInBounds_toArray,List.set_cons_zero,List.set_cons_succ,dL,jK];rfl
        refine tK (i:=2) (N:=some 16) (v:=?_) (a':=?_) #[true,true,true,false,false,false,false,false,false,false,false,false,false,false,false,false] rfl rfl (nY JF.out (by kernel_rfl)) (fun _ _ _ h=>h) (Or.inl ⟨by rfl,?_⟩) ?_ ?_;rotate_left
        ·intro w';go_simp
         with_reducible rfl
        rotate_left
        ·simp only[Act.put,List.setIfInBounds_toArray,List.set_cons_zero,List.set_cons_succ,dL,jK];rfl
        refine tK (i:=3) (N:=some 17) (v:=?_) (a':=?_) #[true,true,true,true,false,false,false,false,false,false,false,false,false,false,false,false] rfl rfl (nY JF.out (by kernel_rfl)) (fun _ _ _ h=>h) (Or.inl ⟨by rfl,?_⟩) ?_ ?_;rotate_left
        ·intro w';go_simp
         with_reducible rfl
        rotate_left
        ·simp only[Act.put,List.setIfInBounds_toArray,List.set_cons_zero,List.set_cons_succ,dL,jK];rfl
        refine tK (i:=4) (N:=some 18) (v:=?_) (a':=?_) #[true,true,true,true,true,false,false,false,false,false,false,false,false,false,false,false] rfl rfl (nY JF.out (by kernel_rfl)) (fun _ _ _ h=>h) (Or.inl ⟨by rfl,?_⟩) ?_ ?_;rotate_left
        ·intro w';go_simp
         with_reducible rfl
        rotate_left
        ·simp only[Act.put,List.setIfInBounds_toArray,List.set_cons_zero,List.set_cons_succ,dL,jK];rfl
        refine tK (i:=5) (N:=some 19) (v:=?_) (a':=?_) #[true,true,true,true,true,true,false,false,false,false,false,false,false,false,false,false] rfl rfl (nY JF.out (by kernel_rfl)) (fun _ _ _ h=>h) (Or.inl ⟨by rfl,?_⟩) ?_ ?_;rotate_left
        ·intro w';go_simp
         with_reducible rfl
        rotate_left
        ·simp only[Act.put,List.setIfInBounds_toArray,List.set_cons_zero,List.set_cons_succ,dL,jK];rfl
        refine tK (i:=6) (N:=some 20) (v:=?_) (a':=?_) #[true,true,true,true,true,true,true,false,false,false,false,false,false,false,false,false] rfl rfl (nY JF.out (by kernel_rfl)) (fun _ _ _ h=>h) (Or.inl ⟨by rfl,?_⟩) ?_ ?_;rotate_left
        ·intro w';go_simp
         with_reducible rfl
        rotate_left
        ·simp only[Act.put,List.setIfInBounds_toArray,List.set_cons_zero,List.set_cons_succ,dL,jK];rfl
        refine tK (i:=8) (N:=some 22) (v:=?_) (a':=?_) #[true,true,true,true,true,true,true,false,true,false,false,false,false,false,false,false] rfl rfl (nY JF.out (by kernel_rfl)) (fun _ _ _ h=>h) (Or.inl ⟨by rfl,?_⟩) ?_ ?_;rotate_left
        ·intro w';go_simp
         with_reducible rfl
        rotate_left
        ·simp only[Act.put,List.setIfInBounds_toArray,List.set_cons_zero,List.set_cons_succ,dL,jK];rfl
        refine tK (i:=9) (N:=some 23) (v:=?_) (a':=?_) #[true,true,true,true,true,true,true,false,true,true,false,false,false,false,false,false] rfl rfl (nY JF.out (by kernel_rfl)) (fun _ _ _ h=>h) (Or.inl ⟨by rfl,?_⟩) ?_ ?_;rotate_left
        ·intro w';go_simp
         with_reducible rfl
        rotate_left
        ·simp only[Act.put,List.setIfInBounds_toArray,List.set_cons_zero,List.set_cons_succ,dL,jK];rfl
        refine tK (i:=10) (N:=some 24) (v:=?_) (a':=?_) #[true,true,true,true,true,true,true,false,true,true,true,false,false,false,false,false] rfl rfl (nY JF.out (by kernel_rfl)) (fun _ _ _ h=>h) (Or.inl ⟨by rfl,?_⟩) ?_ ?_;rotate_left
        ·intro w';go_simp
         with_reducible rfl
        rotate_left
        ·simp only[Act.put,List.setIfInBounds_toArray,List.set_cons_zero,List.set_cons_succ,dL,jK];rfl
        refine QI (i:=7) (N:=some 21) (v:=?_) (a':=?_) #[true,true,true,true,true,true,true,true,true,true,true,false,false,false,false,false] rfl rfl (MF JF.out HW_.out (by kernel_rfl)) (fun _ _ _ h=>h) (Or.inl ⟨by rfl,?_⟩) hHeld ?_ ?_;rotate_left
        ·rintro w' ⟨s0,s1⟩;go_simp
         with_reducible rfl
        rotate_left
        ·simp only[Act.put,List.setIfInBounds_toArray,List.set_cons_zero,List.set_cons_succ,dL,jK];rfl
        refine QI (i:=11) (N:=some 25) (v:=?_) (a':=?_) #[true,true,true,true,true,true,true,true,true,true,true,true,false,false,false,false] rfl rfl (MF JF.out HW_.out (by kernel_rfl)) (fun _ _ _ h=>h) (Or.inl ⟨by rfl,?_⟩) hHeld ?_ ?_;rotate_left
        ·rintro w' ⟨s0,s1⟩;go_simp
         with_reducible rfl
        rotate_left
        ·simp only[Act.put,List.setIfInBounds_toArray,List.set_cons_zero,List.set_cons_succ,dL,jK];rfl
        refine tK (i:=12) (N:=some 26) (v:=?_) (a':=?_) #[true,true,true,true,true,true,true,true,true,true,true,true,true,false,false,false] rfl rfl (nY JF.out (by kernel_rfl)) (fun _ _ _ h=>h) (Or.inl ⟨by rfl,?_⟩) ?_ ?_;rotate_left
        ·intro w';go_simp
         with_reducible rfl
        rotate_left
        ·simp only[Act.put,List.setIfInBounds_toArray,List.set_cons_zero,List.set_cons_succ,dL,jK];rfl
        refine abw (i:=13) (N:=none) #[true,true,true,true,true,true,true,true,true,true,true,true,true,true,false,false] rfl rfl (XL JF.out (by kernel_rfl)) (by decide) (fun K hK=>?_);refine abz (w1:=?_) (by rfl) rfl ?_ ?_;rotate_left
        ·go_simp;rfl
        refine hK.out _ _ ?_;clear hK K;refine tK (i:=14) (N:=some 27) (v:=?_) (a':=?_) #[true,true,true,true,true,true,true,true,true,true,true,true,true,true,true,false] rfl rfl (nY JF.out (by kernel_rfl)) (fun _ _ _ h=>h) (Or.inl ⟨by rfl,?_⟩) ?_ ?_;rotate_left
        ·intro w';go_simp
         with_reducible rfl
        rotate_left
        ·simp only[Act.put,List.setIfInBounds_toArray,List.set_cons_zero,List.set_cons_succ,dL,jK];rfl
        refine abw (i:=15) (N:=none) #[true,true,true,true,true,true,true,true,true,true,true,true,true,true,true,true] rfl rfl (XL JF.out (by kernel_rfl)) (by decide) (fun K hK=>?_);refine abz (w1:=?_) (by rfl) rfl ?_ ?_;rotate_left
        ·go_simp;rfl
        refine hK.out _ _ ?_;clear hK K;refine agw (Zo JF.out (by kernel_rfl)) ?_;try go_wp2
        (try simp only[←jr])
        go_roundg k1
        case measure=>have:=fM.out;omega
        case rel=>exact⟨(ahZ),(wrap64 (kF+1)),(wrap64 (fH- 1)),zR,zR,H',⟨by have:=fM.out;omega⟩,⟨by(try simp only[jr]);(with_reducible repeat(first|apply Kd.dC|apply Kd.dD|apply Kd.dR));exact afm.out⟩,⟨by repeat(first|(with_reducible first|exact HK.out|apply Kept.alloc|apply Kept.drewN|apply Kept.drew|refine Kept.setCell ?_ Uf.out _|refine Kept.setCell ?_ Uf.out _)|exact HK.out)⟩,⟨by repeat(first|(with_reducible first|exact HB.out|apply ag|apply ai|apply aC|refine dm ?_ GB8.out|refine dm ?_ GB8.out)|exact HB.out)⟩⟩
       ·rw[if_neg c7]at H;exact absurd H (by simp)
      ·rw[if_neg c6]at H;exact absurd H (by simp)
     ·rw[if_neg c5]at H;exact absurd H (by simp)
    ·rw[if_neg c4]at H;exact absurd H (by simp)
   ·rw[if_neg c3]at H;have iI:=zF c3;clear c3;obtain rfl:=Option.some.inj H;go_wp2
    first|go_end0|((try simp only[Exit.inBlock,Exit.then]);refine bodyPost_ret (results_none rfl _ _ _) rfl ?_)
    exact⟨by first|rfl|(simp[bg,bn]<;>rfl)|(simp[*,bg,bn]<;>rfl),(by first|exact(by(with_reducible repeat(first|apply Kd.dC|apply Kd.dD|apply Kd.dR));exact bF.out)|(simp only[jr];exact(by(with_reducible repeat(first|apply Kd.dC|apply Kd.dD|apply Kd.dR));exact bF.out))),zB,zK⟩
def df.l0:Nat→ByteArray→Int→Option (Int)
 |0,_,_=>none
 |k+1,x0,x1=>if x1<(x0.size:Int)then(if 0≤x1 then(if(bt x0 x1)≥48 then(if(bt x0 x1)≤57 then(df.l0 k x0 (wrap64 (x1+1)))else(some x1))else(some x1))else(none))else(some x1)
def df.f (k:Nat)(a0:ByteArray)(a1:Int):Option (Int):=df.l0 k a0 a1
theorem df.cO:∀k,(∀y0 y1,bT (df.l0 k y0 y1) (df.l0 (k+1) y0 y1))
 |0=>fun _ _ r h=>by simp[df.l0]at h
 |k+1=>by
  have gU:=df.cO k
  ·intro y0 y1;unfold df.l0
   repeat' first
   |exact gU _ _
   |exact bT.refl _
   |exact bT.none _
   |refine bT.ite ?_ ?_
   |refine bT.bind ?_ (fun _=>?_)
theorem df.mono:∀a0 a1 k,bT (df.f k a0 a1) (df.f (k+1) a0 a1):=by
 intro a0 a1 k;have gU:=df.cO k;unfold df.f
 repeat' first
   |exact gU _ _
   |exact bT.refl _
   |exact bT.none _
   |refine bT.ite ?_ ?_
   |refine bT.bind ?_ (fun _=>?_)
theorem df.calls (k:Nat)(a0:ByteArray)(a1:Int)(r:Int)(w:World)(h:df.f k a0 a1=some r):
  Calls Tryz.prog 199 #[.string a0,.int .i64 a1] w fun e w'=>e= .returned (.int .i64 r)∧aJ w w':=by
 have H:(df.l0 k a0 a1)=some r:=h;clear h;have H':=zM H;clear H;go_enter Tryz.func199,Tryz.ntmps199;go_wp2;go_loopg [1] k (fun kq v1 w'=>∃(qc:Int),v1= .int .i64 qc∧Aside0 (df.l0 kq a0 qc=some r)∧Aside0 (kq≤k)∧aJ w w')
 case atStart=>exact⟨(a1),zR,H',⟨Nat.le_refl _⟩,by repeat(first|exact aJ.refl _|apply aJ.step)⟩
 case round=>
  clear H';try clear c1
  try clear p2
  obtain⟨qc,rfl,HA,fM,⟨m1,rfl⟩⟩:=hrel;cases gk with
  |zero=>exact absurd HA.out (by simp[df.l0])
  |succ k1=>
   have H:=HA.out;clear HA;simp only[df.l0]at H
   by_cases c3:qc<(a0.size:Int)
   ·rw[if_pos c3]at H;have iI:=zT c3;clear c3
    by_cases c4:0≤qc
    ·rw[if_pos c4]at H;have ig:=zT c4;clear c4
     by_cases c6:(bt a0 qc)≥48
     ·rw[if_pos c6]at H;have iP:=zT c6;clear c6
      by_cases c8:(bt a0 qc)≤57
      ·rw[if_pos c8]at H;have nP:=zT c8;clear c8;have H':=zM H;clear H;have p5:0≤(qc:Int):=zD;have q5:qc<(a0.size:Int):=zD;have hx5:=dQ a0 qc;replace p5:=eq_true p5;replace q5:=eq_true q5;have p7:0≤(qc:Int):=zD;have q7:qc<(a0.size:Int):=zD;have hx7:=dQ a0 qc;replace p7:=eq_true p7;replace q7:=eq_true q7;go_wp2;go_roundg k1
       case measure=>have:=fM.out;omega
       case rel=>exact⟨(wrap64 (qc+1)),zR,H',⟨by have:=fM.out;omega⟩,by repeat(first|exact aJ.refl _|apply aJ.step)⟩
      ·rw[if_neg c8]at H;have nP:=zF c8;clear c8;obtain rfl:=Option.some.inj H;have p5:0≤(qc:Int):=zD;have q5:qc<(a0.size:Int):=zD;have hx5:=dQ a0 qc;replace p5:=eq_true p5;replace q5:=eq_true q5;have p7:0≤(qc:Int):=zD;have q7:qc<(a0.size:Int):=zD;have hx7:=dQ a0 qc;replace p7:=eq_true p7;replace q7:=eq_true q7;go_wp2;go_ret;exact⟨zR,by repeat(first|exact aJ.refl _|apply aJ.step)⟩
     ·rw[if_neg c6]at H;have iP:=zF c6;clear c6;obtain rfl:=Option.some.inj H;have p5:0≤(qc:Int):=zD;have q5:qc<(a0.size:Int):=zD;have hx5:=dQ a0 qc;replace p5:=eq_true p5;replace q5:=eq_true q5;go_wp2;go_ret;exact⟨zR,by repeat(first|exact aJ.refl _|apply aJ.step)⟩
    ·rw[if_neg c4]at H;exact absurd H (by simp)
   ·rw[if_neg c3]at H;have iI:=zF c3;clear c3;obtain rfl:=Option.some.inj H;go_wp2;go_ret;exact⟨zR,by repeat(first|exact aJ.refl _|apply aJ.step)⟩
def bQ.l0:Nat→ByteArray→Option (ByteArray)
 |0,_=>none
 |k+1,x0=>if(x0.size:Int)>1 then(if 0<(x0.size:Int)then(if(bt x0 0)=48 then(if 1≤(x0.size:Int)then(bQ.l0 k (x0.extract 1 x0.size))else(none))else(some x0))else(none))else(some x0)
def bQ.f (k:Nat)(a0:ByteArray):Option (ByteArray):=bQ.l0 k a0
theorem bQ.cO:∀k,(∀y0,bT (bQ.l0 k y0) (bQ.l0 (k+1) y0))
 |0=>fun _ r h=>by simp[bQ.l0]at h
 |k+1=>by
  have gU:=bQ.cO k
  ·intro y0;unfold bQ.l0
   repeat' first
   |exact gU _
   |exact bT.refl _
   |exact bT.none _
   |refine bT.ite ?_ ?_
   |refine bT.bind ?_ (fun _=>?_)
theorem bQ.mono:∀a0 k,bT (bQ.f k a0) (bQ.f (k+1) a0):=by
 intro a0 k;have gU:=bQ.cO k;unfold bQ.f
 repeat' first
   |exact gU _
   |exact bT.refl _
   |exact bT.none _
   |refine bT.ite ?_ ?_
   |refine bT.bind ?_ (fun _=>?_)
theorem bQ.calls (k:Nat)(a0:ByteArray)(r:ByteArray)(w:World)(h:bQ.f k a0=some r):
  Calls Tryz.prog 200 #[.string a0] w fun e w'=>e= .returned (.string r)∧aJ w w':=by
 have H:(bQ.l0 k a0)=some r:=h;clear h;have H':=zM H;clear H;go_enter Tryz.func200,Tryz.ntmps200;go_wp2;go_loopg [0] k (fun kq v0 w'=>∃(aU:ByteArray),v0= .string aU∧Aside0 (bQ.l0 kq aU=some r)∧Aside0 (kq≤k)∧aJ w w')
 case atStart=>exact⟨(a0),zR,H',⟨Nat.le_refl _⟩,by repeat(first|exact aJ.refl _|apply aJ.step)⟩
 case round=>
  clear H';obtain⟨aU,rfl,HA,fM,⟨m1,rfl⟩⟩:=hrel;cases gk with
  |zero=>exact absurd HA.out (by simp[bQ.l0])
  |succ k1=>
   have H:=HA.out;clear HA;simp only[bQ.l0]at H
   by_cases c2:(aU.size:Int)>1
   ·rw[if_pos c2]at H;have kE:=zT c2;have xw:decide (1<aU.size)=true:=decide_eq_true (by omega);clear c2
    by_cases c3:0<(aU.size:Int)
    ·rw[if_pos c3]at H;have iI:=zT c3;have kW:decide (0<aU.size)=true:=decide_eq_true (by omega);clear c3
     by_cases c5:(bt aU 0)=48
     ·rw[if_pos c5]at H;have jJ:((bt aU 0)==48)=true:=beq_iff_eq.mpr c5;have qh:((bt aU 0) !=48)=false:=bne_eq_false_iff_eq.mpr c5;clear c5
      by_cases c6:1≤(aU.size:Int)
      ·rw[if_pos c6]at H;have iP:=eq_true c6;have og:=zT c6;clear c6;have H':=zM H;clear H;have p4:0≤(0:Int):=(by omega);have q4:0<aU.size:=(by have:(0:Int)<(aU.size:Int):=zD;omega);have hx4:∀h:0<aU.size,((aU[0]'h).toNat:Int)=bt aU 0:=dQ aU 0;clear p4;have qi4:(0<(aU.size:Int))=True:=eq_true (zD);replace q4:=eq_true q4;go_wp2;go_roundg k1
       case measure=>have:=fM.out;omega
       case rel=>exact⟨(aU.extract 1 aU.size),zR,H',⟨by have:=fM.out;omega⟩,by repeat(first|exact aJ.refl _|apply aJ.step)⟩
      ·rw[if_neg c6]at H;exact absurd H (by simp)
     ·rw[if_neg c5]at H;have jJ:((bt aU 0)==48)=false:=beq_eq_false_iff_ne.mpr c5;have qh:((bt aU 0) !=48)=true:=bne_iff_ne.mpr c5;obtain rfl:=Option.some.inj H;have p4:0≤(0:Int):=(by omega);have q4:0<aU.size:=(by have:(0:Int)<(aU.size:Int):=zD;omega);have hx4:∀h:0<aU.size,((aU[0]'h).toNat:Int)=bt aU 0:=dQ aU 0;clear p4;have qi4:(0<(aU.size:Int))=True:=eq_true (zD);replace q4:=eq_true q4;go_wp2;go_ret;exact⟨zR,by repeat(first|exact aJ.refl _|apply aJ.step)⟩
    ·rw[if_neg c3]at H;exact absurd H (by simp)
   ·rw[if_neg c2]at H;have kE:=zF c2;have xw:decide (1<aU.size)=false:=decide_eq_false (by omega);clear c2;obtain rfl:=Option.some.inj H;go_wp2;go_ret;exact⟨zR,by repeat(first|exact aJ.refl _|apply aJ.step)⟩
def bH.j0:Nat→Bool→Bool→ByteArray→ByteArray→Option (ByteArray×ByteArray×Int)
 |0,_,_,_,_=>none
 |k+1,Hg,x596000,x596001,x596002=>if Hg=true then(some ((⟨#[]⟩:ByteArray),(⟨#[]⟩:ByteArray),7))else(if x596000=true then(if 1+x596001.size≤9223372036854775807 then(some ((⟨#[45]⟩:ByteArray)++x596001,x596002,0))else(none))else(some (x596001,x596002,0)))
def bH.f (k:Nat)(um:Bool)(kM:ByteArray)(nO:ByteArray):Option (ByteArray×ByteArray×Int):=if(kM.size:Int)>600 then(bH.j0 k true um kM nO)else(bH.j0 k (decide ((nO.size:Int)>600)) um kM nO)
theorem bH.cO:∀k,(∀y0 y1 y2 y3,bT (bH.j0 k y0 y1 y2 y3) (bH.j0 (k+1) y0 y1 y2 y3))
 |0=>fun _ _ _ _ r h=>by simp[bH.j0]at h
 |k+1=>by
  have gU:=bH.cO k
  ·intro y0 y1 y2 y3;unfold bH.j0
   repeat' first
   |exact gU _ _ _ _
   |exact bT.refl _
   |exact bT.none _
   |refine bT.ite ?_ ?_
   |refine bT.bind ?_ (fun _=>?_)
theorem bH.mono:∀a0 a1 a2 k,bT (bH.f k a0 a1 a2) (bH.f (k+1) a0 a1 a2):=by
 intro a0 a1 a2 k;have gU:=bH.cO k;unfold bH.f
 repeat' first
   |exact gU _ _ _ _
   |exact bT.refl _
   |exact bT.none _
   |refine bT.ite ?_ ?_
   |refine bT.bind ?_ (fun _=>?_)
theorem bH.calls (k:Nat)(um:Bool)(kM:ByteArray)(nO:ByteArray)(r1:ByteArray)(r2:ByteArray)(r3:Int)(w:World)(h:bH.f k um kM nO=some (r1,r2,r3)):
  Calls Tryz.prog 151 #[.agg #[.bool um,.string kM,.string nO]] w fun e w'=>e= .returned (.tuple #[.agg #[.string r1,.string r2],.int .i64 r3])∧Below w.heap.size w w':=by
 have apy:=Tryz.underlying231;have asi:=Tryz.underlying39;have HB:=zM (Below.refl w.heap.size w);have H:(if(kM.size:Int)>600 then(bH.j0 k true um kM nO)else(bH.j0 k (decide ((nO.size:Int)>600)) um kM nO))=some (r1,r2,r3):=h;clear h;have HC2:=zM H;clear H;go_enter Tryz.func151,Tryz.ntmps151;go_upto_region 1 with(first|((with_reducible refine jq (N:=1) rfl ?_);(try (refine D6 (by rfl) ?_;dsimp only));refine FX ?hg (N:=1) ?hd (cs:= #[.bool um,.string kM,.string nO]) (t:=231) ?hr ?_;(case hd=>rfl);(case hg=>rfl);(case hr=>first|(go_simp;done)|(go_simp;rfl));intro lM hg w3 hbox hb;have dI:=zM (eU (by repeat(first|(with_reducible first|exact HB.out|apply ag|apply ai|apply aC)|exact HB.out)) hb);have dG:=zM (hbox);have fQ:=zM ((by rw[hg];exact(bP (by repeat(first|(with_reducible first|exact HB.out|apply ag|apply ai|apply aC)|exact HB.out))):w.heap.size≤lM));have XF:=zM ((by rw[hg];exact(bP (by repeat(first|(with_reducible first|exact HB.out|apply ag|apply ai|apply aC)|exact HB.out))):w.heap.size≤lM));clear HB;have HB:=dI;have iW:=dG;have anW:=fQ;have AQ:=XF;clear dI dG fQ XF;clear hb hbox hg)|((with_reducible refine jq (N:=2) rfl ?_);(try (refine D6 (by rfl) ?_;dsimp only));refine FX ?hg (N:=2) ?hd (cs:= #[.string (⟨#[]⟩:ByteArray),.string (⟨#[]⟩:ByteArray)]) (t:=39) ?hr ?_;(case hd=>rfl);(case hg=>rfl);(case hr=>first|(go_simp;done)|(go_simp;rfl));intro qx hg w4 hbox hb;have dI:=zM (aT (g:=lM) (o:= .cells #[.bool um,.string kM,.string nO] 231 (0,0)) (by(with_reducible repeat(first|refine iw ?_ _|refine iT ?_|refine fZ ?_ _));exact iW.out) hb);have dG:=zM (eU (by repeat(first|(with_reducible first|exact HB.out|apply ag|apply ai|apply aC|refine dm ?_ AQ.out)|exact HB.out)) hb);have fQ:=zM (hbox);have XF:=zM ((by rw[hg];exact(bP (by repeat(first|(with_reducible first|exact HB.out|apply ag|apply ai|apply aC|refine dm ?_ AQ.out)|exact HB.out))):w.heap.size≤qx));have n4_:=zM ((by rw[hg];exact(bP (by repeat(first|(with_reducible first|exact HB.out|apply ag|apply ai|apply aC|refine dm ?_ AQ.out)|exact HB.out))):w.heap.size≤qx));have n5_:=zM ((by rw[hg];exact Nat.ne_of_lt (dV (g:=lM) (o:= .cells #[.bool um,.string kM,.string nO] 231 (0,0)) (by(with_reducible repeat(first|refine iw ?_ _|refine iT ?_|refine fZ ?_ _));exact iW.out)):lM≠qx));have n6_:=zM ((by rw[hg];exact Nat.ne_of_gt (dV (g:=lM) (o:= .cells #[.bool um,.string kM,.string nO] 231 (0,0)) (by(with_reducible repeat(first|refine iw ?_ _|refine iT ?_|refine fZ ?_ _));exact iW.out)):qx≠lM));clear iW;clear HB;have iW:=dI;have HB:=dG;have mg:=fQ;have anX:=XF;have JA:=n4_;have qX:=n5_;have qY:=n6_;clear dI dG fQ XF n4_ n5_ n6_;clear hb hbox hg))
 (try simp only[Act.put,List.setIfInBounds_toArray,List.set_cons_zero,List.set_cons_succ])
 go_cut [13] (fun v13 wc=>∃(kq:Nat) (jM:Bool),v13= .bool jM∧Aside0 (bH.j0 kq jM um kM nO=some (r1,r2,r3))∧Aside0 (kq≤k)∧Aside0 (wc.heap[lM]?=some (.cells #[.bool um,.string kM,.string nO] 231 (0,0)))∧Aside0 (wc.heap[qx]?=some (.cells #[.string (⟨#[]⟩:ByteArray),.string (⟨#[]⟩:ByteArray)] 39 (0,0)))∧Aside0 (Below w.heap.size w wc))
 case first=>
  have H:=HC2.out;clear HC2
  by_cases c5:(kM.size:Int)>600
  ·rw[if_pos c5]at H;have jJ:=zT c5;have qh:decide (600<kM.size)=true:=decide_eq_true (by omega);clear c5
   (first|rw[jJ]|(simp only[dL,jK];rw[jJ])|skip)
   have H':=zM H;clear H;have as7:=qX.out;have as9:=qY.out;have acJ:w4.cell? ⟨lM,0,none⟩=some (.bool um):=(aj iW.out 0).trans rfl;have acK:w4.cell? ⟨lM,1,none⟩=some (.string kM):=(aj iW.out 1).trans rfl;have acL:w4.cell? ⟨lM,2,none⟩=some (.string nO):=(aj iW.out 2).trans rfl;have acV:=au iW.out 0;have acW:=au iW.out 1;have acX:=au iW.out 2;go_wp2;go_meet
   case rel=>exact⟨_,(true),zR,H',⟨by first|omega|exact Nat.le_refl _⟩,⟨by(with_reducible repeat(first|refine iw ?_ _|refine iT ?_|refine fZ ?_ _));exact iW.out⟩,⟨by(with_reducible repeat(first|refine iw ?_ _|refine iT ?_|refine fZ ?_ _));exact mg.out⟩,⟨by repeat(first|(with_reducible first|exact HB.out|apply ag|apply ai|apply aC|refine dm ?_ AQ.out|refine dm ?_ JA.out)|exact HB.out)⟩⟩
  ·rw[if_neg c5]at H;have jJ:=zF c5;have qh:decide (600<kM.size)=false:=decide_eq_false (by omega);clear c5
   (first|rw[jJ]|(simp only[dL,jK];rw[jJ])|skip)
   have H':=zM H;clear H;have as8:=qX.out;have asa:=qY.out;have acM:w4.cell? ⟨lM,0,none⟩=some (.bool um):=(aj iW.out 0).trans rfl;have acN:w4.cell? ⟨lM,1,none⟩=some (.string kM):=(aj iW.out 1).trans rfl;have acO:w4.cell? ⟨lM,2,none⟩=some (.string nO):=(aj iW.out 2).trans rfl;have acY:=au iW.out 0;have acZ:=au iW.out 1;have ad1:=au iW.out 2;go_wp2;go_meet
   case rel=>exact⟨_,(decide ((nO.size:Int)>600)),zR,H',⟨by first|omega|exact Nat.le_refl _⟩,⟨by(with_reducible repeat(first|refine iw ?_ _|refine iT ?_|refine fZ ?_ _));exact iW.out⟩,⟨by(with_reducible repeat(first|refine iw ?_ _|refine iT ?_|refine fZ ?_ _));exact mg.out⟩,⟨by repeat(first|(with_reducible first|exact HB.out|apply ag|apply ai|apply aC|refine dm ?_ AQ.out|refine dm ?_ JA.out)|exact HB.out)⟩⟩
 case rest=>
  clear HC2;try clear c1
  try clear p2
  try clear c5
  try clear jJ
  try clear qh
  try clear c6
  try clear c8
  try clear acJ
  try clear acK
  try clear acL
  try clear acM
  try clear acN
  try clear acO
  try clear acV
  try clear acW
  try clear acX
  try clear acY
  try clear acZ
  try clear ad1
  obtain⟨kq,jM,rfl,HA,HJ1,iW,mg,HB⟩:=hcut;cases kq with
  |zero=>exact absurd HA.out (by simp[bH.j0])
  |succ kj1=>
   have H:=HA.out;clear HA;simp only[bH.j0]at H
   by_cases c10:jM=true
   ·subst c10;have H1:(some ((⟨#[]⟩:ByteArray),(⟨#[]⟩:ByteArray),7))=some (r1,r2,r3):=by rw[if_pos rfl]at H;exact H
    clear H;have H:=H1;clear H1;simp only[Option.some.injEq,Prod.mk.injEq]at H;obtain⟨rfl,rfl,rfl⟩:=H;have apo:=qY.out;have aps:=qX.out;have aiJ:wc.cell? ⟨qx,0,none⟩=some (.string (⟨#[]⟩:ByteArray)):=(aj mg.out 0).trans rfl;have aiK:wc.cell? ⟨qx,1,none⟩=some (.string (⟨#[]⟩:ByteArray)):=(aj mg.out 1).trans rfl;have aiW:=au mg.out 0;have aiX:=au mg.out 1;go_wp2;refine bodyPost_ret (dw rfl _ _ qx 39 #[.string (⟨#[]⟩:ByteArray),.string (⟨#[]⟩:ByteArray)] (0,0) _ rfl (by(with_reducible repeat(first|refine iw ?_ _|refine iT ?_|refine fZ ?_ _));refine uY (cs:= #[.string (⟨#[]⟩:ByteArray),.string (⟨#[]⟩:ByteArray)]) ?_ 1 _ rfl;(with_reducible repeat(first|refine iw ?_ _|refine iT ?_|refine fZ ?_ _));refine uY (cs:= #[.string (⟨#[]⟩:ByteArray),.string (⟨#[]⟩:ByteArray)]) ?_ 0 _ rfl;(with_reducible repeat(first|refine iw ?_ _|refine iT ?_|refine fZ ?_ _));exact mg.out) Tryz.underlying39 rfl (by kernel_rfl)) rfl ?_;exact⟨by first|rfl|(simp[bg,bn]<;>rfl)|(simp[*,bg,bn]<;>rfl),by repeat(first|(with_reducible first|exact HB.out|apply ag|apply ai|apply aC|refine dm ?_ AQ.out|refine dm ?_ JA.out)|exact HB.out)⟩
   ·replace c10:=Bool.eq_false_iff.mpr c10;subst c10;have H1:(if um=true then(if 1+kM.size≤9223372036854775807 then(some ((⟨#[45]⟩:ByteArray)++kM,nO,0))else(none))else(some (kM,nO,0)))=some (r1,r2,r3):=by rw[if_neg (show¬(false=true)by decide)]at H;exact H
    clear H;have H:=H1;clear H1
    by_cases c13:um=true
    ·subst c13;have H1:(if 1+kM.size≤9223372036854775807 then(some ((⟨#[45]⟩:ByteArray)++kM,nO,0))else(none))=some (r1,r2,r3):=by rw[if_pos rfl]at H;exact H
     clear H;have H:=H1;clear H1
     by_cases c14:1+kM.size≤9223372036854775807
     ·rw[if_pos c14]at H;have rq:=eq_true c14;have Ba:=zT c14;try have aoC:(9223372036854775807<1+kM.size)=False:=eq_false (Nat.not_lt.2 c14)
      simp only[Option.some.injEq,Prod.mk.injEq]at H;obtain⟨rfl,rfl,rfl⟩:=H;have apq:=qX.out;have apt:=qY.out;have aiL:wc.cell? ⟨lM,0,none⟩=some (.bool true):=(aj iW.out 0).trans rfl;have aiM:wc.cell? ⟨lM,1,none⟩=some (.string kM):=(aj iW.out 1).trans rfl;have aiN:wc.cell? ⟨lM,2,none⟩=some (.string nO):=(aj iW.out 2).trans rfl;have aiY:=au iW.out 0;have aiZ:=au iW.out 1;have aj0:=au iW.out 2;have aiO:wc.cell? ⟨qx,0,none⟩=some (.string (⟨#[]⟩:ByteArray)):=(aj mg.out 0).trans rfl;have aiP:wc.cell? ⟨qx,1,none⟩=some (.string (⟨#[]⟩:ByteArray)):=(aj mg.out 1).trans rfl;have aj1:=au mg.out 0;have aj2:=au mg.out 1;go_wp2;refine bodyPost_ret (dw rfl _ _ qx 39 #[.string ((⟨#[45]⟩:ByteArray)++kM),.string nO] (0,0) _ rfl (by(with_reducible repeat(first|refine iw ?_ _|refine iT ?_|refine fZ ?_ _));refine uY (cs:= #[.string ((⟨#[45]⟩:ByteArray)++kM),.string (⟨#[]⟩:ByteArray)]) ?_ 1 _ rfl;(with_reducible repeat(first|refine iw ?_ _|refine iT ?_|refine fZ ?_ _));refine uY (cs:= #[.string (⟨#[]⟩:ByteArray),.string (⟨#[]⟩:ByteArray)]) ?_ 0 _ rfl;(with_reducible repeat(first|refine iw ?_ _|refine iT ?_|refine fZ ?_ _));exact mg.out) Tryz.underlying39 rfl (by kernel_rfl)) rfl ?_;exact⟨by first|rfl|(simp[bg,bn]<;>rfl)|(simp[*,bg,bn]<;>rfl),by repeat(first|(with_reducible first|exact HB.out|apply ag|apply ai|apply aC|refine dm ?_ AQ.out|refine dm ?_ JA.out)|exact HB.out)⟩
     ·rw[if_neg c14]at H;exact absurd H (by simp)
    ·replace c13:=Bool.eq_false_iff.mpr c13;subst c13;have H1:(some (kM,nO,0))=some (r1,r2,r3):=by rw[if_neg (show¬(false=true)by decide)]at H;exact H
     clear H;have H:=H1;clear H1;simp only[Option.some.injEq,Prod.mk.injEq]at H;obtain⟨rfl,rfl,rfl⟩:=H;have apr:=qX.out;have apu:=qY.out;have aiQ:wc.cell? ⟨lM,0,none⟩=some (.bool false):=(aj iW.out 0).trans rfl;have aiR:wc.cell? ⟨lM,1,none⟩=some (.string kM):=(aj iW.out 1).trans rfl;have aiS:wc.cell? ⟨lM,2,none⟩=some (.string nO):=(aj iW.out 2).trans rfl;have aj3:=au iW.out 0;have aj6:=au iW.out 1;have aj7:=au iW.out 2;have aiT:wc.cell? ⟨qx,0,none⟩=some (.string (⟨#[]⟩:ByteArray)):=(aj mg.out 0).trans rfl;have aiU:wc.cell? ⟨qx,1,none⟩=some (.string (⟨#[]⟩:ByteArray)):=(aj mg.out 1).trans rfl;have aj8:=au mg.out 0;have aj9:=au mg.out 1;go_wp2;refine bodyPost_ret (dw rfl _ _ qx 39 #[.string kM,.string nO] (0,0) _ rfl (by(with_reducible repeat(first|refine iw ?_ _|refine iT ?_|refine fZ ?_ _));refine uY (cs:= #[.string kM,.string (⟨#[]⟩:ByteArray)]) ?_ 1 _ rfl;(with_reducible repeat(first|refine iw ?_ _|refine iT ?_|refine fZ ?_ _));refine uY (cs:= #[.string (⟨#[]⟩:ByteArray),.string (⟨#[]⟩:ByteArray)]) ?_ 0 _ rfl;(with_reducible repeat(first|refine iw ?_ _|refine iT ?_|refine fZ ?_ _));exact mg.out) Tryz.underlying39 rfl (by kernel_rfl)) rfl ?_;exact⟨by first|rfl|(simp[bg,bn]<;>rfl)|(simp[*,bg,bn]<;>rfl),by repeat(first|(with_reducible first|exact HB.out|apply ag|apply ai|apply aC|refine dm ?_ AQ.out|refine dm ?_ JA.out)|exact HB.out)⟩
def bI.l0:Nat→List Int→Int→Int→Option (ByteArray)
 |0,_,_,_=>none
 |k+1,x3,x8,x9=>if x9<x8 then(if 0≤x9 then(if x9<(x3.length:Int)then(bI.l0 k (x3.set (x9:Int).toNat 48) x8 (wrap64 (x9+1)))else(none))else(none))else(some (strOfNums x3))
def bI.f (k:Nat)(a0:Int):Option (ByteArray):=if 0≤a0 then(if(a0:Int).toNat≤281474976710656 then((some (List.replicate (a0:Int).toNat 0:List Int)).bind fun AP=>(bI.l0 k AP (AP.length:Int) 0))else(none))else(none)
theorem bI.cO:∀k,(∀y0 y1 y2,bT (bI.l0 k y0 y1 y2) (bI.l0 (k+1) y0 y1 y2))
 |0=>fun _ _ _ r h=>by simp[bI.l0]at h
 |k+1=>by
  have gU:=bI.cO k
  ·intro y0 y1 y2;unfold bI.l0
   repeat' first
   |exact gU _ _ _
   |exact bT.refl _
   |exact bT.none _
   |refine bT.ite ?_ ?_
   |refine bT.bind ?_ (fun _=>?_)
theorem bI.mono:∀a0 k,bT (bI.f k a0) (bI.f (k+1) a0):=by
 intro a0 k;have gU:=bI.cO k;unfold bI.f
 repeat' first
   |exact gU _ _ _
   |exact bT.refl _
   |exact bT.none _
   |refine bT.ite ?_ ?_
   |refine bT.bind ?_ (fun _=>?_)
theorem bI.calls (k:Nat)(a0:Int)(r:ByteArray)(w:World)(h:bI.f k a0=some r):
  Calls Tryz.prog 202 #[.int .i64 a0] w fun e w'=>e= .returned (.string r)∧Below w.heap.size w w':=by
 have HB:=zM (Below.refl w.heap.size w);have H:(if 0≤a0 then(if(a0:Int).toNat≤281474976710656 then((some (List.replicate (a0:Int).toNat 0:List Int)).bind fun AP=>(bI.l0 k AP (AP.length:Int) 0))else(none))else(none))=some r:=h;clear h
 by_cases c2:0≤a0
 ·rw[if_pos c2]at H;have kE:=eq_true c2;have xw:=zT c2;clear c2
  by_cases c3:(a0:Int).toNat≤281474976710656
  ·rw[if_pos c3]at H;have iI:=eq_true c3;have kW:=zT c3;clear c3;obtain⟨AP,Xj⟩:∃y_:List Int,y_=(List.replicate (a0:Int).toNat 0):=⟨_,rfl⟩;replace H:(bI.l0 k AP (AP.length:Int) 0)=some r:=zY Xj H;have aaW:=zM Xj;clear Xj;have H':=zM H;clear H;go_enter Tryz.func202,Tryz.ntmps202;go_wp2_with (first|((with_reducible refine jq (N:=6) rfl ?_);refine Kd.xm (Kd.int .u8) _ 5 rfl (N:=6) rfl 50 _ _ rfl a0 rfl rfl Tryz.underlying50 (.int .u8 0) 1 info5 rfl (by decide) (by omega) 0 (ok:=fun _=>True) (mO:=fun _=>True) rfl (fun _ hk=>hk) trivial (zD) (Nat.le_trans (Nat.mul_le_mul_right _ (zD:a0.toNat≤281474976710656)) (by omega)) (Below.refl _ _) (Nat.le_refl _) ?_;intro atH w4 ho5 hb D7 kG;clear D7 kG;(first|rw[←aaW.out]at ho5|(simp only[Int.reduceToNat]at ho5;rw[←aaW.out]at ho5));have dI:=zM (Kd.iV ho5 (bP (by repeat(first|(with_reducible first|exact HB.out|apply ag|apply ai|apply aC)|exact HB.out))));have dG:=zM (eU (by repeat(first|(with_reducible first|exact HB.out|apply ag|apply ai|apply aC)|exact HB.out)) hb);clear HB;have aaL:=dI;have HB:=dG;clear dI dG;clear hb ho5;obtain⟨Ao6,co6,eo6⟩:=Kd.fO aaL.out;subst eo6));go_loopg [9] k (fun kq v9 w'=>∃(fH:List Int) (fA:Int),v9= .int .i64 fA∧Aside0 (bI.l0 kq fH (AP.length:Int) fA=some r)∧Aside0 (kq≤k)∧Aside0 (Kd.R (Kd.int .u8) 5 w' w.heap.size (fun _=>True) (.slice Ao6 AP.length co6) fH)∧Aside0 (Below w.heap.size w w'))
   case atStart=>exact⟨(AP),(0),zR,H',⟨Nat.le_refl _⟩,⟨zO aaL.out⟩,⟨zB⟩⟩
   case round=>
    clear H';try clear c2
    try clear kE
    try clear xw
    try clear p2
    try clear c3
    try clear iI
    try clear kW
    obtain⟨fH,fA,rfl,HA,fM,ik,HB⟩:=hrel;have KR:=(Kd.dA ik.out).1;rw[KR]at ik
    (try simp only[KR])
    cases gk with
    |zero=>exact absurd HA.out (by simp[bI.l0])
    |succ k1=>
     have H:=HA.out;clear HA;simp only[bI.l0]at H
     by_cases c7:fA<(AP.length:Int)
     ·rw[if_pos c7]at H;have lZ:=zT c7;clear c7
      by_cases c8:0≤fA
      ·rw[if_pos c8]at H;have nP:=zT c8;clear c8
       by_cases c9:fA<(fH.length:Int)
       ·rw[if_pos c9]at H;have qL:=zT c9;clear c9;obtain⟨aek,Xk⟩:∃y_:List Int,y_=(fH.set (fA:Int).toNat 48):=⟨_,rfl⟩;replace H:(bI.l0 k1 aek (AP.length:Int) (wrap64 (fA+1)))=some r:=zY Xk H;have afS:=zM Xk;clear Xk;have H':=zM H;clear H;have p10:0≤(fA:Int):=zD;have q10:(fA:Int)<((fH.length:Int):Int):=zD;obtain⟨acE,agu,Zt,agO,alb,aqI,aeR⟩:=Kd.jf ik.out (by omega)
        (first|cases Zt|(injection Zt with ea_ en_ ec_;(first|subst ea_|(injection ea_ with ea_;subst ea_));subst ec_;clear en_))
        have ajE:=zM agO;have aq2:=zM aeR;clear agO alb aeR;obtain⟨am8,alD⟩:=Kd.fE 0 ik.out (fA:Int) p10 q10;replace p10:=eq_true p10;replace q10:=eq_true q10;have Nw:=Kd.fJ ik.out (fA:Int) 48;go_wp2_with (first|((with_reducible refine dN (t:=5) (p:=14) rfl ?_);refine dE (t:=5) (p:=14) (v:=?vo_w12) (w1:=(wr.setCell ⟨acE,(fA:Int).toNat,none⟩ (.int .u8 48))) ?hg ?ho ?hn ?hr ?_;(case ho=>rfl);(case hg=>rfl);(case hn=>rfl);(case hr=>first|(go_simp;done)|(go_simp;rfl));intro w12 hw;have hg:wr.grownBy w12 (some acE):=(by rw[hw];exact Nw.2);have je:Kd.R (Kd.int .u8) 5 w12 w.heap.size (fun _=>True) (.slice (some ⟨acE,0,none⟩) fH.length co6) aek:=(by rw[hw,afS.out];exact Nw.1);clear Nw;have dI:=zM (je);have dG:=zM ((by rw[hw];exact dm (HB.out) ajE.out:Below w.heap.size w w12));clear ik;clear HB;have ik:=dI;have HB:=dG;clear dI dG;clear hg hw je))
        (try simp only[←KR])
        go_roundg k1
        case measure=>have:=fM.out;omega
        case rel=>exact⟨(aek),(wrap64 (fA+1)),zR,H',⟨by have:=fM.out;omega⟩,⟨by(try simp only[KR]);(with_reducible repeat(first|apply Kd.dC|apply Kd.dD|apply Kd.dR));exact ik.out⟩,⟨zB⟩⟩
       ·rw[if_neg c9]at H;exact absurd H (by simp)
      ·rw[if_neg c8]at H;exact absurd H (by simp)
     ·rw[if_neg c7]at H;have lZ:=zF c7
      (try rw[KR]at lZ)
      clear c7;obtain rfl:=Option.some.inj H;have apf:=pV (P:=Tryz.prog) Tryz.underlying50 Tryz.underlying5 Tryz.underlying9 (Kd.jd ik.out);go_wp2;go_ret;exact⟨by first|rfl|(simp[bg,bn]<;>rfl)|(simp[*,bg,bn]<;>rfl),zB⟩
  ·rw[if_neg c3]at H;exact absurd H (by simp)
 ·rw[if_neg c2]at H;exact absurd H (by simp)
end Go.Proofs.YthbdjmopolpjmaaGreatDoor.F
