/- Part 7 of the proof. -/
import Derived.Test.YthbdjmopolpjmaaGreatDoorK01
set_option linter.unusedVariables false
set_option linter.unusedSimpArgs false
set_option maxHeartbeats 8000000
set_option maxRecDepth 100000
namespace Go.Proofs.YthbdjmopolpjmaaGreatDoor.F
open Go.RowKit Go.Proofs.YthbdjmopolpjmaaGreatDoorW.PrintWords Go.Proofs.YthbdjmopolpjmaaGreatDoorW.PrintLast Go.Proofs.YthbdjmopolpjmaaGreatDoorW.PrintMore
attribute [local go_sem] max2_int min2_int max_two min_two max_three min_three max_four min_four
def bJ.l0:Nat→ByteArray→Int→List ByteArray→Int→Int→Option (List ByteArray)
 |0,_,_,_,_,_=>none
 |k+1,x0,x1,x5,x6,x7=>if x7≤(x0.size:Int)then(if x7=(x0.size:Int)then(if 0≤x6 then(if x6≤x7 then(if x5.length<8796093022208 then(bJ.l0 k x0 x1 (x5++[x0.extract (x6:Int).toNat (x7:Int).toNat]) (wrap64 (x7+1)) (wrap64 (x7+1)))else(none))else(none))else(none))else(if 0≤x7 then(if x7<(x0.size:Int)then(if(bt x0 x7)=x1 then(if 0≤x6 then(if x6≤x7 then(if x5.length<8796093022208 then(bJ.l0 k x0 x1 (x5++[x0.extract (x6:Int).toNat (x7:Int).toNat]) (wrap64 (x7+1)) (wrap64 (x7+1)))else(none))else(none))else(none))else(bJ.l0 k x0 x1 x5 x6 (wrap64 (x7+1))))else(none))else(none)))else(some x5)
def bJ.f (k:Nat)(a0:ByteArray)(a1:Int):Option (List ByteArray):=bJ.l0 k a0 a1 ([]:List ByteArray) 0 0
theorem bJ.cO:∀k,(∀y0 y1 y2 y3 y4,bT (bJ.l0 k y0 y1 y2 y3 y4) (bJ.l0 (k+1) y0 y1 y2 y3 y4))
 |0=>fun _ _ _ _ _ r h=>by simp[bJ.l0]at h
 |k+1=>by
  have gU:=bJ.cO k
  ·intro y0 y1 y2 y3 y4;unfold bJ.l0
   repeat' first
   |exact gU _ _ _ _ _
   |exact bT.refl _
   |exact bT.none _
   |refine bT.ite ?_ ?_
   |refine bT.bind ?_ (fun _=>?_)
theorem bJ.mono:∀a0 a1 k,bT (bJ.f k a0 a1) (bJ.f (k+1) a0 a1):=by
 intro a0 a1 k;have gU:=bJ.cO k;unfold bJ.f
 repeat' first
   |exact gU _ _ _ _ _
   |exact bT.refl _
   |exact bT.none _
   |refine bT.ite ?_ ?_
   |refine bT.bind ?_ (fun _=>?_)
theorem bJ.calls (k:Nat)(a0:ByteArray)(a1:Int)(r:List ByteArray)(w:World)(h:bJ.f k a0 a1=some r):
  Calls Tryz.prog 40 #[.string a0,.int .u8 a1] w fun e w'=>∃BH:Value,e= .returned (BH)∧Kd.R Kd.string 9 w' w.heap.size (fun _=>True) BH r∧Below w.heap.size w w':=by
 have HB:=zM (Below.refl w.heap.size w);have H:(bJ.l0 k a0 a1 ([]:List ByteArray) 0 0)=some r:=h;clear h;have H':=zM H;clear H;go_enter Tryz.func40,Tryz.ntmps40;go_wp2;go_loopg [5,6,7] k (fun kq v5 v6 v7 w'=>∃(aV:List ByteArray) (iF:Int) (dO:Int),v6= .int .i64 iF∧v7= .int .i64 dO∧Aside0 (bJ.l0 kq a0 a1 aV iF dO=some r)∧Aside0 (kq≤k)∧Aside0 (Kd.R Kd.string 9 w' w.heap.size (fun _=>True) v5 aV)∧Aside0 (Below w.heap.size w w'))
 case atStart=>exact⟨(([]:List ByteArray)),(0),(0),zR,zR,H',⟨Nat.le_refl _⟩,⟨by first|exact Kd.jB _ _ _ _ _|exact Kd.FN _ _ _ _ _|exact Kd.FT _ _ _ _ _|exact Kd.FP _ _ _ _ _|exact Kd.tH _ _ _ _ _⟩,⟨zB⟩⟩
 case round=>
  clear H';try clear p2
  obtain⟨aV,iF,dO,rfl,rfl,HA,fM,dY,HB⟩:=hrel;cases gk with
  |zero=>exact absurd HA.out (by simp[bJ.l0])
  |succ k1=>
   have H:=HA.out;clear HA;simp only[bJ.l0]at H
   by_cases c3:dO≤(a0.size:Int)
   ·rw[if_pos c3]at H;have iI:=zT c3;clear c3
    by_cases c4:dO=(a0.size:Int)
    ·rw[if_pos c4]at H;have ig:(dO==(a0.size:Int))=true:=beq_iff_eq.mpr c4;have oQ:(dO !=(a0.size:Int))=false:=bne_eq_false_iff_eq.mpr c4;clear c4
     by_cases c5:0≤iF
     ·rw[if_pos c5]at H;have jJ:=eq_true c5;have qh:=zT c5;clear c5
      by_cases c6:iF≤dO
      ·rw[if_pos c6]at H;have iP:=eq_true c6;have og:=zT c6;clear c6;have lZ:=eq_true (zD:dO≤(a0.size:Int))
       by_cases c8:aV.length<8796093022208
       ·rw[if_pos c8]at H;have abW:=zM c8;clear c8;obtain⟨ai0,Xd⟩:∃y_:List ByteArray,y_=(aV++[a0.extract (iF:Int).toNat (dO:Int).toNat]):=⟨_,rfl⟩;replace H:(bJ.l0 k1 a0 a1 ai0 (wrap64 (dO+1)) (wrap64 (dO+1)))=some r:=zY Xd H;have afM:=zM Xd;clear Xd;have H':=zM H;clear H;go_wp2_with (first|((with_reducible refine bK (b:= .append) (xs:= #[.tmp 25,.tmp 30]) rfl ?_);at_builtin;refine Kd.dZ Kd.string (w0:=w) w.heap.size rfl (.tmp 25) (.tmp 30) 30 9 (.string ⟨#[]⟩) 16 rfl Tryz.underlying30 info9 rfl (by decide) (by omega) u5 aV (a0.extract (iF:Int).toNat (dO:Int).toNat) [.string (a0.extract (iF:Int).toNat (dO:Int).toNat)] (fun _=>True) (fun _=>False) rfl rfl ?aP (fun _ hk=>hk.elim) ?aF ?aO ?aB ?aS ?aL ?_;(case aP=>exact rfl);(case aB=>exact(by repeat(first|(with_reducible first|exact HB.out|apply ag|apply ai|apply aC)|exact HB.out)));(case aF=>exact(fun _ _=>trivial));(case aO=>exact(by(with_reducible repeat(first|apply Kd.dC|apply Kd.dD|apply Kd.dR));exact dY.out));(case aS=>exact(bP (by repeat(first|(with_reducible first|exact HB.out|apply ag|apply ai|apply aC)|exact HB.out))));(case aL=>have:=abW.out;omega);intro atB w9 ho hb hg hat;rw[←afM.out]at ho;have dI:=zM (hb);have dG:=zM (ho);clear HB;clear dY;have HB:=dI;have aff:=dG;clear dI dG;clear ho hb hg hat));go_roundg k1
        case measure=>have:=fM.out;omega
        case rel=>exact⟨(ai0),(wrap64 (dO+1)),(wrap64 (dO+1)),zR,zR,H',⟨by have:=fM.out;omega⟩,⟨zO aff.out⟩,⟨zB⟩⟩
       ·rw[if_neg c8]at H;exact absurd H (by simp)
      ·rw[if_neg c6]at H;exact absurd H (by simp)
     ·rw[if_neg c5]at H;exact absurd H (by simp)
    ·rw[if_neg c4]at H;have ig:(dO==(a0.size:Int))=false:=beq_eq_false_iff_ne.mpr c4;have oQ:(dO !=(a0.size:Int))=true:=bne_iff_ne.mpr c4
     by_cases c10:0≤dO
     ·rw[if_pos c10]at H;have yB:=zT c10;clear c10
      by_cases c11:dO<(a0.size:Int)
      ·rw[if_pos c11]at H;have lL:=zT c11;clear c11
       by_cases c13:(bt a0 dO)=a1
       ·rw[if_pos c13]at H;have oK:((bt a0 dO)==a1)=true:=beq_iff_eq.mpr c13;have P9:((bt a0 dO) !=a1)=false:=bne_eq_false_iff_eq.mpr c13;clear c13
        by_cases c14:0≤iF
        ·rw[if_pos c14]at H;have rq:=eq_true c14;have Ba:=zT c14;clear c14
         by_cases c15:iF≤dO
         ·rw[if_pos c15]at H;have Bc:=eq_true c15;have aoD:=zT c15;clear c15;have UT:=eq_true (zD:dO≤(a0.size:Int))
          by_cases c17:aV.length<8796093022208
          ·rw[if_pos c17]at H;have afp:=zM c17;clear c17;obtain⟨ai1,Xe⟩:∃y_:List ByteArray,y_=(aV++[a0.extract (iF:Int).toNat (dO:Int).toNat]):=⟨_,rfl⟩;replace H:(bJ.l0 k1 a0 a1 ai1 (wrap64 (dO+1)) (wrap64 (dO+1)))=some r:=zY Xe H;have afN:=zM Xe;clear Xe;have H':=zM H;clear H;have p12:0≤(dO:Int):=zD;have q12:dO<(a0.size:Int):=zD;have RU:=dQ a0 dO;replace p12:=eq_true p12;replace q12:=eq_true q12;go_wp2_with (first|((with_reducible refine bK (b:= .append) (xs:= #[.tmp 25,.tmp 30]) rfl ?_);at_builtin;refine Kd.dZ Kd.string (w0:=w) w.heap.size rfl (.tmp 25) (.tmp 30) 30 9 (.string ⟨#[]⟩) 16 rfl Tryz.underlying30 info9 rfl (by decide) (by omega) u5 aV (a0.extract (iF:Int).toNat (dO:Int).toNat) [.string (a0.extract (iF:Int).toNat (dO:Int).toNat)] (fun _=>True) (fun _=>False) rfl rfl ?aP (fun _ hk=>hk.elim) ?aF ?aO ?aB ?aS ?aL ?_;(case aP=>exact rfl);(case aB=>exact(by repeat(first|(with_reducible first|exact HB.out|apply ag|apply ai|apply aC)|exact HB.out)));(case aF=>exact(fun _ _=>trivial));(case aO=>exact(by(with_reducible repeat(first|apply Kd.dC|apply Kd.dD|apply Kd.dR));exact dY.out));(case aS=>exact(bP (by repeat(first|(with_reducible first|exact HB.out|apply ag|apply ai|apply aC)|exact HB.out))));(case aL=>have:=afp.out;omega);intro atC Nh ho hb hg hat;rw[←afN.out]at ho;have dI:=zM (hb);have dG:=zM (ho);clear HB;clear dY;have HB:=dI;have afg:=dG;clear dI dG;clear ho hb hg hat));go_roundg k1
           case measure=>have:=fM.out;omega
           case rel=>exact⟨(ai1),(wrap64 (dO+1)),(wrap64 (dO+1)),zR,zR,H',⟨by have:=fM.out;omega⟩,⟨zO afg.out⟩,⟨zB⟩⟩
          ·rw[if_neg c17]at H;exact absurd H (by simp)
         ·rw[if_neg c15]at H;exact absurd H (by simp)
        ·rw[if_neg c14]at H;exact absurd H (by simp)
       ·rw[if_neg c13]at H;have oK:((bt a0 dO)==a1)=false:=beq_eq_false_iff_ne.mpr c13;have P9:((bt a0 dO) !=a1)=true:=bne_iff_ne.mpr c13;have H':=zM H;clear H;have p12:0≤(dO:Int):=zD;have q12:dO<(a0.size:Int):=zD;have RU:=dQ a0 dO;replace p12:=eq_true p12;replace q12:=eq_true q12;go_wp2;go_roundg k1
        case measure=>have:=fM.out;omega
        case rel=>exact⟨(aV),(iF),(wrap64 (dO+1)),zR,zR,H',⟨by have:=fM.out;omega⟩,⟨zO dY.out⟩,⟨zB⟩⟩
      ·rw[if_neg c11]at H;exact absurd H (by simp)
     ·rw[if_neg c10]at H;exact absurd H (by simp)
   ·rw[if_neg c3]at H;have iI:=zF c3;clear c3;obtain rfl:=Option.some.inj H;go_wp2;go_ret;exact⟨_,by first|rfl|(simp[bg,bn]<;>rfl)|(simp[*,bg,bn]<;>rfl),zO dY.out,zB⟩
def cZ.l0:Nat→ByteArray→List Int→Int→Option (ByteArray×Bool)
 |0,_,_,_=>none
 |k+1,x0,x4,x5=>if x5<(x0.size:Int)then(if 0≤x5 then(if(bt x0 x5)=92 then(if(wrap64 (x5+1))=(x0.size:Int)then(some ((⟨#[]⟩:ByteArray),false))else(if 0≤(wrap64 (x5+1))then(if(wrap64 (x5+1))<(x0.size:Int)then(if(bt x0 (wrap64 (x5+1)))=92 then(if x4.length<140737488355328 then(cZ.l0 k x0 (x4++[92]) (wrap64 ((wrap64 (x5+1))+1)))else(none))else(if(bt x0 (wrap64 (x5+1)))=116 then(if x4.length<140737488355328 then(cZ.l0 k x0 (x4++[9]) (wrap64 ((wrap64 (x5+1))+1)))else(none))else(if(bt x0 (wrap64 (x5+1)))=110 then(if x4.length<140737488355328 then(cZ.l0 k x0 (x4++[10]) (wrap64 ((wrap64 (x5+1))+1)))else(none))else(some ((⟨#[]⟩:ByteArray),false)))))else(none))else(none)))else(if x4.length<140737488355328 then(cZ.l0 k x0 (x4++[bt x0 x5]) (wrap64 (x5+1)))else(none)))else(none))else(some (strOfNums x4,true))
def cZ.f (k:Nat)(a0:ByteArray):Option (ByteArray×Bool):=cZ.l0 k a0 ([]:List Int) 0
theorem cZ.cO:∀k,(∀y0 y1 y2,bT (cZ.l0 k y0 y1 y2) (cZ.l0 (k+1) y0 y1 y2))
 |0=>fun _ _ _ r h=>by simp[cZ.l0]at h
 |k+1=>by
  have gU:=cZ.cO k
  ·intro y0 y1 y2;unfold cZ.l0
   repeat' first
   |exact gU _ _ _
   |exact bT.refl _
   |exact bT.none _
   |refine bT.ite ?_ ?_
   |refine bT.bind ?_ (fun _=>?_)
theorem cZ.mono:∀a0 k,bT (cZ.f k a0) (cZ.f (k+1) a0):=by
 intro a0 k;have gU:=cZ.cO k;unfold cZ.f
 repeat' first
   |exact gU _ _ _
   |exact bT.refl _
   |exact bT.none _
   |refine bT.ite ?_ ?_
   |refine bT.bind ?_ (fun _=>?_)
theorem cZ.calls (k:Nat)(a0:ByteArray)(r1:ByteArray)(r2:Bool)(w:World)(h:cZ.f k a0=some (r1,r2)):
  Calls Tryz.prog 72 #[.string a0] w fun e w'=>e= .returned (.tuple #[.string r1,.bool r2])∧Below w.heap.size w w':=by
 have HB:=zM (Below.refl w.heap.size w);have H:(cZ.l0 k a0 ([]:List Int) 0)=some (r1,r2):=h;clear h;have H':=zM H;clear H;go_enter Tryz.func72,Tryz.ntmps72;go_wp2;go_loopg [4,5] k (fun kq v4 v5 w'=>∃(dJ:List Int) (aV:Int),v5= .int .i64 aV∧Aside0 (cZ.l0 kq a0 dJ aV=some (r1,r2))∧Aside0 (kq≤k)∧Aside0 (Kd.R (Kd.int .u8) 5 w' w.heap.size (fun _=>True) v4 dJ)∧Aside0 (Below w.heap.size w w'))
 case atStart=>exact⟨(([]:List Int)),(0),zR,H',⟨Nat.le_refl _⟩,⟨by first|exact Kd.jB _ _ _ _ _|exact Kd.FN _ _ _ _ _|exact Kd.FT _ _ _ _ _|exact Kd.FP _ _ _ _ _|exact Kd.tH _ _ _ _ _⟩,⟨zB⟩⟩
 case round=>
  clear H';obtain⟨dJ,aV,rfl,HA,fM,rG,HB⟩:=hrel;cases gk with
  |zero=>exact absurd HA.out (by simp[cZ.l0])
  |succ k1=>
   have H:=HA.out;clear HA;simp only[cZ.l0]at H
   by_cases c2:aV<(a0.size:Int)
   ·rw[if_pos c2]at H;have kE:=zT c2;clear c2
    by_cases c3:0≤aV
    ·rw[if_pos c3]at H;have iI:=zT c3;clear c3
     by_cases c5:(bt a0 aV)=92
     ·rw[if_pos c5]at H;have jJ:((bt a0 aV)==92)=true:=beq_iff_eq.mpr c5;have qh:((bt a0 aV) !=92)=false:=bne_eq_false_iff_eq.mpr c5;clear c5
      by_cases c6:(wrap64 (aV+1))=(a0.size:Int)
      ·rw[if_pos c6]at H;have iP:((wrap64 (aV+1))==(a0.size:Int))=true:=beq_iff_eq.mpr c6;have og:((wrap64 (aV+1)) !=(a0.size:Int))=false:=bne_eq_false_iff_eq.mpr c6;clear c6;simp only[Option.some.injEq,Prod.mk.injEq]at H;obtain⟨rfl,rfl⟩:=H;have p4:0≤(aV:Int):=zD;have q4:aV<(a0.size:Int):=zD;have hx4:=dQ a0 aV;replace p4:=eq_true p4;replace q4:=eq_true q4;go_wp2;go_ret2;exact⟨by first|rfl|(simp[bg,bn]<;>rfl)|(simp[*,bg,bn]<;>rfl),zB⟩
      ·rw[if_neg c6]at H;have iP:((wrap64 (aV+1))==(a0.size:Int))=false:=beq_eq_false_iff_ne.mpr c6;have og:((wrap64 (aV+1)) !=(a0.size:Int))=true:=bne_iff_ne.mpr c6;obtain⟨jv,sH⟩:=zI (wrap64 (aV+1));replace H:(if 0≤(jv)then(if(jv)<(a0.size:Int)then(if(bt a0 (jv))=92 then(if dJ.length<140737488355328 then(cZ.l0 k1 a0 (dJ++[92]) (wrap64 ((jv)+1)))else(none))else(if(bt a0 (jv))=116 then(if dJ.length<140737488355328 then(cZ.l0 k1 a0 (dJ++[9]) (wrap64 ((jv)+1)))else(none))else(if(bt a0 (jv))=110 then(if dJ.length<140737488355328 then(cZ.l0 k1 a0 (dJ++[10]) (wrap64 ((jv)+1)))else(none))else(some ((⟨#[]⟩:ByteArray),false)))))else(none))else(none))=some (r1,r2):=by first|(rw[sH]at H;exact H)|(simp only[sH]at H⊢;exact H)
       (try rw[sH]at iP)
       (try rw[sH]at og)
       have ahd:(IntKind.i64.wrap (aV+1))=jv:=(dL _).trans sH
       by_cases c8:0≤(jv)
       ·rw[if_pos c8]at H;have nP:=zT c8;clear c8
        by_cases c9:(jv)<(a0.size:Int)
        ·rw[if_pos c9]at H;have qL:=zT c9;clear c9
         by_cases c11:(bt a0 (jv))=92
         ·rw[if_pos c11]at H;have lL:((bt a0 (jv))==92)=true:=beq_iff_eq.mpr c11;have A7:((bt a0 (jv)) !=92)=false:=bne_eq_false_iff_eq.mpr c11;clear c11
          by_cases c12:dJ.length<140737488355328
          ·rw[if_pos c12]at H;have Dp:=zM c12;clear c12;obtain⟨ahV,WZ⟩:∃y_:List Int,y_=(dJ++[92]):=⟨_,rfl⟩;replace H:(cZ.l0 k1 a0 ahV (wrap64 ((jv)+1)))=some (r1,r2):=zY WZ H;have afH:=zM WZ;clear WZ;have H':=zM H;clear H;have p4:0≤(aV:Int):=zD;have q4:aV<(a0.size:Int):=zD;have hx4:=dQ a0 aV;replace p4:=eq_true p4;replace q4:=eq_true q4;have p10:0≤((jv):Int):=zD;have q10:(jv)<(a0.size:Int):=zD;have tX:=dQ a0 (jv);replace p10:=eq_true p10;replace q10:=eq_true q10;go_wp2_with (first|((with_reducible refine bK (b:= .append) (xs:= #[.tmp 33,.tmp 34]) rfl ?_);at_builtin;refine Kd.dZ (Kd.int .u8) (w0:=w) w.heap.size rfl (.tmp 33) (.tmp 34) 50 5 (.int .u8 0) 1 rfl Tryz.underlying50 info5 rfl (by decide) (by omega) u4 dJ 92 [.int .u8 92] (fun _=>True) (fun _=>False) rfl rfl ?aP (fun _ hk=>hk.elim) ?aF ?aO ?aB ?aS ?aL ?_;(case aP=>exact rfl);(case aB=>exact(by repeat(first|(with_reducible first|exact HB.out|apply ag|apply ai|apply aC)|exact HB.out)));(case aF=>exact(fun _ _=>trivial));(case aO=>exact(by(with_reducible repeat(first|apply Kd.dC|apply Kd.dD|apply Kd.dR));exact rG.out));(case aS=>exact(bP (by repeat(first|(with_reducible first|exact HB.out|apply ag|apply ai|apply aC)|exact HB.out))));(case aL=>have:=Dp.out;omega);intro aty w13 ho hb hg hat;rw[←afH.out]at ho;have dI:=zM (hb);have dG:=zM (ho);clear HB;clear rG;have HB:=dI;have afc:=dG;clear dI dG;clear ho hb hg hat));go_roundg k1
           case measure=>have:=fM.out;omega
           case rel=>exact⟨(ahV),(wrap64 ((jv)+1)),(by first|rfl|(simp;done)|(simp only[←sH]<;>(first|rfl|simp))|(simp[*];done)),H',⟨by have:=fM.out;omega⟩,⟨zO afc.out⟩,⟨zB⟩⟩
          ·rw[if_neg c12]at H;exact absurd H (by simp)
         ·rw[if_neg c11]at H;have lL:((bt a0 (jv))==92)=false:=beq_eq_false_iff_ne.mpr c11;have A7:((bt a0 (jv)) !=92)=true:=bne_iff_ne.mpr c11
          by_cases c14:(bt a0 (jv))=116
          ·rw[if_pos c14]at H;have rq:((bt a0 (jv))==116)=true:=beq_iff_eq.mpr c14;have Ba:((bt a0 (jv)) !=116)=false:=bne_eq_false_iff_eq.mpr c14;clear c14
           by_cases c15:dJ.length<140737488355328
           ·rw[if_pos c15]at H;have Uo:=zM c15;clear c15;obtain⟨ahW,W9⟩:∃y_:List Int,y_=(dJ++[9]):=⟨_,rfl⟩;replace H:(cZ.l0 k1 a0 ahW (wrap64 ((jv)+1)))=some (r1,r2):=zY W9 H;have afI:=zM W9;clear W9;have H':=zM H;clear H;have p4:0≤(aV:Int):=zD;have q4:aV<(a0.size:Int):=zD;have hx4:=dQ a0 aV;replace p4:=eq_true p4;replace q4:=eq_true q4;have p10:0≤((jv):Int):=zD;have q10:(jv)<(a0.size:Int):=zD;have tX:=dQ a0 (jv);replace p10:=eq_true p10;replace q10:=eq_true q10;go_wp2_with (first|((with_reducible refine bK (b:= .append) (xs:= #[.tmp 38,.tmp 39]) rfl ?_);at_builtin;refine Kd.dZ (Kd.int .u8) (w0:=w) w.heap.size rfl (.tmp 38) (.tmp 39) 50 5 (.int .u8 0) 1 rfl Tryz.underlying50 info5 rfl (by decide) (by omega) u4 dJ 9 [.int .u8 9] (fun _=>True) (fun _=>False) rfl rfl ?aP (fun _ hk=>hk.elim) ?aF ?aO ?aB ?aS ?aL ?_;(case aP=>exact rfl);(case aB=>exact(by repeat(first|(with_reducible first|exact HB.out|apply ag|apply ai|apply aC)|exact HB.out)));(case aF=>exact(fun _ _=>trivial));(case aO=>exact(by(with_reducible repeat(first|apply Kd.dC|apply Kd.dD|apply Kd.dR));exact rG.out));(case aS=>exact(bP (by repeat(first|(with_reducible first|exact HB.out|apply ag|apply ai|apply aC)|exact HB.out))));(case aL=>have:=Uo.out;omega);intro atz w16 ho hb hg hat;rw[←afI.out]at ho;have dI:=zM (hb);have dG:=zM (ho);clear HB;clear rG;have HB:=dI;have afd:=dG;clear dI dG;clear ho hb hg hat));go_roundg k1
            case measure=>have:=fM.out;omega
            case rel=>exact⟨(ahW),(wrap64 ((jv)+1)),(by first|rfl|(simp;done)|(simp only[←sH]<;>(first|rfl|simp))|(simp[*];done)),H',⟨by have:=fM.out;omega⟩,⟨zO afd.out⟩,⟨zB⟩⟩
           ·rw[if_neg c15]at H;exact absurd H (by simp)
          ·rw[if_neg c14]at H;have rq:((bt a0 (jv))==116)=false:=beq_eq_false_iff_ne.mpr c14;have Ba:((bt a0 (jv)) !=116)=true:=bne_iff_ne.mpr c14
           by_cases c17:(bt a0 (jv))=110
           ·rw[if_pos c17]at H;have FZ:((bt a0 (jv))==110)=true:=beq_iff_eq.mpr c17;have JR:((bt a0 (jv)) !=110)=false:=bne_eq_false_iff_eq.mpr c17;clear c17
            by_cases c18:dJ.length<140737488355328
            ·rw[if_pos c18]at H;have JG:=zM c18;clear c18;obtain⟨ahX,Xa⟩:∃y_:List Int,y_=(dJ++[10]):=⟨_,rfl⟩;replace H:(cZ.l0 k1 a0 ahX (wrap64 ((jv)+1)))=some (r1,r2):=zY Xa H;have afJ:=zM Xa;clear Xa;have H':=zM H;clear H;have p4:0≤(aV:Int):=zD;have q4:aV<(a0.size:Int):=zD;have hx4:=dQ a0 aV;replace p4:=eq_true p4;replace q4:=eq_true q4;have p10:0≤((jv):Int):=zD;have q10:(jv)<(a0.size:Int):=zD;have tX:=dQ a0 (jv);replace p10:=eq_true p10;replace q10:=eq_true q10;go_wp2_with (first|((with_reducible refine bK (b:= .append) (xs:= #[.tmp 43,.tmp 44]) rfl ?_);at_builtin;refine Kd.dZ (Kd.int .u8) (w0:=w) w.heap.size rfl (.tmp 43) (.tmp 44) 50 5 (.int .u8 0) 1 rfl Tryz.underlying50 info5 rfl (by decide) (by omega) u4 dJ 10 [.int .u8 10] (fun _=>True) (fun _=>False) rfl rfl ?aP (fun _ hk=>hk.elim) ?aF ?aO ?aB ?aS ?aL ?_;(case aP=>exact rfl);(case aB=>exact(by repeat(first|(with_reducible first|exact HB.out|apply ag|apply ai|apply aC)|exact HB.out)));(case aF=>exact(fun _ _=>trivial));(case aO=>exact(by(with_reducible repeat(first|apply Kd.dC|apply Kd.dD|apply Kd.dR));exact rG.out));(case aS=>exact(bP (by repeat(first|(with_reducible first|exact HB.out|apply ag|apply ai|apply aC)|exact HB.out))));(case aL=>have:=JG.out;omega);intro atA PR ho hb hg hat;rw[←afJ.out]at ho;have dI:=zM (hb);have dG:=zM (ho);clear HB;clear rG;have HB:=dI;have afe:=dG;clear dI dG;clear ho hb hg hat));go_roundg k1
             case measure=>have:=fM.out;omega
             case rel=>exact⟨(ahX),(wrap64 ((jv)+1)),(by first|rfl|(simp;done)|(simp only[←sH]<;>(first|rfl|simp))|(simp[*];done)),H',⟨by have:=fM.out;omega⟩,⟨zO afe.out⟩,⟨zB⟩⟩
            ·rw[if_neg c18]at H;exact absurd H (by simp)
           ·rw[if_neg c17]at H;have FZ:((bt a0 (jv))==110)=false:=beq_eq_false_iff_ne.mpr c17;have JR:((bt a0 (jv)) !=110)=true:=bne_iff_ne.mpr c17;simp only[Option.some.injEq,Prod.mk.injEq]at H;obtain⟨rfl,rfl⟩:=H;have p4:0≤(aV:Int):=zD;have q4:aV<(a0.size:Int):=zD;have hx4:=dQ a0 aV;replace p4:=eq_true p4;replace q4:=eq_true q4;have p10:0≤((jv):Int):=zD;have q10:(jv)<(a0.size:Int):=zD;have tX:=dQ a0 (jv);replace p10:=eq_true p10;replace q10:=eq_true q10;go_wp2;go_ret2;exact⟨by first|rfl|(simp[bg,bn]<;>rfl)|(simp only[←sH];first|rfl|(simp[bg,bn]<;>rfl))|(simp[*,bg,bn]<;>rfl),zB⟩
        ·rw[if_neg c9]at H;exact absurd H (by simp)
       ·rw[if_neg c8]at H;exact absurd H (by simp)
     ·rw[if_neg c5]at H;have jJ:((bt a0 aV)==92)=false:=beq_eq_false_iff_ne.mpr c5;have qh:((bt a0 aV) !=92)=true:=bne_iff_ne.mpr c5
      by_cases c21:dJ.length<140737488355328
      ·rw[if_pos c21]at H;have Ur:=zM c21;clear c21;obtain⟨ahU,WY⟩:∃y_:List Int,y_=(dJ++[bt a0 aV]):=⟨_,rfl⟩;replace H:(cZ.l0 k1 a0 ahU (wrap64 (aV+1)))=some (r1,r2):=zY WY H;have afG:=zM WY;clear WY;have H':=zM H;clear H;have p4:0≤(aV:Int):=zD;have q4:aV<(a0.size:Int):=zD;have hx4:=dQ a0 aV;replace p4:=eq_true p4;replace q4:=eq_true q4;have p20:0≤(aV:Int):=zD;have q20:aV<(a0.size:Int):=zD;have amd:=dQ a0 aV;replace p20:=eq_true p20;replace q20:=eq_true q20;go_wp2_with (first|((with_reducible refine bK (b:= .append) (xs:= #[.tmp 16,.tmp 20]) rfl ?_);at_builtin;refine Kd.dZ (Kd.int .u8) (w0:=w) w.heap.size rfl (.tmp 16) (.tmp 20) 50 5 (.int .u8 0) 1 rfl Tryz.underlying50 info5 rfl (by decide) (by omega) u4 dJ (bt a0 aV) [.int .u8 (bt a0 aV)] (fun _=>True) (fun _=>False) rfl rfl ?aP (fun _ hk=>hk.elim) ?aF ?aO ?aB ?aS ?aL ?_;(case aP=>exact rfl);(case aB=>exact(by repeat(first|(with_reducible first|exact HB.out|apply ag|apply ai|apply aC)|exact HB.out)));(case aF=>exact(fun _ _=>trivial));(case aO=>exact(by(with_reducible repeat(first|apply Kd.dC|apply Kd.dD|apply Kd.dR));exact rG.out));(case aS=>exact(bP (by repeat(first|(with_reducible first|exact HB.out|apply ag|apply ai|apply aC)|exact HB.out))));(case aL=>have:=Ur.out;omega);intro atx w22 ho hb hg hat;rw[←afG.out]at ho;have dI:=zM (hb);have dG:=zM (ho);clear HB;clear rG;have HB:=dI;have afb:=dG;clear dI dG;clear ho hb hg hat));go_roundg k1
       case measure=>have:=fM.out;omega
       case rel=>exact⟨(ahU),(wrap64 (aV+1)),zR,H',⟨by have:=fM.out;omega⟩,⟨zO afb.out⟩,⟨zB⟩⟩
      ·rw[if_neg c21]at H;exact absurd H (by simp)
    ·rw[if_neg c3]at H;exact absurd H (by simp)
   ·rw[if_neg c2]at H;have kE:=zF c2;clear c2;simp only[Option.some.injEq,Prod.mk.injEq]at H;obtain⟨rfl,rfl⟩:=H;have ah5:=pV (P:=Tryz.prog) Tryz.underlying50 Tryz.underlying5 Tryz.underlying9 (Kd.jd rG.out);go_wp2;go_ret2;exact⟨by first|rfl|(simp[bg,bn]<;>rfl)|(simp[*,bg,bn]<;>rfl),zB⟩
def dS.l0:Nat→ByteArray→Int→Int→Int→Option (Int×Bool)
 |0,_,_,_,_=>none
 |k+1,x0,x4,x7,x8=>if x8<x7 then(if 0≤x8 then(if x8<(x0.size:Int)then(if(bt x0 x8)<48 then(some (0,false))else(if(bt x0 x8)>57 then(some (0,false))else(dS.l0 k x0 (mn (wrap64 ((wrap64 (10*x4))+(((bt x0 x8)- 48)%256))) 1099511627776) x7 (wrap64 (x8+1)))))else(none))else(none))else(if x0.toList=([]:List UInt8)then(some (x4,false))else(if 0<(x0.size:Int)then(if(bt x0 0)=48 then(some (x4,((x0.size:Int)==1)))else(some (x4,true)))else(none)))
def dS.f (k:Nat)(a0:ByteArray):Option (Int×Bool):=dS.l0 k a0 0 (a0.size:Int) 0
theorem dS.cO:∀k,(∀y0 y1 y2 y3,bT (dS.l0 k y0 y1 y2 y3) (dS.l0 (k+1) y0 y1 y2 y3))
 |0=>fun _ _ _ _ r h=>by simp[dS.l0]at h
 |k+1=>by
  have gU:=dS.cO k
  ·intro y0 y1 y2 y3;unfold dS.l0
   repeat' first
   |exact gU _ _ _ _
   |exact bT.refl _
   |exact bT.none _
   |refine bT.ite ?_ ?_
   |refine bT.bind ?_ (fun _=>?_)
theorem dS.mono:∀a0 k,bT (dS.f k a0) (dS.f (k+1) a0):=by
 intro a0 k;have gU:=dS.cO k;unfold dS.f
 repeat' first
   |exact gU _ _ _ _
   |exact bT.refl _
   |exact bT.none _
   |refine bT.ite ?_ ?_
   |refine bT.bind ?_ (fun _=>?_)
theorem dS.calls (k:Nat)(a0:ByteArray)(r1:Int)(r2:Bool)(w:World)(h:dS.f k a0=some (r1,r2)):
  Calls Tryz.prog 70 #[.string a0] w fun e w'=>e= .returned (.tuple #[.int .i64 r1,.bool r2])∧Below w.heap.size w w':=by
 have HB:=zM (Below.refl w.heap.size w);have H:(dS.l0 k a0 0 (a0.size:Int) 0)=some (r1,r2):=h;clear h;have H':=zM H;clear H;go_enter Tryz.func70,Tryz.ntmps70;go_wp2;go_loopg [4,8] k (fun kq v4 v8 w'=>∃(dJ:Int) (bU:Int),v4= .int .i64 dJ∧v8= .int .i64 bU∧Aside0 (dS.l0 kq a0 dJ (a0.size:Int) bU=some (r1,r2))∧Aside0 (kq≤k)∧Aside0 (Below w.heap.size w w'))
 case atStart=>exact⟨(0),(0),zR,zR,H',⟨Nat.le_refl _⟩,⟨zB⟩⟩
 case round=>
  clear H';obtain⟨dJ,bU,rfl,rfl,HA,fM,HB⟩:=hrel;cases gk with
  |zero=>exact absurd HA.out (by simp[dS.l0])
  |succ k1=>
   have H:=HA.out;clear HA;simp only[dS.l0]at H
   by_cases c2:bU<(a0.size:Int)
   ·rw[if_pos c2]at H;have kE:=zT c2;clear c2
    by_cases c3:0≤bU
    ·rw[if_pos c3]at H;have iI:=zT c3;clear c3
     by_cases c4:bU<(a0.size:Int)
     ·rw[if_pos c4]at H;have ig:=zT c4;clear c4
      by_cases c6:(bt a0 bU)<48
      ·rw[if_pos c6]at H;have iP:=zT c6;clear c6;simp only[Option.some.injEq,Prod.mk.injEq]at H;obtain⟨rfl,rfl⟩:=H;have p5:0≤(bU:Int):=zD;have q5:bU<(a0.size:Int):=zD;have hx5:=dQ a0 bU;replace p5:=eq_true p5;replace q5:=eq_true q5;go_wp2;go_ret2;exact⟨by first|rfl|(simp[bg,bn]<;>rfl)|(simp[*,bg,bn]<;>rfl),zB⟩
      ·rw[if_neg c6]at H;have iP:=zF c6;clear c6
       by_cases c8:(bt a0 bU)>57
       ·rw[if_pos c8]at H;have nP:=zT c8;clear c8;simp only[Option.some.injEq,Prod.mk.injEq]at H;obtain⟨rfl,rfl⟩:=H;have p5:0≤(bU:Int):=zD;have q5:bU<(a0.size:Int):=zD;have hx5:=dQ a0 bU;replace p5:=eq_true p5;replace q5:=eq_true q5;have p7:0≤(bU:Int):=zD;have q7:bU<(a0.size:Int):=zD;have hx7:=dQ a0 bU;replace p7:=eq_true p7;replace q7:=eq_true q7;go_wp2;go_ret2;exact⟨by first|rfl|(simp[bg,bn]<;>rfl)|(simp[*,bg,bn]<;>rfl),zB⟩
       ·rw[if_neg c8]at H;have nP:=zF c8;clear c8;obtain⟨iq,kY⟩:=zI (mn (wrap64 ((wrap64 (10*dJ))+(((bt a0 bU)- 48)%256))) 1099511627776);replace H:(dS.l0 k1 a0 iq (a0.size:Int) (wrap64 (bU+1)))=some (r1,r2):=by first|(rw[kY]at H;exact H)|(simp only[kY]at H⊢;exact H)
        have Oo:(if 1099511627776<(wrap64 ((wrap64 (10*dJ))+(((bt a0 bU)- 48)%256)))then 1099511627776 else(wrap64 ((wrap64 (10*dJ))+(((bt a0 bU)- 48)%256))))=iq:=kY;have H':=zM H;clear H;have p5:0≤(bU:Int):=zD;have q5:bU<(a0.size:Int):=zD;have hx5:=dQ a0 bU;replace p5:=eq_true p5;replace q5:=eq_true q5;have p7:0≤(bU:Int):=zD;have q7:bU<(a0.size:Int):=zD;have hx7:=dQ a0 bU;replace p7:=eq_true p7;replace q7:=eq_true q7;have p9:0≤(bU:Int):=zD;have q9:bU<(a0.size:Int):=zD;have hx9:=dQ a0 bU;replace p9:=eq_true p9;replace q9:=eq_true q9;go_wp2;go_roundg k1
        case measure=>have:=fM.out;omega
        case rel=>exact⟨(iq),(wrap64 (bU+1)),(by first|rfl|(simp;done)|(simp only[←kY]<;>(first|rfl|simp))|(simp[*];done)),zR,H',⟨by have:=fM.out;omega⟩,⟨zB⟩⟩
     ·rw[if_neg c4]at H;exact absurd H (by simp)
    ·rw[if_neg c3]at H;exact absurd H (by simp)
   ·rw[if_neg c2]at H;have kE:=zF c2;clear c2
    by_cases c11:a0.toList=([]:List UInt8)
    ·rw[if_pos c11]at H;have lL:(a0.toList==([]:List UInt8))=true:=beq_iff_eq.mpr c11;have A7:(a0.toList !=([]:List UInt8))=false:=bne_eq_false_iff_eq.mpr c11;clear c11;simp only[Option.some.injEq,Prod.mk.injEq]at H;obtain⟨rfl,rfl⟩:=H;go_wp2;go_ret2;exact⟨by first|rfl|(simp[bg,bn]<;>rfl)|(simp[*,bg,bn]<;>rfl),zB⟩
    ·rw[if_neg c11]at H;have lL:(a0.toList==([]:List UInt8))=false:=beq_eq_false_iff_ne.mpr c11;have A7:(a0.toList !=([]:List UInt8))=true:=bne_iff_ne.mpr c11
     by_cases c12:0<(a0.size:Int)
     ·rw[if_pos c12]at H;have rf:=zT c12;have aoB:decide (0<a0.size)=true:=decide_eq_true (by omega);clear c12
      by_cases c14:(bt a0 0)=48
      ·rw[if_pos c14]at H;have rq:((bt a0 0)==48)=true:=beq_iff_eq.mpr c14;have Ba:((bt a0 0) !=48)=false:=bne_eq_false_iff_eq.mpr c14;clear c14;simp only[Option.some.injEq,Prod.mk.injEq]at H;obtain⟨rfl,rfl⟩:=H;have p13:0≤(0:Int):=(by omega);have q13:0<a0.size:=(by have:(0:Int)<(a0.size:Int):=zD;omega);have ama:∀h:0<a0.size,((a0[0]'h).toNat:Int)=bt a0 0:=dQ a0 0;clear p13;have amz:(0<(a0.size:Int))=True:=eq_true (zD);replace q13:=eq_true q13;go_wp2;go_ret2;exact⟨by first|rfl|(simp[bg,bn]<;>rfl)|(simp[*,bg,bn]<;>rfl),zB⟩
      ·rw[if_neg c14]at H;have rq:((bt a0 0)==48)=false:=beq_eq_false_iff_ne.mpr c14;have Ba:((bt a0 0) !=48)=true:=bne_iff_ne.mpr c14;simp only[Option.some.injEq,Prod.mk.injEq]at H;obtain⟨rfl,rfl⟩:=H;have p13:0≤(0:Int):=(by omega);have q13:0<a0.size:=(by have:(0:Int)<(a0.size:Int):=zD;omega);have ama:∀h:0<a0.size,((a0[0]'h).toNat:Int)=bt a0 0:=dQ a0 0;clear p13;have amz:(0<(a0.size:Int))=True:=eq_true (zD);replace q13:=eq_true q13;go_wp2;go_ret2;exact⟨by first|rfl|(simp[bg,bn]<;>rfl)|(simp[*,bg,bn]<;>rfl),zB⟩
     ·rw[if_neg c12]at H;exact absurd H (by simp)
def bC.l0:Nat→ByteArray→List Int→Int→Option (ByteArray×Bool)
 |0,_,_,_=>none
 |k+1,x0,x4,x5=>if x5<(x0.size:Int)then(if 0≤x5 then(if(bt x0 x5)=92 then(if(wrap64 (x5+1))=(x0.size:Int)then(some ((⟨#[]⟩:ByteArray),false))else(if 0≤(wrap64 (x5+1))then(if(wrap64 (x5+1))<(x0.size:Int)then(if(bt x0 (wrap64 (x5+1)))=92 then(if x4.length<140737488355328 then(bC.l0 k x0 (x4++[92]) (wrap64 ((wrap64 (x5+1))+1)))else(none))else(if(bt x0 (wrap64 (x5+1)))=116 then(if x4.length<140737488355328 then(bC.l0 k x0 (x4++[9]) (wrap64 ((wrap64 (x5+1))+1)))else(none))else(if(bt x0 (wrap64 (x5+1)))=110 then(if x4.length<140737488355328 then(bC.l0 k x0 (x4++[10]) (wrap64 ((wrap64 (x5+1))+1)))else(none))else(some ((⟨#[]⟩:ByteArray),false)))))else(none))else(none)))else(if x4.length<140737488355328 then(bC.l0 k x0 (x4++[bt x0 x5]) (wrap64 (x5+1)))else(none)))else(none))else(some (strOfNums x4,true))
def bC.f (k:Nat)(a0:ByteArray):Option (ByteArray×Bool):=bC.l0 k a0 ([]:List Int) 0
theorem bC.cO:∀k,(∀y0 y1 y2,bT (bC.l0 k y0 y1 y2) (bC.l0 (k+1) y0 y1 y2))
 |0=>fun _ _ _ r h=>by simp[bC.l0]at h
 |k+1=>by
  have gU:=bC.cO k
  ·intro y0 y1 y2;unfold bC.l0
   repeat' first
   |exact gU _ _ _
   |exact bT.refl _
   |exact bT.none _
   |refine bT.ite ?_ ?_
   |refine bT.bind ?_ (fun _=>?_)
theorem bC.mono:∀a0 k,bT (bC.f k a0) (bC.f (k+1) a0):=by
 intro a0 k;have gU:=bC.cO k;unfold bC.f
 repeat' first
   |exact gU _ _ _
   |exact bT.refl _
   |exact bT.none _
   |refine bT.ite ?_ ?_
   |refine bT.bind ?_ (fun _=>?_)
theorem bC.calls (k:Nat)(a0:ByteArray)(r1:ByteArray)(r2:Bool)(w:World)(h:bC.f k a0=some (r1,r2)):
  Calls Tryz.prog 77 #[.string a0] w fun e w'=>e= .returned (.tuple #[.string r1,.bool r2])∧Below w.heap.size w w':=by
 have HB:=zM (Below.refl w.heap.size w);have H:(bC.l0 k a0 ([]:List Int) 0)=some (r1,r2):=h;clear h;have H':=zM H;clear H;go_enter Tryz.func77,Tryz.ntmps77;go_wp2;go_loopg [4,5] k (fun kq v4 v5 w'=>∃(dJ:List Int) (aV:Int),v5= .int .i64 aV∧Aside0 (bC.l0 kq a0 dJ aV=some (r1,r2))∧Aside0 (kq≤k)∧Aside0 (Kd.R (Kd.int .u8) 5 w' w.heap.size (fun _=>True) v4 dJ)∧Aside0 (Below w.heap.size w w'))
 case atStart=>exact⟨(([]:List Int)),(0),zR,H',⟨Nat.le_refl _⟩,⟨by first|exact Kd.jB _ _ _ _ _|exact Kd.FN _ _ _ _ _|exact Kd.FT _ _ _ _ _|exact Kd.FP _ _ _ _ _|exact Kd.tH _ _ _ _ _⟩,⟨zB⟩⟩
 case round=>
  clear H';obtain⟨dJ,aV,rfl,HA,fM,rG,HB⟩:=hrel;cases gk with
  |zero=>exact absurd HA.out (by simp[bC.l0])
  |succ k1=>
   have H:=HA.out;clear HA;simp only[bC.l0]at H
   by_cases c2:aV<(a0.size:Int)
   ·rw[if_pos c2]at H;have kE:=zT c2;clear c2
    by_cases c3:0≤aV
    ·rw[if_pos c3]at H;have iI:=zT c3;clear c3
     by_cases c5:(bt a0 aV)=92
     ·rw[if_pos c5]at H;have jJ:((bt a0 aV)==92)=true:=beq_iff_eq.mpr c5;have qh:((bt a0 aV) !=92)=false:=bne_eq_false_iff_eq.mpr c5;clear c5
      by_cases c6:(wrap64 (aV+1))=(a0.size:Int)
      ·rw[if_pos c6]at H;have iP:((wrap64 (aV+1))==(a0.size:Int))=true:=beq_iff_eq.mpr c6;have og:((wrap64 (aV+1)) !=(a0.size:Int))=false:=bne_eq_false_iff_eq.mpr c6;clear c6;simp only[Option.some.injEq,Prod.mk.injEq]at H;obtain⟨rfl,rfl⟩:=H;have p4:0≤(aV:Int):=zD;have q4:aV<(a0.size:Int):=zD;have hx4:=dQ a0 aV;replace p4:=eq_true p4;replace q4:=eq_true q4;go_wp2;go_ret2;exact⟨by first|rfl|(simp[bg,bn]<;>rfl)|(simp[*,bg,bn]<;>rfl),zB⟩
      ·rw[if_neg c6]at H;have iP:((wrap64 (aV+1))==(a0.size:Int))=false:=beq_eq_false_iff_ne.mpr c6;have og:((wrap64 (aV+1)) !=(a0.size:Int))=true:=bne_iff_ne.mpr c6;obtain⟨jv,sH⟩:=zI (wrap64 (aV+1));replace H:(if 0≤(jv)then(if(jv)<(a0.size:Int)then(if(bt a0 (jv))=92 then(if dJ.length<140737488355328 then(bC.l0 k1 a0 (dJ++[92]) (wrap64 ((jv)+1)))else(none))else(if(bt a0 (jv))=116 then(if dJ.length<140737488355328 then(bC.l0 k1 a0 (dJ++[9]) (wrap64 ((jv)+1)))else(none))else(if(bt a0 (jv))=110 then(if dJ.length<140737488355328 then(bC.l0 k1 a0 (dJ++[10]) (wrap64 ((jv)+1)))else(none))else(some ((⟨#[]⟩:ByteArray),false)))))else(none))else(none))=some (r1,r2):=by first|(rw[sH]at H;exact H)|(simp only[sH]at H⊢;exact H)
       (try rw[sH]at iP)
       (try rw[sH]at og)
       have ahd:(IntKind.i64.wrap (aV+1))=jv:=(dL _).trans sH
       by_cases c8:0≤(jv)
       ·rw[if_pos c8]at H;have nP:=zT c8;clear c8
        by_cases c9:(jv)<(a0.size:Int)
        ·rw[if_pos c9]at H;have qL:=zT c9;clear c9
         by_cases c11:(bt a0 (jv))=92
         ·rw[if_pos c11]at H;have lL:((bt a0 (jv))==92)=true:=beq_iff_eq.mpr c11;have A7:((bt a0 (jv)) !=92)=false:=bne_eq_false_iff_eq.mpr c11;clear c11
          by_cases c12:dJ.length<140737488355328
          ·rw[if_pos c12]at H;have Dp:=zM c12;clear c12;obtain⟨ai3,Xg⟩:∃y_:List Int,y_=(dJ++[92]):=⟨_,rfl⟩;replace H:(bC.l0 k1 a0 ai3 (wrap64 ((jv)+1)))=some (r1,r2):=zY Xg H;have afP:=zM Xg;clear Xg;have H':=zM H;clear H;have p4:0≤(aV:Int):=zD;have q4:aV<(a0.size:Int):=zD;have hx4:=dQ a0 aV;replace p4:=eq_true p4;replace q4:=eq_true q4;have p10:0≤((jv):Int):=zD;have q10:(jv)<(a0.size:Int):=zD;have tX:=dQ a0 (jv);replace p10:=eq_true p10;replace q10:=eq_true q10;go_wp2_with (first|((with_reducible refine bK (b:= .append) (xs:= #[.tmp 33,.tmp 34]) rfl ?_);at_builtin;refine Kd.dZ (Kd.int .u8) (w0:=w) w.heap.size rfl (.tmp 33) (.tmp 34) 50 5 (.int .u8 0) 1 rfl Tryz.underlying50 info5 rfl (by decide) (by omega) u4 dJ 92 [.int .u8 92] (fun _=>True) (fun _=>False) rfl rfl ?aP (fun _ hk=>hk.elim) ?aF ?aO ?aB ?aS ?aL ?_;(case aP=>exact rfl);(case aB=>exact(by repeat(first|(with_reducible first|exact HB.out|apply ag|apply ai|apply aC)|exact HB.out)));(case aF=>exact(fun _ _=>trivial));(case aO=>exact(by(with_reducible repeat(first|apply Kd.dC|apply Kd.dD|apply Kd.dR));exact rG.out));(case aS=>exact(bP (by repeat(first|(with_reducible first|exact HB.out|apply ag|apply ai|apply aC)|exact HB.out))));(case aL=>have:=Dp.out;omega);intro atE w13 ho hb hg hat;rw[←afP.out]at ho;have dI:=zM (hb);have dG:=zM (ho);clear HB;clear rG;have HB:=dI;have afi:=dG;clear dI dG;clear ho hb hg hat));go_roundg k1
           case measure=>have:=fM.out;omega
           case rel=>exact⟨(ai3),(wrap64 ((jv)+1)),(by first|rfl|(simp;done)|(simp only[←sH]<;>(first|rfl|simp))|(simp[*];done)),H',⟨by have:=fM.out;omega⟩,⟨zO afi.out⟩,⟨zB⟩⟩
          ·rw[if_neg c12]at H;exact absurd H (by simp)
         ·rw[if_neg c11]at H;have lL:((bt a0 (jv))==92)=false:=beq_eq_false_iff_ne.mpr c11;have A7:((bt a0 (jv)) !=92)=true:=bne_iff_ne.mpr c11
          by_cases c14:(bt a0 (jv))=116
          ·rw[if_pos c14]at H;have rq:((bt a0 (jv))==116)=true:=beq_iff_eq.mpr c14;have Ba:((bt a0 (jv)) !=116)=false:=bne_eq_false_iff_eq.mpr c14;clear c14
           by_cases c15:dJ.length<140737488355328
           ·rw[if_pos c15]at H;have Uo:=zM c15;clear c15;obtain⟨ai4,Xh⟩:∃y_:List Int,y_=(dJ++[9]):=⟨_,rfl⟩;replace H:(bC.l0 k1 a0 ai4 (wrap64 ((jv)+1)))=some (r1,r2):=zY Xh H;have afQ:=zM Xh;clear Xh;have H':=zM H;clear H;have p4:0≤(aV:Int):=zD;have q4:aV<(a0.size:Int):=zD;have hx4:=dQ a0 aV;replace p4:=eq_true p4;replace q4:=eq_true q4;have p10:0≤((jv):Int):=zD;have q10:(jv)<(a0.size:Int):=zD;have tX:=dQ a0 (jv);replace p10:=eq_true p10;replace q10:=eq_true q10;go_wp2_with (first|((with_reducible refine bK (b:= .append) (xs:= #[.tmp 38,.tmp 39]) rfl ?_);at_builtin;refine Kd.dZ (Kd.int .u8) (w0:=w) w.heap.size rfl (.tmp 38) (.tmp 39) 50 5 (.int .u8 0) 1 rfl Tryz.underlying50 info5 rfl (by decide) (by omega) u4 dJ 9 [.int .u8 9] (fun _=>True) (fun _=>False) rfl rfl ?aP (fun _ hk=>hk.elim) ?aF ?aO ?aB ?aS ?aL ?_;(case aP=>exact rfl);(case aB=>exact(by repeat(first|(with_reducible first|exact HB.out|apply ag|apply ai|apply aC)|exact HB.out)));(case aF=>exact(fun _ _=>trivial));(case aO=>exact(by(with_reducible repeat(first|apply Kd.dC|apply Kd.dD|apply Kd.dR));exact rG.out));(case aS=>exact(bP (by repeat(first|(with_reducible first|exact HB.out|apply ag|apply ai|apply aC)|exact HB.out))));(case aL=>have:=Uo.out;omega);intro atF w16 ho hb hg hat;rw[←afQ.out]at ho;have dI:=zM (hb);have dG:=zM (ho);clear HB;clear rG;have HB:=dI;have afj:=dG;clear dI dG;clear ho hb hg hat));go_roundg k1
            case measure=>have:=fM.out;omega
            case rel=>exact⟨(ai4),(wrap64 ((jv)+1)),(by first|rfl|(simp;done)|(simp only[←sH]<;>(first|rfl|simp))|(simp[*];done)),H',⟨by have:=fM.out;omega⟩,⟨zO afj.out⟩,⟨zB⟩⟩
           ·rw[if_neg c15]at H;exact absurd H (by simp)
          ·rw[if_neg c14]at H;have rq:((bt a0 (jv))==116)=false:=beq_eq_false_iff_ne.mpr c14;have Ba:((bt a0 (jv)) !=116)=true:=bne_iff_ne.mpr c14
           by_cases c17:(bt a0 (jv))=110
           ·rw[if_pos c17]at H;have FZ:((bt a0 (jv))==110)=true:=beq_iff_eq.mpr c17;have JR:((bt a0 (jv)) !=110)=false:=bne_eq_false_iff_eq.mpr c17;clear c17
            by_cases c18:dJ.length<140737488355328
            ·rw[if_pos c18]at H;have JG:=zM c18;clear c18;obtain⟨ai5,Xi⟩:∃y_:List Int,y_=(dJ++[10]):=⟨_,rfl⟩;replace H:(bC.l0 k1 a0 ai5 (wrap64 ((jv)+1)))=some (r1,r2):=zY Xi H;have afR:=zM Xi;clear Xi;have H':=zM H;clear H;have p4:0≤(aV:Int):=zD;have q4:aV<(a0.size:Int):=zD;have hx4:=dQ a0 aV;replace p4:=eq_true p4;replace q4:=eq_true q4;have p10:0≤((jv):Int):=zD;have q10:(jv)<(a0.size:Int):=zD;have tX:=dQ a0 (jv);replace p10:=eq_true p10;replace q10:=eq_true q10;go_wp2_with (first|((with_reducible refine bK (b:= .append) (xs:= #[.tmp 43,.tmp 44]) rfl ?_);at_builtin;refine Kd.dZ (Kd.int .u8) (w0:=w) w.heap.size rfl (.tmp 43) (.tmp 44) 50 5 (.int .u8 0) 1 rfl Tryz.underlying50 info5 rfl (by decide) (by omega) u4 dJ 10 [.int .u8 10] (fun _=>True) (fun _=>False) rfl rfl ?aP (fun _ hk=>hk.elim) ?aF ?aO ?aB ?aS ?aL ?_;(case aP=>exact rfl);(case aB=>exact(by repeat(first|(with_reducible first|exact HB.out|apply ag|apply ai|apply aC)|exact HB.out)));(case aF=>exact(fun _ _=>trivial));(case aO=>exact(by(with_reducible repeat(first|apply Kd.dC|apply Kd.dD|apply Kd.dR));exact rG.out));(case aS=>exact(bP (by repeat(first|(with_reducible first|exact HB.out|apply ag|apply ai|apply aC)|exact HB.out))));(case aL=>have:=JG.out;omega);intro atG PR ho hb hg hat;rw[←afR.out]at ho;have dI:=zM (hb);have dG:=zM (ho);clear HB;clear rG;have HB:=dI;have afk:=dG;clear dI dG;clear ho hb hg hat));go_roundg k1
             case measure=>have:=fM.out;omega
             case rel=>exact⟨(ai5),(wrap64 ((jv)+1)),(by first|rfl|(simp;done)|(simp only[←sH]<;>(first|rfl|simp))|(simp[*];done)),H',⟨by have:=fM.out;omega⟩,⟨zO afk.out⟩,⟨zB⟩⟩
            ·rw[if_neg c18]at H;exact absurd H (by simp)
           ·rw[if_neg c17]at H;have FZ:((bt a0 (jv))==110)=false:=beq_eq_false_iff_ne.mpr c17;have JR:((bt a0 (jv)) !=110)=true:=bne_iff_ne.mpr c17;simp only[Option.some.injEq,Prod.mk.injEq]at H;obtain⟨rfl,rfl⟩:=H;have p4:0≤(aV:Int):=zD;have q4:aV<(a0.size:Int):=zD;have hx4:=dQ a0 aV;replace p4:=eq_true p4;replace q4:=eq_true q4;have p10:0≤((jv):Int):=zD;have q10:(jv)<(a0.size:Int):=zD;have tX:=dQ a0 (jv);replace p10:=eq_true p10;replace q10:=eq_true q10;go_wp2;go_ret2;exact⟨by first|rfl|(simp[bg,bn]<;>rfl)|(simp only[←sH];first|rfl|(simp[bg,bn]<;>rfl))|(simp[*,bg,bn]<;>rfl),zB⟩
        ·rw[if_neg c9]at H;exact absurd H (by simp)
       ·rw[if_neg c8]at H;exact absurd H (by simp)
     ·rw[if_neg c5]at H;have jJ:((bt a0 aV)==92)=false:=beq_eq_false_iff_ne.mpr c5;have qh:((bt a0 aV) !=92)=true:=bne_iff_ne.mpr c5
      by_cases c21:dJ.length<140737488355328
      ·rw[if_pos c21]at H;have Ur:=zM c21;clear c21;obtain⟨ai2,Xf⟩:∃y_:List Int,y_=(dJ++[bt a0 aV]):=⟨_,rfl⟩;replace H:(bC.l0 k1 a0 ai2 (wrap64 (aV+1)))=some (r1,r2):=zY Xf H;have afO:=zM Xf;clear Xf;have H':=zM H;clear H;have p4:0≤(aV:Int):=zD;have q4:aV<(a0.size:Int):=zD;have hx4:=dQ a0 aV;replace p4:=eq_true p4;replace q4:=eq_true q4;have p20:0≤(aV:Int):=zD;have q20:aV<(a0.size:Int):=zD;have amd:=dQ a0 aV;replace p20:=eq_true p20;replace q20:=eq_true q20;go_wp2_with (first|((with_reducible refine bK (b:= .append) (xs:= #[.tmp 16,.tmp 20]) rfl ?_);at_builtin;refine Kd.dZ (Kd.int .u8) (w0:=w) w.heap.size rfl (.tmp 16) (.tmp 20) 50 5 (.int .u8 0) 1 rfl Tryz.underlying50 info5 rfl (by decide) (by omega) u4 dJ (bt a0 aV) [.int .u8 (bt a0 aV)] (fun _=>True) (fun _=>False) rfl rfl ?aP (fun _ hk=>hk.elim) ?aF ?aO ?aB ?aS ?aL ?_;(case aP=>exact rfl);(case aB=>exact(by repeat(first|(with_reducible first|exact HB.out|apply ag|apply ai|apply aC)|exact HB.out)));(case aF=>exact(fun _ _=>trivial));(case aO=>exact(by(with_reducible repeat(first|apply Kd.dC|apply Kd.dD|apply Kd.dR));exact rG.out));(case aS=>exact(bP (by repeat(first|(with_reducible first|exact HB.out|apply ag|apply ai|apply aC)|exact HB.out))));(case aL=>have:=Ur.out;omega);intro atD w22 ho hb hg hat;rw[←afO.out]at ho;have dI:=zM (hb);have dG:=zM (ho);clear HB;clear rG;have HB:=dI;have afh:=dG;clear dI dG;clear ho hb hg hat));go_roundg k1
       case measure=>have:=fM.out;omega
       case rel=>exact⟨(ai2),(wrap64 (aV+1)),zR,H',⟨by have:=fM.out;omega⟩,⟨zO afh.out⟩,⟨zB⟩⟩
      ·rw[if_neg c21]at H;exact absurd H (by simp)
    ·rw[if_neg c3]at H;exact absurd H (by simp)
   ·rw[if_neg c2]at H;have kE:=zF c2;clear c2;simp only[Option.some.injEq,Prod.mk.injEq]at H;obtain⟨rfl,rfl⟩:=H;have ah5:=pV (P:=Tryz.prog) Tryz.underlying50 Tryz.underlying5 Tryz.underlying9 (Kd.jd rG.out);go_wp2;go_ret2;exact⟨by first|rfl|(simp[bg,bn]<;>rfl)|(simp[*,bg,bn]<;>rfl),zB⟩
mutual
def aQ.l0:Nat→ByteArray→Int→Int→Option (Int×Bool)
 |0,_,_,_=>none
 |k+1,x0,x4,x5=>if x5<(x0.size:Int)then(if 0≤x5 then(if(bt x0 x5)<48 then(aQ.j1 k x0 x4 x5 true)else(aQ.j1 k x0 x4 x5 (decide ((bt x0 x5)>57))))else(none))else(if(x0.size:Int)>0 then(if 0<(x0.size:Int)then(if(bt x0 0)=48 then(some (x4,((x0.size:Int)==1)))else(some (x4,true)))else(none))else(some (x4,false)))
def aQ.j1:Nat→ByteArray→Int→Int→Bool→Option (Int×Bool)
 |0,_,_,_,_=>none
 |k+1,x0,x4,x5,x21=>if x21=true then(some (0,false))else(if 0≤x5 then(if x5<(x0.size:Int)then(if(wrap64 ((wrap64 (10*x4))+(((bt x0 x5)- 48)%256)))>1000000 then(aQ.l0 k x0 1000001 (wrap64 (x5+1)))else(aQ.l0 k x0 (wrap64 ((wrap64 (10*x4))+(((bt x0 x5)- 48)%256))) (wrap64 (x5+1))))else(none))else(none))
end
def aQ.f (k:Nat)(a0:ByteArray):Option (Int×Bool):=aQ.l0 k a0 0 0
theorem aQ.cO:∀k,(∀y0 y1 y2,bT (aQ.l0 k y0 y1 y2) (aQ.l0 (k+1) y0 y1 y2))∧(∀y0 y1 y2 y3,bT (aQ.j1 k y0 y1 y2 y3) (aQ.j1 (k+1) y0 y1 y2 y3))
 |0=>⟨fun _ _ _ r h=>by simp[aQ.l0]at h,fun _ _ _ _ r h=>by simp[aQ.j1]at h⟩
 |k+1=>by
  obtain⟨gU,ih1⟩:=aQ.cO k;refine⟨?_,?_⟩
  ·intro y0 y1 y2;unfold aQ.l0
   repeat' first
   |exact gU _ _ _
   |exact ih1 _ _ _ _
   |exact bT.refl _
   |exact bT.none _
   |refine bT.ite ?_ ?_
   |refine bT.bind ?_ (fun _=>?_)
  ·intro y0 y1 y2 y3;unfold aQ.j1
   repeat' first
   |exact gU _ _ _
   |exact ih1 _ _ _ _
   |exact bT.refl _
   |exact bT.none _
   |refine bT.ite ?_ ?_
   |refine bT.bind ?_ (fun _=>?_)
theorem aQ.mono:∀a0 k,bT (aQ.f k a0) (aQ.f (k+1) a0):=by
 intro a0 k;obtain⟨gU,ih1⟩:=aQ.cO k;unfold aQ.f
 repeat' first
   |exact gU _ _ _
   |exact ih1 _ _ _ _
   |exact bT.refl _
   |exact bT.none _
   |refine bT.ite ?_ ?_
   |refine bT.bind ?_ (fun _=>?_)
theorem aQ.calls (k:Nat)(a0:ByteArray)(r1:Int)(r2:Bool)(w:World)(h:aQ.f k a0=some (r1,r2)):
  Calls Tryz.prog 76 #[.string a0] w fun e w'=>e= .returned (.tuple #[.int .i64 r1,.bool r2])∧aJ w w':=by
 have H:(aQ.l0 k a0 0 0)=some (r1,r2):=h;clear h;have H':=zM H;clear H;go_enter Tryz.func76,Tryz.ntmps76;go_wp2;go_loopg [4,5] k (fun kq v4 v5 w'=>∃(dJ:Int) (aV:Int),v4= .int .i64 dJ∧v5= .int .i64 aV∧Aside0 (aQ.l0 kq a0 dJ aV=some (r1,r2))∧Aside0 (kq≤k)∧aJ w w')
 case atStart=>exact⟨(0),(0),zR,zR,H',⟨Nat.le_refl _⟩,by repeat(first|exact aJ.refl _|apply aJ.step)⟩
 case round=>
  clear H';obtain⟨dJ,aV,rfl,rfl,HA,fM,⟨m1,rfl⟩⟩:=hrel;cases gk with
  |zero=>exact absurd HA.out (by simp[aQ.l0])
  |succ k1=>
   have H:=HA.out;clear HA;simp only[aQ.l0]at H
   by_cases c2:aV<(a0.size:Int)
   ·rw[if_pos c2]at H;have kE:=zT c2;clear c2;have QT:=zM H;clear H;go_upto_region 5 with(fail);go_cut [21] (fun v21 wc=>∃(kq:Nat) (QS:Bool),v21= .bool QS∧Aside0 (aQ.j1 kq a0 dJ aV QS=some (r1,r2))∧Aside0 (kq≤k1)∧aJ w wc)
    case first=>
     have H:=QT.out;clear QT
     by_cases c4:0≤aV
     ·rw[if_pos c4]at H;have ig:=zT c4;clear c4
      (first|rw[ig]|(simp only[dL,jK];rw[ig])|skip)
      by_cases c6:(bt a0 aV)<48
      ·rw[if_pos c6]at H;have iP:=zT c6;clear c6;have H':=zM H;clear H;have p5:0≤(aV:Int):=zD;have q5:aV<(a0.size:Int):=zD;have hx5:=dQ a0 aV;replace p5:=eq_true p5;replace q5:=eq_true q5;go_wp2;go_meet
       case rel=>exact⟨_,(true),zR,H',⟨by have:=fM.out;first|omega|exact Nat.le_refl _⟩,by repeat(first|exact aJ.refl _|apply aJ.step)⟩
      ·rw[if_neg c6]at H;have iP:=zF c6;clear c6;have H':=zM H;clear H;have p5:0≤(aV:Int):=zD;have q5:aV<(a0.size:Int):=zD;have hx5:=dQ a0 aV;replace p5:=eq_true p5;replace q5:=eq_true q5;have p7:0≤(aV:Int):=zD;have q7:aV<(a0.size:Int):=zD;have hx7:=dQ a0 aV;replace p7:=eq_true p7;replace q7:=eq_true q7;go_wp2;go_meet
       case rel=>exact⟨_,(decide ((bt a0 aV)>57)),zR,H',⟨by have:=fM.out;first|omega|exact Nat.le_refl _⟩,by repeat(first|exact aJ.refl _|apply aJ.step)⟩
     ·rw[if_neg c4]at H;exact absurd H (by simp)
    case rest=>
     clear QT;try clear c2
     try clear kE
     try clear p2
     try clear c4
     try clear ig
     try clear p5
     try clear q5
     try clear hx5
     try clear c6
     try clear iP
     try clear c7
     try clear p7
     try clear q7
     try clear hx7
     try clear p5
     try clear p7
     try clear q5
     try clear q7
     obtain⟨kq,QS,rfl,HA,HJ2,⟨mc2,rfl⟩⟩:=hcut;cases kq with
     |zero=>exact absurd HA.out (by simp[aQ.j1])
     |succ YO=>
      have H:=HA.out;clear HA;simp only[aQ.j1]at H
      by_cases c8:QS=true
      ·subst c8;have H1:(some (0,false))=some (r1,r2):=by rw[if_pos rfl]at H;exact H
       clear H;have H:=H1;clear H1;simp only[Option.some.injEq,Prod.mk.injEq]at H;obtain⟨rfl,rfl⟩:=H;go_wp2;go_ret2;exact⟨zR,by repeat(first|exact aJ.refl _|apply aJ.step)⟩
      ·replace c8:=Bool.eq_false_iff.mpr c8;subst c8;have H1:(if 0≤aV then(if aV<(a0.size:Int)then(if(wrap64 ((wrap64 (10*dJ))+(((bt a0 aV)- 48)%256)))>1000000 then(aQ.l0 YO a0 1000001 (wrap64 (aV+1)))else(aQ.l0 YO a0 (wrap64 ((wrap64 (10*dJ))+(((bt a0 aV)- 48)%256))) (wrap64 (aV+1))))else(none))else(none))=some (r1,r2):=by rw[if_neg (show¬(false=true)by decide)]at H;exact H
       clear H;have H:=H1;clear H1
       by_cases c9:0≤aV
       ·rw[if_pos c9]at H;have qL:=zT c9;clear c9
        by_cases c10:aV<(a0.size:Int)
        ·rw[if_pos c10]at H;have yB:=zT c10;clear c10
         by_cases c12:(wrap64 ((wrap64 (10*dJ))+(((bt a0 aV)- 48)%256)))>1000000
         ·rw[if_pos c12]at H;have rf:=zT c12;clear c12;have H':=zM H;clear H;have p11:0≤(aV:Int):=zD;have q11:aV<(a0.size:Int):=zD;have am9:=dQ a0 aV;replace p11:=eq_true p11;replace q11:=eq_true q11;go_wp2;go_roundg YO
          case measure=>have:=fM.out;have:=HJ2.out;omega
          case rel=>exact⟨(1000001),(wrap64 (aV+1)),zR,zR,H',⟨by have:=fM.out;have:=HJ2.out;omega⟩,by repeat(first|exact aJ.refl _|apply aJ.step)⟩
         ·rw[if_neg c12]at H;have rf:=zF c12;clear c12;have H':=zM H;clear H;have p11:0≤(aV:Int):=zD;have q11:aV<(a0.size:Int):=zD;have am9:=dQ a0 aV;replace p11:=eq_true p11;replace q11:=eq_true q11;go_wp2;go_roundg YO
          case measure=>have:=fM.out;have:=HJ2.out;omega
          case rel=>exact⟨(wrap64 ((wrap64 (10*dJ))+(((bt a0 aV)- 48)%256))),(wrap64 (aV+1)),zR,zR,H',⟨by have:=fM.out;have:=HJ2.out;omega⟩,by repeat(first|exact aJ.refl _|apply aJ.step)⟩
        ·rw[if_neg c10]at H;exact absurd H (by simp)
       ·rw[if_neg c9]at H;exact absurd H (by simp)
   ·rw[if_neg c2]at H;have kE:=zF c2;clear c2
    by_cases c13:(a0.size:Int)>0
    ·rw[if_pos c13]at H;have oK:=zT c13;have P9:decide (0<a0.size)=true:=decide_eq_true (by omega);clear c13
     by_cases c14:0<(a0.size:Int)
     ·rw[if_pos c14]at H;have rq:=zT c14;have Ba:decide (0<a0.size)=true:=decide_eq_true (by omega);clear c14
      by_cases c16:(bt a0 0)=48
      ·rw[if_pos c16]at H;have UT:((bt a0 0)==48)=true:=beq_iff_eq.mpr c16;have agq:((bt a0 0) !=48)=false:=bne_eq_false_iff_eq.mpr c16;clear c16;simp only[Option.some.injEq,Prod.mk.injEq]at H;obtain⟨rfl,rfl⟩:=H;have p15:0≤(0:Int):=(by omega);have q15:0<a0.size:=(by have:(0:Int)<(a0.size:Int):=zD;omega);have amc:∀h:0<a0.size,((a0[0]'h).toNat:Int)=bt a0 0:=dQ a0 0;clear p15;have amA:(0<(a0.size:Int))=True:=eq_true (zD);replace q15:=eq_true q15;go_wp2;go_ret2;exact⟨zR,by repeat(first|exact aJ.refl _|apply aJ.step)⟩
      ·rw[if_neg c16]at H;have UT:((bt a0 0)==48)=false:=beq_eq_false_iff_ne.mpr c16;have agq:((bt a0 0) !=48)=true:=bne_iff_ne.mpr c16;simp only[Option.some.injEq,Prod.mk.injEq]at H;obtain⟨rfl,rfl⟩:=H;have p15:0≤(0:Int):=(by omega);have q15:0<a0.size:=(by have:(0:Int)<(a0.size:Int):=zD;omega);have amc:∀h:0<a0.size,((a0[0]'h).toNat:Int)=bt a0 0:=dQ a0 0;clear p15;have amA:(0<(a0.size:Int))=True:=eq_true (zD);replace q15:=eq_true q15;go_wp2;go_ret2;exact⟨zR,by repeat(first|exact aJ.refl _|apply aJ.step)⟩
     ·rw[if_neg c14]at H;exact absurd H (by simp)
    ·rw[if_neg c13]at H;have oK:=zF c13;have P9:decide (0<a0.size)=false:=decide_eq_false (by omega);clear c13;simp only[Option.some.injEq,Prod.mk.injEq]at H;obtain⟨rfl,rfl⟩:=H;go_wp2;go_ret2;exact⟨zR,by repeat(first|exact aJ.refl _|apply aJ.step)⟩
def bu.l0:Nat→List Bool→Bool→Int→Int→Option (Int)
 |0,_,_,_,_=>none
 |k+1,x0,x1,x7,x8=>if x8<x7 then(if 0≤x8 then(if x8<(x0.length:Int)then(if(x1==(jg false x0 x8))=true then(some x8)else(bu.l0 k x0 x1 x7 (wrap64 (x8+1))))else(none))else(none))else(some (-1))
def bu.f (k:Nat)(l0:List Bool)(a1:Bool):Option (Int):=bu.l0 k l0 a1 (l0.length:Int) 0
theorem bu.cO:∀k,(∀y0 y1 y2 y3,bT (bu.l0 k y0 y1 y2 y3) (bu.l0 (k+1) y0 y1 y2 y3))
 |0=>fun _ _ _ _ r h=>by simp[bu.l0]at h
 |k+1=>by
  have gU:=bu.cO k
  ·intro y0 y1 y2 y3;unfold bu.l0
   repeat' first
   |exact gU _ _ _ _
   |exact bT.refl _
   |exact bT.none _
   |refine bT.ite ?_ ?_
   |refine bT.bind ?_ (fun _=>?_)
theorem bu.mono:∀a0 a1 k,bT (bu.f k a0 a1) (bu.f (k+1) a0 a1):=by
 intro a0 a1 k;have gU:=bu.cO k;unfold bu.f
 repeat' first
   |exact gU _ _ _ _
   |exact bT.refl _
   |exact bT.none _
   |refine bT.ite ?_ ?_
   |refine bT.bind ?_ (fun _=>?_)
theorem bu.calls (k:Nat)(A0:Option Addr)(c0:Nat)(l0:List Bool)(a1:Bool)(r:Int)(w:World)(hr0:Kd.C Kd.bool w A0 l0.length l0)(hc0:l0.length≤c0)(h:bu.f k l0 a1=some r):
  Calls Tryz.prog 107 #[.slice A0 l0.length c0,.bool a1] w fun e w'=>e= .returned (.int .i64 r)∧aJ w w':=by
 have HR0:=zM hr0;have Hw:=zM hc0;clear hr0 hc0;have H:(bu.l0 k l0 a1 (l0.length:Int) 0)=some r:=h;clear h;have H':=zM H;clear H;go_enter Tryz.func107,Tryz.ntmps107;go_wp2;go_loopg [8] k (fun kq v8 w'=>∃(bU:Int),v8= .int .i64 bU∧Aside0 (bu.l0 kq l0 a1 (l0.length:Int) bU=some r)∧Aside0 (kq≤k)∧aJ w w')
 case atStart=>exact⟨(0),zR,H',⟨Nat.le_refl _⟩,by repeat(first|exact aJ.refl _|apply aJ.step)⟩
 case round=>
  clear H';try clear c1
  try clear p2
  obtain⟨bU,rfl,HA,fM,⟨m1,rfl⟩⟩:=hrel;cases gk with
  |zero=>exact absurd HA.out (by simp[bu.l0])
  |succ k1=>
   have H:=HA.out;clear HA;simp only[bu.l0]at H
   by_cases c3:bU<(l0.length:Int)
   ·rw[if_pos c3]at H;have iI:=zT c3;clear c3
    by_cases c4:0≤bU
    ·rw[if_pos c4]at H;have ig:=zT c4;clear c4
     by_cases c5:bU<(l0.length:Int)
     ·rw[if_pos c5]at H;have jJ:=zT c5;clear c5
      by_cases c6:(a1==(jg false l0 bU))=true
      ·rw[if_pos c6]at H;have iP:(a1==(jg false l0 bU))=true:=c6
       (try (have og:decide (a1=(jg false l0 bU))=true:=by simpa using c6))
       (try (have akH:(a1==(jg false l0 bU))=true:=by simpa using c6))
       clear c6;obtain rfl:=Option.some.inj H;have OY:0≤(bU:Int):=zD;have Po:bU<(l0.length:Int):=zD;obtain⟨agj,aco,ZU⟩:=Kd.P8 HR0.out bU OY Po;cases aco;replace OY:=eq_true OY;replace Po:=eq_true Po;go_wp2;go_ret;exact⟨zR,by repeat(first|exact aJ.refl _|apply aJ.step)⟩
      ·rw[if_neg c6]at H;have iP:(a1==(jg false l0 bU))=false:=by simpa using c6
       (try (have og:decide (a1=(jg false l0 bU))=false:=by simpa using c6))
       (try (have akH:(a1==(jg false l0 bU))=false:=by simpa using c6))
       (try (have aqG:¬(a1=(jg false l0 bU)):=by simpa using c6))
       clear c6;have H':=zM H;clear H;have OY:0≤(bU:Int):=zD;have Po:bU<(l0.length:Int):=zD;obtain⟨agj,aco,ZU⟩:=Kd.P8 HR0.out bU OY Po;cases aco;replace OY:=eq_true OY;replace Po:=eq_true Po;go_wp2;go_roundg k1
       case measure=>have:=fM.out;omega
       case rel=>exact⟨(wrap64 (bU+1)),zR,H',⟨by have:=fM.out;omega⟩,by repeat(first|exact aJ.refl _|apply aJ.step)⟩
     ·rw[if_neg c5]at H;exact absurd H (by simp)
    ·rw[if_neg c4]at H;exact absurd H (by simp)
   ·rw[if_neg c3]at H;have iI:=zF c3;clear c3;obtain rfl:=Option.some.inj H;go_wp2;go_ret;exact⟨zR,by repeat(first|exact aJ.refl _|apply aJ.step)⟩
def eu.f (k:Nat)(l0:List Bool)(a1:Bool):Option (Bool):=(bu.f k l0 a1).bind fun Tv=>(some (decide (Tv≥0)))
theorem eu.mono:∀a0 a1 k,bT (eu.f k a0 a1) (eu.f (k+1) a0 a1):=by
 intro a0 a1 k;unfold eu.f
 repeat' first
   |(with_reducible exact bu.mono _ _ _)
   |exact bT.refl _
   |exact bT.none _
   |refine bT.ite ?_ ?_
   |refine bT.bind ?_ (fun _=>?_)
   |exact bu.mono _ _ _
theorem eu.calls (k:Nat)(A0:Option Addr)(c0:Nat)(l0:List Bool)(a1:Bool)(r:Bool)(w:World)(hr0:Kd.C Kd.bool w A0 l0.length l0)(hc0:l0.length≤c0)(h:eu.f k l0 a1=some r):
  Calls Tryz.prog 71 #[.slice A0 l0.length c0,.bool a1] w fun e w'=>e= .returned (.bool r)∧aJ w w':=by
 have HR0:=zM hr0;have Hw:=zM hc0;clear hr0 hc0;have H:((bu.f k l0 a1).bind fun Tv=>(some (decide (Tv≥0))))=some r:=h;clear h;replace H:=Option.bind_eq_some_iff.mp H;obtain⟨Tv,TS,H⟩:=H;replace H:(some (decide (Tv≥0)))=some r:=H;have A3:=zM TS;clear TS;obtain rfl:=Option.some.inj H;go_enter Tryz.func71,Tryz.ntmps71;go_wp2_with (first|((with_reducible refine iJ (f:=107) rfl ?_);refine pO (some 7) rfl rfl Tryz.func107 (by kernel_rfl) rfl #[.slice A0 l0.length c0,.bool a1] rfl (by(try simp only[List.map_toArray,List.map_cons,List.map_nil]);first|done|rfl|(simp only[List.length_drop,List.length_take];rfl)) ?_;(with_reducible refine(bu.calls k _ _ l0 a1 Tv _ ?side1 ?side2 A3.out).mono ?_);(case side1=>repeat(first|exact HR0.out|(with_reducible refine Kd.lg ?_ _)|(with_reducible refine Kd.lh ?_ _)|(with_reducible refine Kd.nV ?_)));(case side2=>exact Hw.out);rintro e w' ⟨rfl,⟨nd,rfl⟩⟩;refine⟨_,rfl,?_⟩));go_ret;exact⟨zR,by repeat(first|exact aJ.refl _|apply aJ.step)⟩
end Go.Proofs.YthbdjmopolpjmaaGreatDoor.F
namespace Go.Proofs.YthbdjmopolpjmaaGreatDoor.M
open Go.Proofs.YthbdjmopolpjmaaGreatDoorW.PrintWords
def val (B:Int):List Int→Int
 | []=>0
 |x::xs=>x+B*val B xs
def gV (B:Int)(xs:List Int):Prop:=∀x,x∈xs→0≤x∧x<B
theorem val_append (B:Int)(xs ys:List Int):val B (xs++ys)=val B xs+B^xs.length*val B ys:=by
 induction xs with
 |nil=>simp[val]
 |cons x xs ih=>
  simp only[List.cons_append,val,ih,List.length_cons,Int.pow_succ];grind
theorem rF (B:Int)(xs:List Int)(v:Int):val B (xs++[v])=val B xs+B^xs.length*v:=by
 rw[val_append];simp[val]
theorem nM (B:Int)(n:Nat):val B (List.replicate n 0)=0:=by
 induction n with
 |zero=>rfl
 |succ n ih=>simp[List.replicate_succ,val,ih]
theorem nJ (B:Int):gV B []:=fun x h=>by simp at h
theorem jX {B x:Int}{xs:List Int}:gV B (x::xs)↔(0≤x∧x<B)∧gV B xs:=by simp[gV]
theorem pg {B:Int}{xs ys:List Int}:gV B (xs++ys)↔gV B xs∧gV B ys:=by
 constructor
 ·intro h;exact⟨fun x hx=>h x (by simp[hx]),fun x hx=>h x (by simp[hx])⟩
 ·intro h x hx;rcases List.mem_append.1 hx with hx|hx
  ·exact h.1 x hx
  ·exact h.2 x hx
theorem jA {B:Int}(hB:0<B)(n:Nat):gV B (List.replicate n 0):=fun x hx=>by
 obtain⟨_,rfl⟩:=List.mem_replicate.1 hx;omega
theorem fK {B:Int}{xs:List Int}(h:gV B xs)(n:Nat):gV B (xs.take n):=fun x hx=>h x (List.mem_of_mem_take hx)
theorem lX {B:Int}{xs:List Int}(h:gV B xs)(n:Nat):gV B (xs.drop n):=fun x hx=>h x (List.mem_of_mem_drop hx)
theorem jF {B:Int}{xs:List Int}(h:gV B xs)(i:Nat){v:Int}(hv:0≤v∧v<B):gV B (xs.set i v):=fun x hx=>by
 rcases List.mem_or_eq_of_mem_set hx with hx|rfl
 ·exact h x hx
 ·exact hv
theorem gG {B:Int}{xs:List Int}(h:gV B xs)(i:Int)(h1:i.toNat<xs.length):0≤rd xs i∧rd xs i<B:=by
 unfold rd;rw[List.getD_eq_getElem?_getD,List.getElem?_eq_getElem h1];exact h _ (List.getElem_mem _)
theorem kJ {B:Int}(hB:0<B)(n:Nat):0<B^n:=Int.pow_pos hB
theorem dW {B:Int}(hB:0≤B):∀{xs:List Int},gV B xs→0≤val B xs
 | [],_=>Int.le_refl _
 |x::xs,h=>by
  have h1:=jX.1 h;have h2:=dW hB h1.2;have:=Int.mul_nonneg hB h2;simp only[val];omega
theorem lY {B:Int}(hB:0<B):∀{xs:List Int},gV B xs→val B xs<B^xs.length
 | [],_=>by simp[val]
 |x::xs,h=>by
  have h1:=jX.1 h;have h2:=lY hB h1.2;have h3:B*(val B xs+1)≤B*B^xs.length:=Int.mul_le_mul_of_nonneg_left (by omega) (by omega);simp only[val,List.length_cons,Int.pow_succ];rw[Int.mul_comm (B^xs.length) B];rw[Int.mul_add]at h3;omega
theorem lF (B:Int)(xs:List Int)(n:Nat)(h:n≤xs.length):val B xs=val B (xs.take n)+B^n*val B (xs.drop n):=by
 have:=val_append B (xs.take n) (xs.drop n);rw[List.take_append_drop,List.length_take,Nat.min_eq_left h]at this;exact this
theorem Fq (xs:List Int)(i:Nat)(v:Int)(h:i<xs.length):(xs.set i v).take (i+1)=xs.take i++[v]:=by
 rw[List.take_succ_eq_append_getElem (by simpa using h)]
 congr 1
 ·rw[List.take_set_of_le (Nat.le_refl i)]
 ·simp
theorem jZ (xs:List Int)(i:Nat)(v:Int):(xs.set i v).drop (i+1)=xs.drop (i+1):=by
 rw[List.drop_set_of_lt (by omega)]
theorem zh (xs:List Int)(i:Nat)(h:i<xs.length):xs.take (i+1)=xs.take i++[rd xs i]:=by
 rw[List.take_succ_eq_append_getElem h];unfold rd;simp[List.getElem?_eq_getElem h]
theorem kP (xs:List Int)(i:Nat)(h:i<xs.length):xs.drop i=rd xs i::xs.drop (i+1):=by
 rw[List.drop_eq_getElem_cons h];unfold rd;simp[List.getElem?_eq_getElem h]
theorem pY {xs ys:List Int}{i:Nat}(h:i<xs.length)(hd:xs.drop i=ys.drop i):rd xs i=rd ys i:=by
 unfold rd;have h1:=congrArg (fun l=>l[0]?) hd;simp only[List.getElem?_drop,Nat.add_zero]at h1;simp[List.getD_eq_getElem?_getD,h1]
theorem rY {xs ys:List Int}{i:Nat}(hd:xs.drop i=ys.drop i):xs.drop (i+1)=ys.drop (i+1):=by
 rw[←List.drop_drop,←List.drop_drop,hd]
theorem dP (B:Int)(xs:List Int)(i:Nat)(h:i<xs.length):val B (xs.take (i+1))=val B (xs.take i)+B^i*rd xs i:=by
 rw[zh xs i h,rF,List.length_take,Nat.min_eq_left (by omega)]
theorem jV (B:Int)(xs:List Int)(i:Nat)(v:Int)(h:i<xs.length):val B ((xs.set i v).take (i+1))=val B (xs.take i)+B^i*v:=by
 rw[Fq xs i v h,rF,List.length_take,Nat.min_eq_left (by omega)]
def Trim (xs:List Int):Prop:=∀h:xs≠[],xs.getLast h≠0
theorem MO:Trim []:=fun h=>absurd rfl h
theorem uQ {B:Int}(hB:0<B){xs:List Int}(hd:gV B xs)(ht:Trim xs)(hn:xs≠[]):B^(xs.length- 1)≤val B xs:=by
 have h1:xs=xs.dropLast++[xs.getLast hn]:=(List.dropLast_concat_getLast hn).symm;have h2:=hd (xs.getLast hn) (List.getLast_mem hn);have h3:=ht hn
 have h4:val B xs=val B xs.dropLast+B^xs.dropLast.length*xs.getLast hn:=by
  conv=>lhs;rw[h1]
  exact rF ..
 have h5:0≤val B xs.dropLast:=dW (by omega) (fun x hx=>hd x (List.dropLast_subset _ hx));have h6:B^xs.dropLast.length*1≤B^xs.dropLast.length*xs.getLast hn:=Int.mul_le_mul_of_nonneg_left (by omega) (Int.le_of_lt (kJ hB _));rw[List.length_dropLast]at h4 h6;omega
theorem vV {B:Int}(hB:0<B){xs:List Int}(hd:gV B xs)(ht:Trim xs)(hn:xs≠[]):0<val B xs:=
 Int.lt_of_lt_of_le (kJ hB _) (uQ hB hd ht hn)
theorem tC {B:Int}(hB:0<B){xs:List Int}(hd:gV B xs)(ht:Trim xs):val B xs=0↔xs=[]:=by
 constructor
 ·intro h
  by_cases hn:xs=[]
  ·exact hn
  ·have:=vV hB hd ht hn;omega
 ·rintro rfl;rfl
theorem kH {B:Int}(hB:1≤B){m n:Nat}(h:m≤n):B^m≤B^n:=by
 obtain⟨d,rfl⟩:=Nat.exists_eq_add_of_le h;rw[Int.pow_add];have h1:0<B^m:=kJ (by omega) m;have h2:0<B^d:=kJ (by omega) d;have:=Int.mul_le_mul_of_nonneg_left (show 1≤B^d by omega) (Int.le_of_lt h1);omega
theorem ku {B:Int}(hB:1≤B){xs ys:List Int}(hx:gV B xs)(hy:gV B ys)(hty:Trim ys)(h:xs.length<ys.length):val B xs<val B ys:=by
 have h1:=lY (by omega) hx;have h2:=uQ (by omega) hy hty (by intro h0;subst h0;simp at h);have h3:=kH hB (show xs.length≤ys.length- 1 by omega);omega
theorem qM {B:Int}(hB:1≤B){xs ys:List Int}(hx:gV B xs)(hy:gV B ys)(hty:Trim ys)(h:val B ys≤val B xs):ys.length≤xs.length:=by
 by_cases hl:xs.length<ys.length
 ·have:=ku hB hx hy hty hl;omega
 ·omega
theorem vU {B:Int}(hB:0<B){xs ys:List Int}{i:Nat}(hx:gV B xs)(hy:gV B ys)(hix:i<xs.length)(hiy:i<ys.length)(hd:xs.drop (i+1)=ys.drop (i+1))(h:rd xs i<rd ys i):val B xs<val B ys:=by
 rw[lF B xs (i+1) (by omega),lF B ys (i+1) (by omega),hd,dP B xs i hix,dP B ys i hiy];have h1:=lY hB (fK hx i);rw[List.length_take,Nat.min_eq_left (by omega)]at h1;have h2:=dW (by omega) (fK hy i);have h3:B^i*(rd xs i+1)≤B^i*rd ys i:=Int.mul_le_mul_of_nonneg_left (by omega) (Int.le_of_lt (kJ hB i));rw[Int.mul_add]at h3;omega
theorem Jo {xs:List Int}{n:Nat}(h0:0<n)(hn:n≤xs.length)(h:rd xs ((n:Int)- 1)≠0):Trim (xs.take n):=by
 intro hne;rw[List.getLast_eq_getElem,List.getElem_take]
 have:rd xs ((n:Int)- 1)=xs[n- 1]'(by omega):=by
  unfold rd;have e:((n:Int)- 1).toNat=n- 1:=by omega
  rw[e];simp[List.getElem?_eq_getElem (show n- 1<xs.length by omega)]
 rw[this]at h;have hl:(xs.take n).length- 1=n- 1:=by rw[List.length_take,Nat.min_eq_left hn]
 simp only[hl];exact h
theorem aan {xs:List Int}(hn:xs≠[]):rd xs ((xs.length:Int)- 1)=xs.getLast hn:=by
 have h0:0<xs.length:=List.length_pos_iff.2 hn;unfold rd;have e:((xs.length:Int)- 1).toNat=xs.length- 1:=by omega
 rw[e,List.getLast_eq_getElem];simp[List.getElem?_eq_getElem (show xs.length- 1<xs.length by omega)]
theorem rX {a b q r:Int}(h:a=q*b+r)(h0:0≤r)(h1:r<b):a/b=q∧a%b=r:=by
 have hb:0<b:=by omega
 have h2:a%b=r:=by rw[h,Int.add_comm,Int.add_mul_emod_self_right,Int.emod_eq_of_lt h0 h1]
 refine⟨?_,h2⟩;have:=Int.mul_ediv_add_emod a b;rw[h2]at this;have h3:b*(a/b)=b*q:=by rw[Int.mul_comm b q];omega
 exact Int.eq_of_mul_eq_mul_left (by omega) h3
end Go.Proofs.YthbdjmopolpjmaaGreatDoor.M
